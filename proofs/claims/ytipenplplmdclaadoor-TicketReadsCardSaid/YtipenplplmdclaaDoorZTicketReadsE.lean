/- What the proof of TicketReads leans on: words, walks and plain laws, part 5; laid by wip/trim.py out of this session's own texts and of what the kit's tools wrote for this seat. -/
import Derived.Test.YtipenplplmdclaaDoorZTicketReadsD
import Derived.Laws.Strings
set_option linter.unusedVariables false
set_option linter.unusedSimpArgs false
section
namespace Go.Proofs.YtipenplplmdclaaDoor.Px
open Go.RowKit Go.Proofs.YtipenplplmdclaaDoorW.PrintWords Go.Proofs.YtipenplplmdclaaDoorW.PrintLast Go.Proofs.YtipenplplmdclaaDoorW.PrintMore
attribute [local go_sem] max2_int min2_int max_two min_two max_three min_three max_four min_four
set_option linter.unusedVariables false
set_option linter.unusedSimpArgs false
def gongref18_Read.j0 : Nat → Bool → ByteArray → Int → Int → ByteArray → ByteArray → ByteArray → Int → ByteArray → Option (ByteArray × ByteArray × ByteArray × Int × ByteArray × ByteArray × Int × Int)
  | 0, _, _, _, _, _, _, _, _, _ => none
  | k + 1, x28, x1000, x1001, x1002, x403000, x403001, x403002, x403003, x403004 => if x28 = true then ((uR_Refuse.f x1000 x1001 x1002 180).bind fun bt420 => (if bt420.2.2 = 0 then (some (x403000, x403001, x403002, x403003, x403004, bt420.1, bt420.2.1, bt420.2.2)) else (some ((⟨#[]⟩ : ByteArray), (⟨#[]⟩ : ByteArray), (⟨#[]⟩ : ByteArray), 0, (⟨#[]⟩ : ByteArray), bt420.1, bt420.2.1, bt420.2.2)))) else (if x1002 = 0 then (some (x403000, x403001, x403002, x403003, x403004, x1000, x1001, x1002)) else (some ((⟨#[]⟩ : ByteArray), (⟨#[]⟩ : ByteArray), (⟨#[]⟩ : ByteArray), 0, (⟨#[]⟩ : ByteArray), x1000, x1001, x1002)))
def gongref18_Read.f (k : Nat) (s0_0 : ByteArray) (s0_1 : Int) (s0_2 : Int) : Option (ByteArray × ByteArray × ByteArray × Int × ByteArray × ByteArray × Int × Int) := (uR_Text.f k s0_0 s0_1 s0_2 64).bind fun bt398 => ((uR_Text.f k bt398.2.1 bt398.2.2.1 bt398.2.2.2 64).bind fun bt403 => ((uR_Text.f k bt403.2.1 bt403.2.2.1 bt403.2.2.2 128).bind fun bt407 => ((uR_Text.f k bt407.2.1 bt407.2.2.1 bt407.2.2.2 1024).bind fun bt411 => ((uR_Groups.f k bt411.2.1 bt411.2.2.1 bt411.2.2.2 5).bind fun bt415 => (if bt415.2.2.2 = 0 then ((gongref18_Check.f k bt398.1 bt403.1 bt407.1 bt415.1 bt411.1).bind fun t419 => (gongref18_Read.j0 k (t419 != 0) bt415.2.1 bt415.2.2.1 bt415.2.2.2 bt398.1 bt403.1 bt407.1 bt415.1 bt411.1)) else (gongref18_Read.j0 k false bt415.2.1 bt415.2.2.1 bt415.2.2.2 bt398.1 bt403.1 bt407.1 bt415.1 bt411.1))))))
set_option maxHeartbeats 8000000 in
set_option maxRecDepth 100000 in
theorem gongref18_Read.calls (k : Nat) (g : Nat) (s0_0 : ByteArray) (s0_1 : Int) (s0_2 : Int) (r1 : ByteArray) (r2 : ByteArray) (r3 : ByteArray) (r4 : Int) (r5 : ByteArray) (r6 : ByteArray) (r7 : Int) (r8 : Int) (w0 w : World) (hI : J6 w0 w g s0_0 s0_1 s0_2) (hB : Below w0.heap.size w0 w) (h : gongref18_Read.f k s0_0 s0_1 s0_2 = some (r1, r2, r3, r4, r5, r6, r7, r8)) :
  Calls Tryd.prog 62 #[.pointer (some ⟨g, 0, none⟩)] w fun e w' => e = .returned (.agg #[.string r1, .string r2, .string r3, .int .i64 r4, .string r5]) ∧ J6 w0 w' g r6 r7 r8 ∧ Below w0.heap.size w0 w' ∧ KeepBut w w' g none := by
 have hu23 := Tryd.underlying23
 have HI0 := Aside0.mk hI
 have HK := Aside0.mk (KeepBut.refl w g none)
 have HL := Aside0.mk hB.size
 clear hI
 have HW0 := Aside0.mk hB.size
 have HB := Aside0.mk hB
 clear hB
 have H : ((uR_Text.f k s0_0 s0_1 s0_2 64).bind fun bt398 => ((uR_Text.f k bt398.2.1 bt398.2.2.1 bt398.2.2.2 64).bind fun bt403 => ((uR_Text.f k bt403.2.1 bt403.2.2.1 bt403.2.2.2 128).bind fun bt407 => ((uR_Text.f k bt407.2.1 bt407.2.2.1 bt407.2.2.2 1024).bind fun bt411 => ((uR_Groups.f k bt411.2.1 bt411.2.2.1 bt411.2.2.2 5).bind fun bt415 => (if bt415.2.2.2 = 0 then ((gongref18_Check.f k bt398.1 bt403.1 bt407.1 bt415.1 bt411.1).bind fun t419 => (gongref18_Read.j0 k (t419 != 0) bt415.2.1 bt415.2.2.1 bt415.2.2.2 bt398.1 bt403.1 bt407.1 bt415.1 bt411.1)) else (gongref18_Read.j0 k false bt415.2.1 bt415.2.2.1 bt415.2.2.2 bt398.1 bt403.1 bt407.1 bt415.1 bt411.1))))))) = some (r1, r2, r3, r4, r5, r6, r7, r8) := h
 clear h
 replace H := Option.bind_eq_some_iff.mp H
 obtain ⟨⟨t398, t399, t400, t401⟩, A20, H⟩ := H
 try dsimp only at H
 have A2 := Aside0.mk A20
 clear A20
 replace H := Option.bind_eq_some_iff.mp H
 obtain ⟨⟨t403, t404, t405, t406⟩, A30, H⟩ := H
 try dsimp only at H
 have A3 := Aside0.mk A30
 clear A30
 replace H := Option.bind_eq_some_iff.mp H
 obtain ⟨⟨t407, t408, t409, t410⟩, A40, H⟩ := H
 try dsimp only at H
 have A4 := Aside0.mk A40
 clear A40
 replace H := Option.bind_eq_some_iff.mp H
 obtain ⟨⟨t411, t412, t413, t414⟩, A50, H⟩ := H
 try dsimp only at H
 have A5 := Aside0.mk A50
 clear A50
 replace H := Option.bind_eq_some_iff.mp H
 obtain ⟨⟨t415, t416, t417, t418⟩, A60, H⟩ := H
 try dsimp only at H
 have A6 := Aside0.mk A60
 clear A60
 have HC7 := Aside0.mk H
 clear H
 go_enter Tryd.func62, Tryd.ntmps62
 go_upto_region 6 with (first | ((with_reducible refine gD_ (N := 2) rfl ?_); refine gB_ ?hg (N := 2) ?hd (cs := #[.string (⟨#[]⟩ : ByteArray), .string (⟨#[]⟩ : ByteArray), .string (⟨#[]⟩ : ByteArray), .int .i64 0, .string (⟨#[]⟩ : ByteArray)]) (t := 23) ?hr ?_; (case hd => rfl); (case hg => rfl); (case hr => first | (go_simp; done) | (go_simp; rfl)); intro gb397 hg w8 hbox hb; have n0_ := Aside0.mk (J6.below (by repeat (first | (with_reducible first | exact HI0.out | apply J6.alloc | apply J6.drewN | apply J6.drew | apply J6.set_0 | apply J6.set_1 | apply J6.set_2) | exact HI0.out)) hb); have n1_ := Aside0.mk (KeepBut.trans (by repeat (first | (with_reducible first | exact HK.out | apply KeepBut.set_ | apply pN_ | apply pD_ | apply pA_) | exact HK.out)) (KeepBut.of_below hb g none) (.inl rfl)); have n2_ := Aside0.mk (bT_ (by repeat (first | (with_reducible first | exact HB.out | apply bA_ | apply bN_ | apply bD_ | refine bS_ ?_ (J6.ge HI0.out)) | exact HB.out)) hb); have n3_ := Aside0.mk (hbox); have n4_ := Aside0.mk ((by rw [hg]; exact (keep_size (w := w) (g := g) (row := none) (by repeat (first | (with_reducible first | exact HK.out | apply KeepBut.set_ | apply pN_ | apply pD_ | apply pA_) | exact HK.out))) : w.heap.size ≤ gb397)); have n5_ := Aside0.mk ((Nat.le_trans HW0.out (by rw [hg]; exact (keep_size (w := w) (g := g) (row := none) (by repeat (first | (with_reducible first | exact HK.out | apply KeepBut.set_ | apply pN_ | apply pD_ | apply pA_) | exact HK.out))) : w.heap.size ≤ gb397) : w0.heap.size ≤ gb397)); have n6_ := Aside0.mk ((by rw [hg]; exact Nat.ne_of_lt (J6.lt (show J6 w0 _ g s0_0 s0_1 s0_2 from by repeat (first | (with_reducible first | exact HI0.out | apply J6.alloc | apply J6.drewN | apply J6.drew | apply J6.set_0 | apply J6.set_1 | apply J6.set_2) | exact HI0.out))) : g ≠ gb397)); have n7_ := Aside0.mk ((by rw [hg]; exact Nat.ne_of_gt (J6.lt (show J6 w0 _ g s0_0 s0_1 s0_2 from by repeat (first | (with_reducible first | exact HI0.out | apply J6.alloc | apply J6.drewN | apply J6.drew | apply J6.set_0 | apply J6.set_1 | apply J6.set_2) | exact HI0.out))) : gb397 ≠ g)); clear HI0; clear HK; clear HB; have HI0 := n0_; have HK := n1_; have HB := n2_; have BK397 := n3_; have GW397 := n4_; have GE397 := n5_; have NB0_397 := n6_; have NB397_0 := n7_; clear n0_ n1_ n2_ n3_ n4_ n5_ n6_ n7_; clear hb hbox hg) | ((with_reducible refine gC_ (f := 61) rfl ?_); refine goesL_ (some 5) rfl rfl Tryd.func61 (by kernel_rfl) rfl #[.pointer (some ⟨g, 0, none⟩), .int .i64 64] rfl (by (try simp only [List.map_toArray, List.map_cons, List.map_nil]); first | done | rfl | (simp only [List.length_drop, List.length_take]; rfl)) ?_; (with_reducible refine (uR_Text.calls k g s0_0 s0_1 s0_2 64 t398 t399 t400 t401 w0 _ ?side1 ?side2 A2.out).mono ?_); (case side1 => repeat (first | (with_reducible first | exact HI0.out | apply J6.alloc | apply J6.drewN | apply J6.drew | apply J6.set_0 | apply J6.set_1 | apply J6.set_2 | refine J6.far ?_ NB0_397.out _) | exact HI0.out)); (case side2 => repeat (first | (with_reducible first | exact HB.out | apply bA_ | apply bN_ | apply bD_ | refine bS_ ?_ (J6.ge HI0.out) | refine bS_ ?_ GE397.out) | exact HB.out)); rintro e w9 ⟨rfl, hi, hb, hk⟩; refine ⟨_, rfl, ?_⟩; have n0_ := Aside0.mk (KeepBut.blk hk (g' := gb397) (o := .cells #[.string (⟨#[]⟩ : ByteArray), .string (⟨#[]⟩ : ByteArray), .string (⟨#[]⟩ : ByteArray), .int .i64 0, .string (⟨#[]⟩ : ByteArray)] 23 (0, 0)) (by (with_reducible repeat (first | refine kN_ ?_ _ | refine kD_ ?_ | refine kA_ ?_ _)); exact BK397.out) NB397_0.out (by simp)); have n1_ := Aside0.mk (KeepBut.trans (by repeat (first | (with_reducible first | exact HK.out | apply KeepBut.set_ | apply pN_ | apply pD_ | apply pA_ | refine pF_ ?_ GW397.out _) | exact HK.out)) hk (.inl rfl)); have n2_ := Aside0.mk (hb); have n3_ := Aside0.mk (hi); clear BK397; clear HK; clear HB; clear HI0; have BK397 := n0_; have HK := n1_; have HB := n2_; have HI0 := n3_; clear n0_ n1_ n2_ n3_; (try clear hb); (try clear hb2); (try clear hk); (try clear hi)) | ((with_reducible refine gD_ (N := 3) rfl ?_); refine gB_ ?hg (N := 3) ?hd (cs := #[.string (⟨#[]⟩ : ByteArray), .string (⟨#[]⟩ : ByteArray), .string (⟨#[]⟩ : ByteArray), .int .i64 0, .string (⟨#[]⟩ : ByteArray)]) (t := 23) ?hr ?_; (case hd => rfl); (case hg => rfl); (case hr => first | (go_simp; done) | (go_simp; rfl)); intro gb402 hg w10 hbox hb; have n0_ := Aside0.mk (J6.below (by repeat (first | (with_reducible first | exact HI0.out | apply J6.alloc | apply J6.drewN | apply J6.drew | apply J6.set_0 | apply J6.set_1 | apply J6.set_2 | refine J6.far ?_ NB0_397.out _) | exact HI0.out)) hb); have n1_ := Aside0.mk (kB_ (g := gb397) (o := .cells #[.string (⟨#[]⟩ : ByteArray), .string (⟨#[]⟩ : ByteArray), .string (⟨#[]⟩ : ByteArray), .int .i64 0, .string (⟨#[]⟩ : ByteArray)] 23 (0, 0)) (by (with_reducible repeat (first | refine kN_ ?_ _ | refine kD_ ?_ | refine kA_ ?_ _)); exact BK397.out) hb); have n2_ := Aside0.mk (KeepBut.trans (by repeat (first | (with_reducible first | exact HK.out | apply KeepBut.set_ | apply pN_ | apply pD_ | apply pA_ | refine pF_ ?_ GW397.out _) | exact HK.out)) (KeepBut.of_below hb g none) (.inl rfl)); have n3_ := Aside0.mk (bT_ (by repeat (first | (with_reducible first | exact HB.out | apply bA_ | apply bN_ | apply bD_ | refine bS_ ?_ (J6.ge HI0.out) | refine bS_ ?_ GE397.out) | exact HB.out)) hb); have n4_ := Aside0.mk (hbox); have n5_ := Aside0.mk ((by rw [hg]; exact (keep_size (w := w) (g := g) (row := none) (by repeat (first | (with_reducible first | exact HK.out | apply KeepBut.set_ | apply pN_ | apply pD_ | apply pA_ | refine pF_ ?_ GW397.out _) | exact HK.out))) : w.heap.size ≤ gb402)); have n6_ := Aside0.mk ((Nat.le_trans HW0.out (by rw [hg]; exact (keep_size (w := w) (g := g) (row := none) (by repeat (first | (with_reducible first | exact HK.out | apply KeepBut.set_ | apply pN_ | apply pD_ | apply pA_ | refine pF_ ?_ GW397.out _) | exact HK.out))) : w.heap.size ≤ gb402) : w0.heap.size ≤ gb402)); have n7_ := Aside0.mk ((by rw [hg]; exact Nat.ne_of_lt (blk_lt (g := gb397) (o := .cells #[.string (⟨#[]⟩ : ByteArray), .string (⟨#[]⟩ : ByteArray), .string (⟨#[]⟩ : ByteArray), .int .i64 0, .string (⟨#[]⟩ : ByteArray)] 23 (0, 0)) (by (with_reducible repeat (first | refine kN_ ?_ _ | refine kD_ ?_ | refine kA_ ?_ _)); exact BK397.out)) : gb397 ≠ gb402)); have n8_ := Aside0.mk ((by rw [hg]; exact Nat.ne_of_gt (blk_lt (g := gb397) (o := .cells #[.string (⟨#[]⟩ : ByteArray), .string (⟨#[]⟩ : ByteArray), .string (⟨#[]⟩ : ByteArray), .int .i64 0, .string (⟨#[]⟩ : ByteArray)] 23 (0, 0)) (by (with_reducible repeat (first | refine kN_ ?_ _ | refine kD_ ?_ | refine kA_ ?_ _)); exact BK397.out)) : gb402 ≠ gb397)); have n9_ := Aside0.mk ((by rw [hg]; exact Nat.ne_of_lt (J6.lt (show J6 w0 _ g t399 t400 t401 from by repeat (first | (with_reducible first | exact HI0.out | apply J6.alloc | apply J6.drewN | apply J6.drew | apply J6.set_0 | apply J6.set_1 | apply J6.set_2 | refine J6.far ?_ NB0_397.out _) | exact HI0.out))) : g ≠ gb402)); have n10_ := Aside0.mk ((by rw [hg]; exact Nat.ne_of_gt (J6.lt (show J6 w0 _ g t399 t400 t401 from by repeat (first | (with_reducible first | exact HI0.out | apply J6.alloc | apply J6.drewN | apply J6.drew | apply J6.set_0 | apply J6.set_1 | apply J6.set_2 | refine J6.far ?_ NB0_397.out _) | exact HI0.out))) : gb402 ≠ g)); clear HI0; clear BK397; clear HK; clear HB; have HI0 := n0_; have BK397 := n1_; have HK := n2_; have HB := n3_; have BK402 := n4_; have GW402 := n5_; have GE402 := n6_; have NB397_402 := n7_; have NB402_397 := n8_; have NB0_402 := n9_; have NB402_0 := n10_; clear n0_ n1_ n2_ n3_ n4_ n5_ n6_ n7_ n8_ n9_ n10_; clear hb hbox hg; have hnb11 := NB402_397.out; have hnc11 := NB397_402.out; have hnb12 := NB402_0.out; have hnc12 := NB0_402.out; obtain ⟨hcz13_0, hcz13_1, hcz13_2, hcz13_3, hcz13_4⟩ := cell5 BK402.out; obtain ⟨hfz13_0, hfz13_1, hfz13_2, hfz13_3, hfz13_4⟩ := froz5 BK402.out) | ((with_reducible refine gC_ (f := 61) rfl ?_); refine goesL_ (some 8) rfl rfl Tryd.func61 (by kernel_rfl) rfl #[.pointer (some ⟨g, 0, none⟩), .int .i64 64] rfl (by (try simp only [List.map_toArray, List.map_cons, List.map_nil]); first | done | rfl | (simp only [List.length_drop, List.length_take]; rfl)) ?_; (with_reducible refine (uR_Text.calls k g t399 t400 t401 64 t403 t404 t405 t406 w0 _ ?side1 ?side2 A3.out).mono ?_); (case side1 => repeat (first | (with_reducible first | exact HI0.out | apply J6.alloc | apply J6.drewN | apply J6.drew | apply J6.set_0 | apply J6.set_1 | apply J6.set_2 | refine J6.far ?_ NB0_397.out _ | refine J6.far ?_ NB0_402.out _) | exact HI0.out)); (case side2 => repeat (first | (with_reducible first | exact HB.out | apply bA_ | apply bN_ | apply bD_ | refine bS_ ?_ (J6.ge HI0.out) | refine bS_ ?_ GE397.out | refine bS_ ?_ GE402.out) | exact HB.out)); rintro e w14 ⟨rfl, hi, hb, hk⟩; refine ⟨_, rfl, ?_⟩; have n0_ := Aside0.mk (KeepBut.blk hk (g' := gb397) (o := .cells #[.string (⟨#[]⟩ : ByteArray), .string (⟨#[]⟩ : ByteArray), .string (⟨#[]⟩ : ByteArray), .int .i64 0, .string (⟨#[]⟩ : ByteArray)] 23 (0, 0)) (by (with_reducible repeat (first | refine kN_ ?_ _ | refine kD_ ?_ | refine kA_ ?_ _)); refine kF_ ?_ NB397_402.out _; (with_reducible repeat (first | refine kN_ ?_ _ | refine kD_ ?_ | refine kA_ ?_ _)); refine kF_ ?_ NB397_402.out _; (with_reducible repeat (first | refine kN_ ?_ _ | refine kD_ ?_ | refine kA_ ?_ _)); refine kF_ ?_ NB397_402.out _; (with_reducible repeat (first | refine kN_ ?_ _ | refine kD_ ?_ | refine kA_ ?_ _)); refine kF_ ?_ NB397_402.out _; (with_reducible repeat (first | refine kN_ ?_ _ | refine kD_ ?_ | refine kA_ ?_ _)); refine kF_ ?_ NB397_402.out _; (with_reducible repeat (first | refine kN_ ?_ _ | refine kD_ ?_ | refine kA_ ?_ _)); exact BK397.out) NB397_0.out (by simp)); have n1_ := Aside0.mk (KeepBut.blk hk (g' := gb402) (o := .cells #[.string t398, .string (⟨#[]⟩ : ByteArray), .string (⟨#[]⟩ : ByteArray), .int .i64 0, .string (⟨#[]⟩ : ByteArray)] 23 (0, 0)) (by (with_reducible repeat (first | refine kN_ ?_ _ | refine kD_ ?_ | refine kA_ ?_ _)); refine blk_p5_0_4 (show _ = some (Obj.cells #[.string (⟨#[]⟩ : ByteArray), .string (⟨#[]⟩ : ByteArray), .string (⟨#[]⟩ : ByteArray), .int .i64 0, .string (⟨#[]⟩ : ByteArray)] _ (0, 0)) from ?_); (with_reducible repeat (first | refine kN_ ?_ _ | refine kD_ ?_ | refine kA_ ?_ _)); exact BK402.out) NB402_0.out (by simp)); have n2_ := Aside0.mk (KeepBut.trans (by repeat (first | (with_reducible first | exact HK.out | apply KeepBut.set_ | apply pN_ | apply pD_ | apply pA_ | refine pF_ ?_ GW397.out _ | refine pF_ ?_ GW402.out _) | exact HK.out)) hk (.inl rfl)); have n3_ := Aside0.mk (hb); have n4_ := Aside0.mk (hi); clear BK397; clear BK402; clear HK; clear HB; clear HI0; have BK397 := n0_; have BK402 := n1_; have HK := n2_; have HB := n3_; have HI0 := n4_; clear n0_ n1_ n2_ n3_ n4_; (try clear hb); (try clear hb2); (try clear hk); (try clear hi); obtain ⟨hcz15_0, hcz15_1, hcz15_2, hcz15_3, hcz15_4⟩ := cell5 BK402.out; obtain ⟨hfz15_0, hfz15_1, hfz15_2, hfz15_3, hfz15_4⟩ := froz5 BK402.out) | ((with_reducible refine gC_ (f := 61) rfl ?_); refine goesL_ (some 11) rfl rfl Tryd.func61 (by kernel_rfl) rfl #[.pointer (some ⟨g, 0, none⟩), .int .i64 128] rfl (by (try simp only [List.map_toArray, List.map_cons, List.map_nil]); first | done | rfl | (simp only [List.length_drop, List.length_take]; rfl)) ?_; (with_reducible refine (uR_Text.calls k g t404 t405 t406 128 t407 t408 t409 t410 w0 _ ?side1 ?side2 A4.out).mono ?_); (case side1 => repeat (first | (with_reducible first | exact HI0.out | apply J6.alloc | apply J6.drewN | apply J6.drew | apply J6.set_0 | apply J6.set_1 | apply J6.set_2 | refine J6.far ?_ NB0_397.out _ | refine J6.far ?_ NB0_402.out _) | exact HI0.out)); (case side2 => repeat (first | (with_reducible first | exact HB.out | apply bA_ | apply bN_ | apply bD_ | refine bS_ ?_ (J6.ge HI0.out) | refine bS_ ?_ GE397.out | refine bS_ ?_ GE402.out) | exact HB.out)); rintro e w16 ⟨rfl, hi, hb, hk⟩; refine ⟨_, rfl, ?_⟩; have n0_ := Aside0.mk (KeepBut.blk hk (g' := gb397) (o := .cells #[.string (⟨#[]⟩ : ByteArray), .string (⟨#[]⟩ : ByteArray), .string (⟨#[]⟩ : ByteArray), .int .i64 0, .string (⟨#[]⟩ : ByteArray)] 23 (0, 0)) (by (with_reducible repeat (first | refine kN_ ?_ _ | refine kD_ ?_ | refine kA_ ?_ _)); refine kF_ ?_ NB397_402.out _; (with_reducible repeat (first | refine kN_ ?_ _ | refine kD_ ?_ | refine kA_ ?_ _)); exact BK397.out) NB397_0.out (by simp)); have n1_ := Aside0.mk (KeepBut.blk hk (g' := gb402) (o := .cells #[.string t398, .string t403, .string (⟨#[]⟩ : ByteArray), .int .i64 0, .string (⟨#[]⟩ : ByteArray)] 23 (0, 0)) (by (with_reducible repeat (first | refine kN_ ?_ _ | refine kD_ ?_ | refine kA_ ?_ _)); refine kP_ (cs := #[.string t398, .string (⟨#[]⟩ : ByteArray), .string (⟨#[]⟩ : ByteArray), .int .i64 0, .string (⟨#[]⟩ : ByteArray)]) ?_ 1 _ rfl; (with_reducible repeat (first | refine kN_ ?_ _ | refine kD_ ?_ | refine kA_ ?_ _)); exact BK402.out) NB402_0.out (by simp)); have n2_ := Aside0.mk (KeepBut.trans (by repeat (first | (with_reducible first | exact HK.out | apply KeepBut.set_ | apply pN_ | apply pD_ | apply pA_ | refine pF_ ?_ GW397.out _ | refine pF_ ?_ GW402.out _) | exact HK.out)) hk (.inl rfl)); have n3_ := Aside0.mk (hb); have n4_ := Aside0.mk (hi); clear BK397; clear BK402; clear HK; clear HB; clear HI0; have BK397 := n0_; have BK402 := n1_; have HK := n2_; have HB := n3_; have HI0 := n4_; clear n0_ n1_ n2_ n3_ n4_; (try clear hb); (try clear hb2); (try clear hk); (try clear hi); obtain ⟨hcz17_0, hcz17_1, hcz17_2, hcz17_3, hcz17_4⟩ := cell5 BK402.out; obtain ⟨hfz17_0, hfz17_1, hfz17_2, hfz17_3, hfz17_4⟩ := froz5 BK402.out) | ((with_reducible refine gC_ (f := 61) rfl ?_); refine goesL_ (some 14) rfl rfl Tryd.func61 (by kernel_rfl) rfl #[.pointer (some ⟨g, 0, none⟩), .int .i64 1024] rfl (by (try simp only [List.map_toArray, List.map_cons, List.map_nil]); first | done | rfl | (simp only [List.length_drop, List.length_take]; rfl)) ?_; (with_reducible refine (uR_Text.calls k g t408 t409 t410 1024 t411 t412 t413 t414 w0 _ ?side1 ?side2 A5.out).mono ?_); (case side1 => repeat (first | (with_reducible first | exact HI0.out | apply J6.alloc | apply J6.drewN | apply J6.drew | apply J6.set_0 | apply J6.set_1 | apply J6.set_2 | refine J6.far ?_ NB0_397.out _ | refine J6.far ?_ NB0_402.out _) | exact HI0.out)); (case side2 => repeat (first | (with_reducible first | exact HB.out | apply bA_ | apply bN_ | apply bD_ | refine bS_ ?_ (J6.ge HI0.out) | refine bS_ ?_ GE397.out | refine bS_ ?_ GE402.out) | exact HB.out)); rintro e w18 ⟨rfl, hi, hb, hk⟩; refine ⟨_, rfl, ?_⟩; have n0_ := Aside0.mk (KeepBut.blk hk (g' := gb397) (o := .cells #[.string (⟨#[]⟩ : ByteArray), .string (⟨#[]⟩ : ByteArray), .string (⟨#[]⟩ : ByteArray), .int .i64 0, .string (⟨#[]⟩ : ByteArray)] 23 (0, 0)) (by (with_reducible repeat (first | refine kN_ ?_ _ | refine kD_ ?_ | refine kA_ ?_ _)); refine kF_ ?_ NB397_402.out _; (with_reducible repeat (first | refine kN_ ?_ _ | refine kD_ ?_ | refine kA_ ?_ _)); exact BK397.out) NB397_0.out (by simp)); have n1_ := Aside0.mk (KeepBut.blk hk (g' := gb402) (o := .cells #[.string t398, .string t403, .string t407, .int .i64 0, .string (⟨#[]⟩ : ByteArray)] 23 (0, 0)) (by (with_reducible repeat (first | refine kN_ ?_ _ | refine kD_ ?_ | refine kA_ ?_ _)); refine kP_ (cs := #[.string t398, .string t403, .string (⟨#[]⟩ : ByteArray), .int .i64 0, .string (⟨#[]⟩ : ByteArray)]) ?_ 2 _ rfl; (with_reducible repeat (first | refine kN_ ?_ _ | refine kD_ ?_ | refine kA_ ?_ _)); exact BK402.out) NB402_0.out (by simp)); have n2_ := Aside0.mk (KeepBut.trans (by repeat (first | (with_reducible first | exact HK.out | apply KeepBut.set_ | apply pN_ | apply pD_ | apply pA_ | refine pF_ ?_ GW397.out _ | refine pF_ ?_ GW402.out _) | exact HK.out)) hk (.inl rfl)); have n3_ := Aside0.mk (hb); have n4_ := Aside0.mk (hi); clear BK397; clear BK402; clear HK; clear HB; clear HI0; have BK397 := n0_; have BK402 := n1_; have HK := n2_; have HB := n3_; have HI0 := n4_; clear n0_ n1_ n2_ n3_ n4_; (try clear hb); (try clear hb2); (try clear hk); (try clear hi); obtain ⟨hcz19_0, hcz19_1, hcz19_2, hcz19_3, hcz19_4⟩ := cell5 BK402.out; obtain ⟨hfz19_0, hfz19_1, hfz19_2, hfz19_3, hfz19_4⟩ := froz5 BK402.out) | ((with_reducible refine gC_ (f := 41) rfl ?_); refine goesL_ (some 17) rfl rfl Tryd.func41 (by kernel_rfl) rfl #[.pointer (some ⟨g, 0, none⟩), .int .i64 5] rfl (by (try simp only [List.map_toArray, List.map_cons, List.map_nil]); first | done | rfl | (simp only [List.length_drop, List.length_take]; rfl)) ?_; (with_reducible refine (uR_Groups.calls k g t412 t413 t414 5 t415 t416 t417 t418 w0 _ ?side1 ?side2 A6.out).mono ?_); (case side1 => repeat (first | (with_reducible first | exact HI0.out | apply J6.alloc | apply J6.drewN | apply J6.drew | apply J6.set_0 | apply J6.set_1 | apply J6.set_2 | refine J6.far ?_ NB0_397.out _ | refine J6.far ?_ NB0_402.out _) | exact HI0.out)); (case side2 => repeat (first | (with_reducible first | exact HB.out | apply bA_ | apply bN_ | apply bD_ | refine bS_ ?_ (J6.ge HI0.out) | refine bS_ ?_ GE397.out | refine bS_ ?_ GE402.out) | exact HB.out)); rintro e w20 ⟨rfl, hi, hb, hk⟩; refine ⟨_, rfl, ?_⟩; have n0_ := Aside0.mk (KeepBut.blk hk (g' := gb397) (o := .cells #[.string (⟨#[]⟩ : ByteArray), .string (⟨#[]⟩ : ByteArray), .string (⟨#[]⟩ : ByteArray), .int .i64 0, .string (⟨#[]⟩ : ByteArray)] 23 (0, 0)) (by (with_reducible repeat (first | refine kN_ ?_ _ | refine kD_ ?_ | refine kA_ ?_ _)); refine kF_ ?_ NB397_402.out _; (with_reducible repeat (first | refine kN_ ?_ _ | refine kD_ ?_ | refine kA_ ?_ _)); exact BK397.out) NB397_0.out (by simp)); have n1_ := Aside0.mk (KeepBut.blk hk (g' := gb402) (o := .cells #[.string t398, .string t403, .string t407, .int .i64 0, .string t411] 23 (0, 0)) (by (with_reducible repeat (first | refine kN_ ?_ _ | refine kD_ ?_ | refine kA_ ?_ _)); refine kP_ (cs := #[.string t398, .string t403, .string t407, .int .i64 0, .string (⟨#[]⟩ : ByteArray)]) ?_ 4 _ rfl; (with_reducible repeat (first | refine kN_ ?_ _ | refine kD_ ?_ | refine kA_ ?_ _)); exact BK402.out) NB402_0.out (by simp)); have n2_ := Aside0.mk (KeepBut.trans (by repeat (first | (with_reducible first | exact HK.out | apply KeepBut.set_ | apply pN_ | apply pD_ | apply pA_ | refine pF_ ?_ GW397.out _ | refine pF_ ?_ GW402.out _) | exact HK.out)) hk (.inl rfl)); have n3_ := Aside0.mk (hb); have n4_ := Aside0.mk (hi); clear BK397; clear BK402; clear HK; clear HB; clear HI0; have BK397 := n0_; have BK402 := n1_; have HK := n2_; have HB := n3_; have HI0 := n4_; clear n0_ n1_ n2_ n3_ n4_; (try clear hb); (try clear hb2); (try clear hk); (try clear hi); obtain ⟨hcz21_0, hcz21_1, hcz21_2, hcz21_3, hcz21_4⟩ := cell5 BK402.out; obtain ⟨hfz21_0, hfz21_1, hfz21_2, hfz21_3, hfz21_4⟩ := froz5 BK402.out))
 (try simp only [Act.put, List.setIfInBounds_toArray, List.set_cons_zero, List.set_cons_succ])
 go_cut [28] (fun v28 wc => ∃ (kq : Nat) (x28_6 : Bool), v28 = .bool x28_6 ∧ Aside0 (gongref18_Read.j0 kq x28_6 t416 t417 t418 t398 t403 t407 t415 t411 = some (r1, r2, r3, r4, r5, r6, r7, r8)) ∧ Aside0 (kq ≤ k) ∧ Aside0 (wc.heap[gb397]? = some (.cells #[.string (⟨#[]⟩ : ByteArray), .string (⟨#[]⟩ : ByteArray), .string (⟨#[]⟩ : ByteArray), .int .i64 0, .string (⟨#[]⟩ : ByteArray)] 23 (0, 0))) ∧ Aside0 (wc.heap[gb402]? = some (.cells #[.string t398, .string t403, .string t407, .int .i64 t415, .string t411] 23 (0, 0))) ∧ Aside0 (J6 w0 wc g t416 t417 t418) ∧ Aside0 (KeepBut w wc g none) ∧ Aside0 (Below w0.heap.size w0 wc))
 case first =>
  have H := HC7.out
  clear HC7
  by_cases c22 : t418 = 0
  ·rw [if_pos c22] at H
   have c22b0 : (t418 == 0) = true := beq_iff_eq.mpr c22
   have c22b1 : (t418 != 0) = false := bne_eq_false_iff_eq.mpr c22
   clear c22
   (first | rw [c22b0] | (simp only [i64_w, i32_w]; rw [c22b0]) | skip)
   replace H := Option.bind_eq_some_iff.mp H
   obtain ⟨t419, A230, H⟩ := H
   try dsimp only at H
   have A23 := Aside0.mk A230
   clear A230
   have H' := Aside0.mk H
   clear H
   obtain ⟨HGz24, hgz24⟩ := HI0.out
   have hcz24_0 := cellS66_0 HGz24
   have hcz24_1 := cellS66_1 HGz24
   have hcz24_2 := cellS66_2 HGz24
   have hfz24_0 := blk_frozen HGz24 0
   have hfz24_1 := blk_frozen HGz24 1
   have hfz24_2 := blk_frozen HGz24 2
   clear HGz24 hgz24
   have hnb25 := NB402_397.out
   have hnc25 := NB397_402.out
   have hnb26 := NB402_0.out
   have hnc26 := NB0_402.out
   obtain ⟨hcz27_0, hcz27_1, hcz27_2, hcz27_3, hcz27_4⟩ := cell5 BK402.out
   obtain ⟨hfz27_0, hfz27_1, hfz27_2, hfz27_3, hfz27_4⟩ := froz5 BK402.out
   go_wp2_with (first | (go_at_call 53; (with_reducible refine (gongref18_Check.calls k t398 t403 t407 t415 t411 t419 _ A23.out).mono ?_); rintro e w28 ⟨rfl, hb⟩; have n0_ := Aside0.mk (J6.below (show J6 w0 (w20.setCell ⟨gb402, 3, none⟩ (.int .i64 t415)) g t416 t417 t418 from by repeat (first | (with_reducible first | exact HI0.out | apply J6.alloc | apply J6.drewN | apply J6.drew | apply J6.set_0 | apply J6.set_1 | apply J6.set_2 | refine J6.far ?_ NB0_397.out _ | refine J6.far ?_ NB0_402.out _) | exact HI0.out)) hb); have n1_ := Aside0.mk (kB_ (g := gb397) (o := .cells #[.string (⟨#[]⟩ : ByteArray), .string (⟨#[]⟩ : ByteArray), .string (⟨#[]⟩ : ByteArray), .int .i64 0, .string (⟨#[]⟩ : ByteArray)] 23 (0, 0)) (by (with_reducible repeat (first | refine kN_ ?_ _ | refine kD_ ?_ | refine kA_ ?_ _)); refine kF_ ?_ NB397_402.out _; (with_reducible repeat (first | refine kN_ ?_ _ | refine kD_ ?_ | refine kA_ ?_ _)); exact BK397.out) hb); have n2_ := Aside0.mk (kB_ (g := gb402) (o := .cells #[.string t398, .string t403, .string t407, .int .i64 t415, .string t411] 23 (0, 0)) (by (with_reducible repeat (first | refine kN_ ?_ _ | refine kD_ ?_ | refine kA_ ?_ _)); refine kP_ (cs := #[.string t398, .string t403, .string t407, .int .i64 0, .string t411]) ?_ 3 _ rfl; (with_reducible repeat (first | refine kN_ ?_ _ | refine kD_ ?_ | refine kA_ ?_ _)); exact BK402.out) hb); have n3_ := Aside0.mk (KeepBut.trans (by repeat (first | (with_reducible first | exact HK.out | apply KeepBut.set_ | apply pN_ | apply pD_ | apply pA_ | refine pF_ ?_ GW397.out _ | refine pF_ ?_ GW402.out _) | exact HK.out)) (KeepBut.of_below hb g none) (.inl rfl)); have n4_ := Aside0.mk (bT_ (by repeat (first | (with_reducible first | exact HB.out | apply bA_ | apply bN_ | apply bD_ | refine bS_ ?_ (J6.ge HI0.out) | refine bS_ ?_ GE397.out | refine bS_ ?_ GE402.out) | exact HB.out)) hb); clear HI0; clear BK397; clear BK402; clear HK; clear HB; have HI0 := n0_; have BK397 := n1_; have BK402 := n2_; have HK := n3_; have HB := n4_; clear n0_ n1_ n2_ n3_ n4_; (try clear hb); (try clear hb2); (try clear hk); (try clear hi)))
   go_meet
   case rel => exact ⟨_, ((t419 != 0)), (by first | rfl | (simp; done) | (simp [*]; done)), H', ⟨by first | omega | exact Nat.le_refl _⟩, ⟨by (with_reducible repeat (first | refine kN_ ?_ _ | refine kD_ ?_ | refine kA_ ?_ _)); exact BK397.out⟩, ⟨by (with_reducible repeat (first | refine kN_ ?_ _ | refine kD_ ?_ | refine kA_ ?_ _)); exact BK402.out⟩, ⟨by repeat (first | (with_reducible first | exact HI0.out | apply J6.alloc | apply J6.drewN | apply J6.drew | apply J6.set_0 | apply J6.set_1 | apply J6.set_2 | refine J6.far ?_ NB0_397.out _ | refine J6.far ?_ NB0_402.out _) | exact HI0.out)⟩, ⟨by repeat (first | (with_reducible first | exact HK.out | apply KeepBut.set_ | apply pN_ | apply pD_ | apply pA_ | refine pF_ ?_ GW397.out _ | refine pF_ ?_ GW402.out _) | exact HK.out)⟩, ⟨by repeat (first | (with_reducible first | exact HB.out | apply bA_ | apply bN_ | apply bD_ | refine bS_ ?_ (J6.ge HI0.out) | refine bS_ ?_ GE397.out | refine bS_ ?_ GE402.out) | exact HB.out)⟩⟩
  ·rw [if_neg c22] at H
   have c22b0 : (t418 == 0) = false := beq_eq_false_iff_ne.mpr c22
   have c22b1 : (t418 != 0) = true := bne_iff_ne.mpr c22
   (first | rw [c22b0] | (simp only [i64_w, i32_w]; rw [c22b0]) | skip)
   have H' := Aside0.mk H
   clear H
   obtain ⟨HGz29, hgz29⟩ := HI0.out
   have hcz29_0 := cellS66_0 HGz29
   have hcz29_1 := cellS66_1 HGz29
   have hcz29_2 := cellS66_2 HGz29
   have hfz29_0 := blk_frozen HGz29 0
   have hfz29_1 := blk_frozen HGz29 1
   have hfz29_2 := blk_frozen HGz29 2
   clear HGz29 hgz29
   go_wp2
   go_meet
   case rel => exact ⟨_, (false), (by first | rfl | (simp; done) | (simp [*]; done)), H', ⟨by first | omega | exact Nat.le_refl _⟩, ⟨by (with_reducible repeat (first | refine kN_ ?_ _ | refine kD_ ?_ | refine kA_ ?_ _)); refine kF_ ?_ NB397_402.out _; (with_reducible repeat (first | refine kN_ ?_ _ | refine kD_ ?_ | refine kA_ ?_ _)); exact BK397.out⟩, ⟨by (with_reducible repeat (first | refine kN_ ?_ _ | refine kD_ ?_ | refine kA_ ?_ _)); refine kP_ (cs := #[.string t398, .string t403, .string t407, .int .i64 0, .string t411]) ?_ 3 _ rfl; (with_reducible repeat (first | refine kN_ ?_ _ | refine kD_ ?_ | refine kA_ ?_ _)); exact BK402.out⟩, ⟨by repeat (first | (with_reducible first | exact HI0.out | apply J6.alloc | apply J6.drewN | apply J6.drew | apply J6.set_0 | apply J6.set_1 | apply J6.set_2 | refine J6.far ?_ NB0_397.out _ | refine J6.far ?_ NB0_402.out _) | exact HI0.out)⟩, ⟨by repeat (first | (with_reducible first | exact HK.out | apply KeepBut.set_ | apply pN_ | apply pD_ | apply pA_ | refine pF_ ?_ GW397.out _ | refine pF_ ?_ GW402.out _) | exact HK.out)⟩, ⟨by repeat (first | (with_reducible first | exact HB.out | apply bA_ | apply bN_ | apply bD_ | refine bS_ ?_ (J6.ge HI0.out) | refine bS_ ?_ GE397.out | refine bS_ ?_ GE402.out) | exact HB.out)⟩⟩
 case rest =>
  clear HC7
  try clear c1
  try clear c2
  try clear p2
  try clear c4
  try clear c6
  try clear c11
  try clear c12
  try clear c22
  try clear c22b0
  try clear c22b1
  try clear c25
  try clear c26
  try clear hcz13_0
  try clear hcz13_1
  try clear hcz13_2
  try clear hcz13_3
  try clear hcz13_4
  try clear hcz15_0
  try clear hcz15_1
  try clear hcz15_2
  try clear hcz15_3
  try clear hcz15_4
  try clear hcz17_0
  try clear hcz17_1
  try clear hcz17_2
  try clear hcz17_3
  try clear hcz17_4
  try clear hcz19_0
  try clear hcz19_1
  try clear hcz19_2
  try clear hcz19_3
  try clear hcz19_4
  try clear hcz21_0
  try clear hcz21_1
  try clear hcz21_2
  try clear hcz21_3
  try clear hcz21_4
  try clear hcz24_0
  try clear hcz24_1
  try clear hcz24_2
  try clear hcz27_0
  try clear hcz27_1
  try clear hcz27_2
  try clear hcz27_3
  try clear hcz27_4
  try clear hcz29_0
  try clear hcz29_1
  try clear hcz29_2
  try clear hfz13_0
  try clear hfz13_1
  try clear hfz13_2
  try clear hfz13_3
  try clear hfz13_4
  try clear hfz15_0
  try clear hfz15_1
  try clear hfz15_2
  try clear hfz15_3
  try clear hfz15_4
  try clear hfz17_0
  try clear hfz17_1
  try clear hfz17_2
  try clear hfz17_3
  try clear hfz17_4
  try clear hfz19_0
  try clear hfz19_1
  try clear hfz19_2
  try clear hfz19_3
  try clear hfz19_4
  try clear hfz21_0
  try clear hfz21_1
  try clear hfz21_2
  try clear hfz21_3
  try clear hfz21_4
  try clear hfz24_0
  try clear hfz24_1
  try clear hfz24_2
  try clear hfz27_0
  try clear hfz27_1
  try clear hfz27_2
  try clear hfz27_3
  try clear hfz27_4
  try clear hfz29_0
  try clear hfz29_1
  try clear hfz29_2
  obtain ⟨kq, x28_6, rfl, HA, HJ6, BK397, BK402, HI0, HK, HB⟩ := hcut
  cases kq with
  | zero => exact absurd HA.out (by simp [gongref18_Read.j0])
  | succ kj6 =>
   have H := HA.out
   clear HA
   simp only [gongref18_Read.j0] at H
   by_cases c30 : x28_6 = true
   ·subst c30
    have H1 : ((uR_Refuse.f t416 t417 t418 180).bind fun bt420 => (if bt420.2.2 = 0 then (some (t398, t403, t407, t415, t411, bt420.1, bt420.2.1, bt420.2.2)) else (some ((⟨#[]⟩ : ByteArray), (⟨#[]⟩ : ByteArray), (⟨#[]⟩ : ByteArray), 0, (⟨#[]⟩ : ByteArray), bt420.1, bt420.2.1, bt420.2.2)))) = some (r1, r2, r3, r4, r5, r6, r7, r8) := by rw [if_pos rfl] at H; exact H
    clear H
    have H := H1
    clear H1
    replace H := Option.bind_eq_some_iff.mp H
    obtain ⟨⟨t420, t421, t422⟩, A310, H⟩ := H
    try dsimp only at H
    have A31 := Aside0.mk A310
    clear A310
    by_cases c32 : t422 = 0
    ·rw [if_pos c32] at H
     have c32b0 : (t422 == 0) = true := beq_iff_eq.mpr c32
     have c32b1 : (t422 != 0) = false := bne_eq_false_iff_eq.mpr c32
     clear c32
     simp only [Option.some.injEq, Prod.mk.injEq] at H
     obtain ⟨rfl, rfl, rfl, rfl, rfl, rfl, rfl, rfl⟩ := H
     go_wp2_with (first | ((with_reducible refine gC_ (f := 63) rfl ?_); refine goesL_ (some 30) rfl rfl Tryd.func63 (by kernel_rfl) rfl #[.pointer (some ⟨g, 0, none⟩), .int .i64 180] rfl (by (try simp only [List.map_toArray, List.map_cons, List.map_nil]); first | done | rfl | (simp only [List.length_drop, List.length_take]; rfl)) ?_; (with_reducible refine (uR_Refuse.calls g t416 t417 t418 180 t420 t421 t422 w0 _ ?side1 ?side2 A31.out).mono ?_); (case side1 => repeat (first | (with_reducible first | exact HI0.out | apply J6.alloc | apply J6.drewN | apply J6.drew | apply J6.set_0 | apply J6.set_1 | apply J6.set_2 | refine J6.far ?_ NB0_397.out _ | refine J6.far ?_ NB0_402.out _) | exact HI0.out)); (case side2 => repeat (first | (with_reducible first | exact HB.out | apply bA_ | apply bN_ | apply bD_ | refine bS_ ?_ (J6.ge HI0.out) | refine bS_ ?_ GE397.out | refine bS_ ?_ GE402.out) | exact HB.out)); rintro e w33 ⟨rfl, hi, hb, hk⟩; refine ⟨_, rfl, ?_⟩; have n0_ := Aside0.mk (KeepBut.blk hk (g' := gb397) (o := .cells #[.string (⟨#[]⟩ : ByteArray), .string (⟨#[]⟩ : ByteArray), .string (⟨#[]⟩ : ByteArray), .int .i64 0, .string (⟨#[]⟩ : ByteArray)] 23 (0, 0)) (by (with_reducible repeat (first | refine kN_ ?_ _ | refine kD_ ?_ | refine kA_ ?_ _)); exact BK397.out) NB397_0.out (by simp)); have n1_ := Aside0.mk (KeepBut.blk hk (g' := gb402) (o := .cells #[.string t398, .string t403, .string t407, .int .i64 t415, .string t411] 23 (0, 0)) (by (with_reducible repeat (first | refine kN_ ?_ _ | refine kD_ ?_ | refine kA_ ?_ _)); exact BK402.out) NB402_0.out (by simp)); have n2_ := Aside0.mk (KeepBut.trans (by repeat (first | (with_reducible first | exact HK.out | apply KeepBut.set_ | apply pN_ | apply pD_ | apply pA_ | refine pF_ ?_ GW397.out _ | refine pF_ ?_ GW402.out _) | exact HK.out)) hk (.inl rfl)); have n3_ := Aside0.mk (hb); have n4_ := Aside0.mk (hi); clear BK397; clear BK402; clear HK; clear HB; clear HI0; have BK397 := n0_; have BK402 := n1_; have HK := n2_; have HB := n3_; have HI0 := n4_; clear n0_ n1_ n2_ n3_ n4_; (try clear hb); (try clear hb2); (try clear hk); (try clear hi); obtain ⟨HGz34, hgz34⟩ := HI0.out; have hcz34_0 := cellS66_0 HGz34; have hcz34_1 := cellS66_1 HGz34; have hcz34_2 := cellS66_2 HGz34; have hfz34_0 := blk_frozen HGz34 0; have hfz34_1 := blk_frozen HGz34 1; have hfz34_2 := blk_frozen HGz34 2; clear HGz34 hgz34; have hnb35 := NB402_397.out; have hnc35 := NB397_402.out; have hnb36 := NB402_0.out; have hnc36 := NB0_402.out; obtain ⟨_,_,_,_,_⟩ := cell5 BK402.out; obtain ⟨_,_,_,_,_⟩ := froz5 BK402.out; have hnb38 := NB397_0.out; have hnc38 := NB0_397.out; obtain ⟨_,_,_,_,_⟩ := cell5 BK397.out; obtain ⟨_,_,_,_,_⟩ := froz5 BK397.out))
     refine bodyPost_ret (results_cell_row rfl _ _ gb397 23 #[.string t398, .string t403, .string t407, .int .i64 t415, .string t411] (0, 0) _ rfl (by (with_reducible repeat (first | refine kN_ ?_ _ | refine kD_ ?_ | refine kA_ ?_ _)); refine blk_p5_0_4 (show _ = some (Obj.cells #[.string (⟨#[]⟩ : ByteArray), .string (⟨#[]⟩ : ByteArray), .string (⟨#[]⟩ : ByteArray), .int .i64 0, .string (⟨#[]⟩ : ByteArray)] _ (0, 0)) from ?_); (with_reducible repeat (first | refine kN_ ?_ _ | refine kD_ ?_ | refine kA_ ?_ _)); exact BK397.out) Tryd.underlying23 rfl (by kernel_rfl)) rfl ?_
     exact ⟨by first | rfl | (simp [errW_none, errW_some] <;> rfl) | (simp [*, errW_none, errW_some] <;> rfl), by repeat (first | (with_reducible first | exact HI0.out | apply J6.alloc | apply J6.drewN | apply J6.drew | apply J6.set_0 | apply J6.set_1 | apply J6.set_2 | refine J6.far ?_ NB0_397.out _ | refine J6.far ?_ NB0_402.out _) | exact HI0.out), by repeat (first | (with_reducible first | exact HB.out | apply bA_ | apply bN_ | apply bD_ | refine bS_ ?_ (J6.ge HI0.out) | refine bS_ ?_ GE397.out | refine bS_ ?_ GE402.out) | exact HB.out), by repeat (first | (with_reducible first | exact HK.out | apply KeepBut.set_ | apply pN_ | apply pD_ | apply pA_ | refine pF_ ?_ GW397.out _ | refine pF_ ?_ GW402.out _) | exact HK.out)⟩
    ·rw [if_neg c32] at H
     have c32b0 : (t422 == 0) = false := beq_eq_false_iff_ne.mpr c32
     have c32b1 : (t422 != 0) = true := bne_iff_ne.mpr c32
     simp only [Option.some.injEq, Prod.mk.injEq] at H
     obtain ⟨rfl, rfl, rfl, rfl, rfl, rfl, rfl, rfl⟩ := H
     go_wp2_with (first | ((with_reducible refine gC_ (f := 63) rfl ?_); refine goesL_ (some 30) rfl rfl Tryd.func63 (by kernel_rfl) rfl #[.pointer (some ⟨g, 0, none⟩), .int .i64 180] rfl (by (try simp only [List.map_toArray, List.map_cons, List.map_nil]); first | done | rfl | (simp only [List.length_drop, List.length_take]; rfl)) ?_; (with_reducible refine (uR_Refuse.calls g t416 t417 t418 180 t420 t421 t422 w0 _ ?side1 ?side2 A31.out).mono ?_); (case side1 => repeat (first | (with_reducible first | exact HI0.out | apply J6.alloc | apply J6.drewN | apply J6.drew | apply J6.set_0 | apply J6.set_1 | apply J6.set_2 | refine J6.far ?_ NB0_397.out _ | refine J6.far ?_ NB0_402.out _) | exact HI0.out)); (case side2 => repeat (first | (with_reducible first | exact HB.out | apply bA_ | apply bN_ | apply bD_ | refine bS_ ?_ (J6.ge HI0.out) | refine bS_ ?_ GE397.out | refine bS_ ?_ GE402.out) | exact HB.out)); rintro e w40 ⟨rfl, hi, hb, hk⟩; refine ⟨_, rfl, ?_⟩; have n0_ := Aside0.mk (KeepBut.blk hk (g' := gb397) (o := .cells #[.string (⟨#[]⟩ : ByteArray), .string (⟨#[]⟩ : ByteArray), .string (⟨#[]⟩ : ByteArray), .int .i64 0, .string (⟨#[]⟩ : ByteArray)] 23 (0, 0)) (by (with_reducible repeat (first | refine kN_ ?_ _ | refine kD_ ?_ | refine kA_ ?_ _)); exact BK397.out) NB397_0.out (by simp)); have n1_ := Aside0.mk (KeepBut.blk hk (g' := gb402) (o := .cells #[.string t398, .string t403, .string t407, .int .i64 t415, .string t411] 23 (0, 0)) (by (with_reducible repeat (first | refine kN_ ?_ _ | refine kD_ ?_ | refine kA_ ?_ _)); exact BK402.out) NB402_0.out (by simp)); have n2_ := Aside0.mk (KeepBut.trans (by repeat (first | (with_reducible first | exact HK.out | apply KeepBut.set_ | apply pN_ | apply pD_ | apply pA_ | refine pF_ ?_ GW397.out _ | refine pF_ ?_ GW402.out _) | exact HK.out)) hk (.inl rfl)); have n3_ := Aside0.mk (hb); have n4_ := Aside0.mk (hi); clear BK397; clear BK402; clear HK; clear HB; clear HI0; have BK397 := n0_; have BK402 := n1_; have HK := n2_; have HB := n3_; have HI0 := n4_; clear n0_ n1_ n2_ n3_ n4_; (try clear hb); (try clear hb2); (try clear hk); (try clear hi); obtain ⟨HGz41, hgz41⟩ := HI0.out; have hcz41_0 := cellS66_0 HGz41; have hcz41_1 := cellS66_1 HGz41; have hcz41_2 := cellS66_2 HGz41; have hfz41_0 := blk_frozen HGz41 0; have hfz41_1 := blk_frozen HGz41 1; have hfz41_2 := blk_frozen HGz41 2; clear HGz41 hgz41; have hnb42 := NB397_402.out; have hnc42 := NB402_397.out; have hnb43 := NB397_0.out; have hnc43 := NB0_397.out; obtain ⟨_,_,_,_,_⟩ := cell5 BK397.out; obtain ⟨_,_,_,_,_⟩ := froz5 BK397.out))
     refine bodyPost_ret (results_cell_row rfl _ _ gb397 23 #[.string (⟨#[]⟩ : ByteArray), .string (⟨#[]⟩ : ByteArray), .string (⟨#[]⟩ : ByteArray), .int .i64 0, .string (⟨#[]⟩ : ByteArray)] (0, 0) _ rfl (by (with_reducible repeat (first | refine kN_ ?_ _ | refine kD_ ?_ | refine kA_ ?_ _)); refine blk_p5_0_4 (show _ = some (Obj.cells #[.string (⟨#[]⟩ : ByteArray), .string (⟨#[]⟩ : ByteArray), .string (⟨#[]⟩ : ByteArray), .int .i64 0, .string (⟨#[]⟩ : ByteArray)] _ (0, 0)) from ?_); (with_reducible repeat (first | refine kN_ ?_ _ | refine kD_ ?_ | refine kA_ ?_ _)); exact BK397.out) Tryd.underlying23 rfl (by kernel_rfl)) rfl ?_
     exact ⟨by first | rfl | (simp [errW_none, errW_some] <;> rfl) | (simp [*, errW_none, errW_some] <;> rfl), by repeat (first | (with_reducible first | exact HI0.out | apply J6.alloc | apply J6.drewN | apply J6.drew | apply J6.set_0 | apply J6.set_1 | apply J6.set_2 | refine J6.far ?_ NB0_397.out _ | refine J6.far ?_ NB0_402.out _) | exact HI0.out), by repeat (first | (with_reducible first | exact HB.out | apply bA_ | apply bN_ | apply bD_ | refine bS_ ?_ (J6.ge HI0.out) | refine bS_ ?_ GE397.out | refine bS_ ?_ GE402.out) | exact HB.out), by repeat (first | (with_reducible first | exact HK.out | apply KeepBut.set_ | apply pN_ | apply pD_ | apply pA_ | refine pF_ ?_ GW397.out _ | refine pF_ ?_ GW402.out _) | exact HK.out)⟩
   ·replace c30 := Bool.eq_false_iff.mpr c30
    subst c30
    have H1 : (if t418 = 0 then (some (t398, t403, t407, t415, t411, t416, t417, t418)) else (some ((⟨#[]⟩ : ByteArray), (⟨#[]⟩ : ByteArray), (⟨#[]⟩ : ByteArray), 0, (⟨#[]⟩ : ByteArray), t416, t417, t418))) = some (r1, r2, r3, r4, r5, r6, r7, r8) := by rw [if_neg (show ¬ (false = true) by decide)] at H; exact H
    clear H
    have H := H1
    clear H1
    by_cases c45 : t418 = 0
    ·rw [if_pos c45] at H
     have c45b0 : (t418 == 0) = true := beq_iff_eq.mpr c45
     have c45b1 : (t418 != 0) = false := bne_eq_false_iff_eq.mpr c45
     clear c45
     simp only [Option.some.injEq, Prod.mk.injEq] at H
     obtain ⟨rfl, rfl, rfl, rfl, rfl, rfl, rfl, rfl⟩ := H
     obtain ⟨HGz46, hgz46⟩ := HI0.out
     have hcz46_0 := cellS66_0 HGz46
     have hcz46_1 := cellS66_1 HGz46
     have hcz46_2 := cellS66_2 HGz46
     have hfz46_0 := blk_frozen HGz46 0
     have hfz46_1 := blk_frozen HGz46 1
     have hfz46_2 := blk_frozen HGz46 2
     clear HGz46 hgz46
     have hnb47 := NB402_397.out
     have hnc47 := NB397_402.out
     have hnb48 := NB402_0.out
     have hnc48 := NB0_402.out
     obtain ⟨_,_,_,_,_⟩ := cell5 BK402.out
     obtain ⟨_,_,_,_,_⟩ := froz5 BK402.out
     have hnb50 := NB397_0.out
     have hnc50 := NB0_397.out
     obtain ⟨_,_,_,_,_⟩ := cell5 BK397.out
     obtain ⟨_,_,_,_,_⟩ := froz5 BK397.out
     go_wp2
     refine bodyPost_ret (results_cell_row rfl _ _ gb397 23 #[.string t398, .string t403, .string t407, .int .i64 t415, .string t411] (0, 0) _ rfl (by (with_reducible repeat (first | refine kN_ ?_ _ | refine kD_ ?_ | refine kA_ ?_ _)); refine blk_p5_0_4 (show _ = some (Obj.cells #[.string (⟨#[]⟩ : ByteArray), .string (⟨#[]⟩ : ByteArray), .string (⟨#[]⟩ : ByteArray), .int .i64 0, .string (⟨#[]⟩ : ByteArray)] _ (0, 0)) from ?_); (with_reducible repeat (first | refine kN_ ?_ _ | refine kD_ ?_ | refine kA_ ?_ _)); exact BK397.out) Tryd.underlying23 rfl (by kernel_rfl)) rfl ?_
     exact ⟨by first | rfl | (simp [errW_none, errW_some] <;> rfl) | (simp [*, errW_none, errW_some] <;> rfl), by repeat (first | (with_reducible first | exact HI0.out | apply J6.alloc | apply J6.drewN | apply J6.drew | apply J6.set_0 | apply J6.set_1 | apply J6.set_2 | refine J6.far ?_ NB0_397.out _ | refine J6.far ?_ NB0_402.out _) | exact HI0.out), by repeat (first | (with_reducible first | exact HB.out | apply bA_ | apply bN_ | apply bD_ | refine bS_ ?_ (J6.ge HI0.out) | refine bS_ ?_ GE397.out | refine bS_ ?_ GE402.out) | exact HB.out), by repeat (first | (with_reducible first | exact HK.out | apply KeepBut.set_ | apply pN_ | apply pD_ | apply pA_ | refine pF_ ?_ GW397.out _ | refine pF_ ?_ GW402.out _) | exact HK.out)⟩
    ·rw [if_neg c45] at H
     have c45b0 : (t418 == 0) = false := beq_eq_false_iff_ne.mpr c45
     have c45b1 : (t418 != 0) = true := bne_iff_ne.mpr c45
     simp only [Option.some.injEq, Prod.mk.injEq] at H
     obtain ⟨rfl, rfl, rfl, rfl, rfl, rfl, rfl, rfl⟩ := H
     obtain ⟨HGz52, hgz52⟩ := HI0.out
     have hcz52_0 := cellS66_0 HGz52
     have hcz52_1 := cellS66_1 HGz52
     have hcz52_2 := cellS66_2 HGz52
     have hfz52_0 := blk_frozen HGz52 0
     have hfz52_1 := blk_frozen HGz52 1
     have hfz52_2 := blk_frozen HGz52 2
     clear HGz52 hgz52
     have hnb53 := NB397_402.out
     have hnc53 := NB402_397.out
     have hnb54 := NB397_0.out
     have hnc54 := NB0_397.out
     obtain ⟨_,_,_,_,_⟩ := cell5 BK397.out
     obtain ⟨_,_,_,_,_⟩ := froz5 BK397.out
     go_wp2
     refine bodyPost_ret (results_cell_row rfl _ _ gb397 23 #[.string (⟨#[]⟩ : ByteArray), .string (⟨#[]⟩ : ByteArray), .string (⟨#[]⟩ : ByteArray), .int .i64 0, .string (⟨#[]⟩ : ByteArray)] (0, 0) _ rfl (by (with_reducible repeat (first | refine kN_ ?_ _ | refine kD_ ?_ | refine kA_ ?_ _)); refine blk_p5_0_4 (show _ = some (Obj.cells #[.string (⟨#[]⟩ : ByteArray), .string (⟨#[]⟩ : ByteArray), .string (⟨#[]⟩ : ByteArray), .int .i64 0, .string (⟨#[]⟩ : ByteArray)] _ (0, 0)) from ?_); (with_reducible repeat (first | refine kN_ ?_ _ | refine kD_ ?_ | refine kA_ ?_ _)); exact BK397.out) Tryd.underlying23 rfl (by kernel_rfl)) rfl ?_
     exact ⟨by first | rfl | (simp [errW_none, errW_some] <;> rfl) | (simp [*, errW_none, errW_some] <;> rfl), by repeat (first | (with_reducible first | exact HI0.out | apply J6.alloc | apply J6.drewN | apply J6.drew | apply J6.set_0 | apply J6.set_1 | apply J6.set_2 | refine J6.far ?_ NB0_397.out _ | refine J6.far ?_ NB0_402.out _) | exact HI0.out), by repeat (first | (with_reducible first | exact HB.out | apply bA_ | apply bN_ | apply bD_ | refine bS_ ?_ (J6.ge HI0.out) | refine bS_ ?_ GE397.out | refine bS_ ?_ GE402.out) | exact HB.out), by repeat (first | (with_reducible first | exact HK.out | apply KeepBut.set_ | apply pN_ | apply pD_ | apply pA_ | refine pF_ ?_ GW397.out _ | refine pF_ ?_ GW402.out _) | exact HK.out)⟩
end Go.Proofs.YtipenplplmdclaaDoor.Px
end
section
namespace Go.Proofs.YtipenplplmdclaaDoor.Px
open Go.RowKit Go.Proofs.YtipenplplmdclaaDoorW.PrintWords Go.Proofs.YtipenplplmdclaaDoorW.PrintLast Go.Proofs.YtipenplplmdclaaDoorW.PrintMore
attribute [local go_sem] max2_int min2_int max_two min_two max_three min_three max_four min_four
set_option linter.unusedVariables false
set_option linter.unusedSimpArgs false
def gongref23_ReadRow.f (k : Nat) (s0_0 : ByteArray) (s0_1 : Int) (s0_2 : Int) : Option (Int × ByteArray × ByteArray × ByteArray × Int × ByteArray × Int × Int × Int × Bool × ByteArray × ByteArray × Int × Int) := (uR_Groups.f k s0_0 s0_1 s0_2 9223372036854775807).bind fun bt424 => ((uR_Groups.f k bt424.2.1 bt424.2.2.1 bt424.2.2.2 1099511627776).bind fun bt429 => ((uR_Groups.f k bt429.2.1 bt429.2.2.1 bt429.2.2.2 2305843009213693952).bind fun bt433 => ((uR_Groups.f k bt433.2.1 bt433.2.2.1 bt433.2.2.2 2305843009213693952).bind fun bt437 => ((uR_Wide.f k bt437.2.1 bt437.2.2.1 bt437.2.2.2 1).bind fun bt441 => ((uR_Text.f k bt441.2.1 bt441.2.2.1 bt441.2.2.2 64).bind fun bt445 => ((gongref18_Read.f k bt445.2.1 bt445.2.2.1 bt445.2.2.2).bind fun bt449 => (if bt449.2.2.2.2.2.2.2 = 0 then ((gongref20_Check.f k bt424.1 bt449.1 bt449.2.1 bt449.2.2.1 bt449.2.2.2.1 bt449.2.2.2.2.1 bt429.1 bt433.1 bt437.1 (bt441.1 == 1) bt445.1).bind fun t457 => (if t457 = 0 then (if ((bt441.1 == 1) != (bt441.1 == 1)) = true then ((uR_Refuse.f bt449.2.2.2.2.2.1 bt449.2.2.2.2.2.2.1 bt449.2.2.2.2.2.2.2 230).bind fun bt458 => (some (0, (⟨#[]⟩ : ByteArray), (⟨#[]⟩ : ByteArray), (⟨#[]⟩ : ByteArray), 0, (⟨#[]⟩ : ByteArray), 0, 0, 0, false, (⟨#[]⟩ : ByteArray), bt458.1, bt458.2.1, bt458.2.2))) else (some (bt424.1, bt449.1, bt449.2.1, bt449.2.2.1, bt449.2.2.2.1, bt449.2.2.2.2.1, bt429.1, bt433.1, bt437.1, (bt441.1 == 1), bt445.1, bt449.2.2.2.2.2.1, bt449.2.2.2.2.2.2.1, bt449.2.2.2.2.2.2.2))) else ((uR_Refuse.f bt449.2.2.2.2.2.1 bt449.2.2.2.2.2.2.1 bt449.2.2.2.2.2.2.2 230).bind fun bt461 => (some (0, (⟨#[]⟩ : ByteArray), (⟨#[]⟩ : ByteArray), (⟨#[]⟩ : ByteArray), 0, (⟨#[]⟩ : ByteArray), 0, 0, 0, false, (⟨#[]⟩ : ByteArray), bt461.1, bt461.2.1, bt461.2.2))))) else ((uR_Refuse.f bt449.2.2.2.2.2.1 bt449.2.2.2.2.2.2.1 bt449.2.2.2.2.2.2.2 230).bind fun bt464 => (some (0, (⟨#[]⟩ : ByteArray), (⟨#[]⟩ : ByteArray), (⟨#[]⟩ : ByteArray), 0, (⟨#[]⟩ : ByteArray), 0, 0, 0, false, (⟨#[]⟩ : ByteArray), bt464.1, bt464.2.1, bt464.2.2))))))))))
set_option maxHeartbeats 8000000 in
set_option maxRecDepth 100000 in
theorem gongref23_ReadRow.calls (k : Nat) (g : Nat) (s0_0 : ByteArray) (s0_1 : Int) (s0_2 : Int) (r1 : Int) (r2 : ByteArray) (r3 : ByteArray) (r4 : ByteArray) (r5 : Int) (r6 : ByteArray) (r7 : Int) (r8 : Int) (r9 : Int) (r10 : Bool) (r11 : ByteArray) (r12 : ByteArray) (r13 : Int) (r14 : Int) (w0 w : World) (hI : J6 w0 w g s0_0 s0_1 s0_2) (hB : Below w0.heap.size w0 w) (h : gongref23_ReadRow.f k s0_0 s0_1 s0_2 = some (r1, r2, r3, r4, r5, r6, r7, r8, r9, r10, r11, r12, r13, r14)) :
  Calls Tryd.prog 43 #[.pointer (some ⟨g, 0, none⟩)] w fun e w' => e = .returned (.agg #[.int .i64 r1, .string r2, .string r3, .string r4, .int .i64 r5, .string r6, .int .i64 r7, .int .i64 r8, .int .i64 r9, .bool r10, .string r11]) ∧ J6 w0 w' g r12 r13 r14 ∧ Below w0.heap.size w0 w' ∧ KeepBut w w' g none := by
 have hu25 := Tryd.underlying25
 have hu23 := Tryd.underlying23
 have HI0 := Aside0.mk hI
 have HK := Aside0.mk (KeepBut.refl w g none)
 have HL := Aside0.mk hB.size
 clear hI
 have HW0 := Aside0.mk hB.size
 have HB := Aside0.mk hB
 clear hB
 have H : ((uR_Groups.f k s0_0 s0_1 s0_2 9223372036854775807).bind fun bt424 => ((uR_Groups.f k bt424.2.1 bt424.2.2.1 bt424.2.2.2 1099511627776).bind fun bt429 => ((uR_Groups.f k bt429.2.1 bt429.2.2.1 bt429.2.2.2 2305843009213693952).bind fun bt433 => ((uR_Groups.f k bt433.2.1 bt433.2.2.1 bt433.2.2.2 2305843009213693952).bind fun bt437 => ((uR_Wide.f k bt437.2.1 bt437.2.2.1 bt437.2.2.2 1).bind fun bt441 => ((uR_Text.f k bt441.2.1 bt441.2.2.1 bt441.2.2.2 64).bind fun bt445 => ((gongref18_Read.f k bt445.2.1 bt445.2.2.1 bt445.2.2.2).bind fun bt449 => (if bt449.2.2.2.2.2.2.2 = 0 then ((gongref20_Check.f k bt424.1 bt449.1 bt449.2.1 bt449.2.2.1 bt449.2.2.2.1 bt449.2.2.2.2.1 bt429.1 bt433.1 bt437.1 (bt441.1 == 1) bt445.1).bind fun t457 => (if t457 = 0 then (if ((bt441.1 == 1) != (bt441.1 == 1)) = true then ((uR_Refuse.f bt449.2.2.2.2.2.1 bt449.2.2.2.2.2.2.1 bt449.2.2.2.2.2.2.2 230).bind fun bt458 => (some (0, (⟨#[]⟩ : ByteArray), (⟨#[]⟩ : ByteArray), (⟨#[]⟩ : ByteArray), 0, (⟨#[]⟩ : ByteArray), 0, 0, 0, false, (⟨#[]⟩ : ByteArray), bt458.1, bt458.2.1, bt458.2.2))) else (some (bt424.1, bt449.1, bt449.2.1, bt449.2.2.1, bt449.2.2.2.1, bt449.2.2.2.2.1, bt429.1, bt433.1, bt437.1, (bt441.1 == 1), bt445.1, bt449.2.2.2.2.2.1, bt449.2.2.2.2.2.2.1, bt449.2.2.2.2.2.2.2))) else ((uR_Refuse.f bt449.2.2.2.2.2.1 bt449.2.2.2.2.2.2.1 bt449.2.2.2.2.2.2.2 230).bind fun bt461 => (some (0, (⟨#[]⟩ : ByteArray), (⟨#[]⟩ : ByteArray), (⟨#[]⟩ : ByteArray), 0, (⟨#[]⟩ : ByteArray), 0, 0, 0, false, (⟨#[]⟩ : ByteArray), bt461.1, bt461.2.1, bt461.2.2))))) else ((uR_Refuse.f bt449.2.2.2.2.2.1 bt449.2.2.2.2.2.2.1 bt449.2.2.2.2.2.2.2 230).bind fun bt464 => (some (0, (⟨#[]⟩ : ByteArray), (⟨#[]⟩ : ByteArray), (⟨#[]⟩ : ByteArray), 0, (⟨#[]⟩ : ByteArray), 0, 0, 0, false, (⟨#[]⟩ : ByteArray), bt464.1, bt464.2.1, bt464.2.2))))))))))) = some (r1, r2, r3, r4, r5, r6, r7, r8, r9, r10, r11, r12, r13, r14) := h
 clear h
 replace H := Option.bind_eq_some_iff.mp H
 obtain ⟨⟨t424, t425, t426, t427⟩, A20, H⟩ := H
 try dsimp only at H
 have A2 := Aside0.mk A20
 clear A20
 replace H := Option.bind_eq_some_iff.mp H
 obtain ⟨⟨t429, t430, t431, t432⟩, A30, H⟩ := H
 try dsimp only at H
 have A3 := Aside0.mk A30
 clear A30
 replace H := Option.bind_eq_some_iff.mp H
 obtain ⟨⟨t433, t434, t435, t436⟩, A40, H⟩ := H
 try dsimp only at H
 have A4 := Aside0.mk A40
 clear A40
 replace H := Option.bind_eq_some_iff.mp H
 obtain ⟨⟨t437, t438, t439, t440⟩, A50, H⟩ := H
 try dsimp only at H
 have A5 := Aside0.mk A50
 clear A50
 replace H := Option.bind_eq_some_iff.mp H
 obtain ⟨⟨t441, t442, t443, t444⟩, A60, H⟩ := H
 try dsimp only at H
 have A6 := Aside0.mk A60
 clear A60
 replace H := Option.bind_eq_some_iff.mp H
 obtain ⟨⟨t445, t446, t447, t448⟩, A70, H⟩ := H
 try dsimp only at H
 have A7 := Aside0.mk A70
 clear A70
 replace H := Option.bind_eq_some_iff.mp H
 obtain ⟨⟨t449, t450, t451, t452, t453, t454, t455, t456⟩, A80, H⟩ := H
 try dsimp only at H
 have A8 := Aside0.mk A80
 clear A80
 have HQ_ := Aside0.mk H
 clear H
 go_enter Tryd.func43, Tryd.ntmps43
 go_upto_region 9 with (first | ((with_reducible refine gD_ (N := 2) rfl ?_); refine gB_ ?hg (N := 2) ?hd (cs := #[.int .i64 0, .string (⟨#[]⟩ : ByteArray), .string (⟨#[]⟩ : ByteArray), .string (⟨#[]⟩ : ByteArray), .int .i64 0, .string (⟨#[]⟩ : ByteArray), .int .i64 0, .int .i64 0, .int .i64 0, .bool false, .string (⟨#[]⟩ : ByteArray)]) (t := 25) ?hr ?_; (case hd => rfl); (case hg => rfl); (case hr => first | (go_simp; done) | (go_simp; rfl)); intro gb423 hg w38 hbox hb; have n0_ := Aside0.mk (J6.below (by repeat (first | (with_reducible first | exact HI0.out | apply J6.alloc | apply J6.drewN | apply J6.drew | apply J6.set_0 | apply J6.set_1 | apply J6.set_2) | exact HI0.out)) hb); have n1_ := Aside0.mk (KeepBut.trans (by repeat (first | (with_reducible first | exact HK.out | apply KeepBut.set_ | apply pN_ | apply pD_ | apply pA_) | exact HK.out)) (KeepBut.of_below hb g none) (.inl rfl)); have n2_ := Aside0.mk (bT_ (by repeat (first | (with_reducible first | exact HB.out | apply bA_ | apply bN_ | apply bD_ | refine bS_ ?_ (J6.ge HI0.out)) | exact HB.out)) hb); have n3_ := Aside0.mk (hbox); have n4_ := Aside0.mk ((by rw [hg]; exact (keep_size (w := w) (g := g) (row := none) (by repeat (first | (with_reducible first | exact HK.out | apply KeepBut.set_ | apply pN_ | apply pD_ | apply pA_) | exact HK.out))) : w.heap.size ≤ gb423)); have n5_ := Aside0.mk ((Nat.le_trans HW0.out (by rw [hg]; exact (keep_size (w := w) (g := g) (row := none) (by repeat (first | (with_reducible first | exact HK.out | apply KeepBut.set_ | apply pN_ | apply pD_ | apply pA_) | exact HK.out))) : w.heap.size ≤ gb423) : w0.heap.size ≤ gb423)); have n6_ := Aside0.mk ((by rw [hg]; exact Nat.ne_of_lt (J6.lt (show J6 w0 _ g s0_0 s0_1 s0_2 from by repeat (first | (with_reducible first | exact HI0.out | apply J6.alloc | apply J6.drewN | apply J6.drew | apply J6.set_0 | apply J6.set_1 | apply J6.set_2) | exact HI0.out))) : g ≠ gb423)); have n7_ := Aside0.mk ((by rw [hg]; exact Nat.ne_of_gt (J6.lt (show J6 w0 _ g s0_0 s0_1 s0_2 from by repeat (first | (with_reducible first | exact HI0.out | apply J6.alloc | apply J6.drewN | apply J6.drew | apply J6.set_0 | apply J6.set_1 | apply J6.set_2) | exact HI0.out))) : gb423 ≠ g)); clear HI0; clear HK; clear HB; have HI0 := n0_; have HK := n1_; have HB := n2_; have BK423 := n3_; have GW423 := n4_; have GE423 := n5_; have NB0_423 := n6_; have NB423_0 := n7_; clear n0_ n1_ n2_ n3_ n4_ n5_ n6_ n7_; clear hb hbox hg) | ((with_reducible refine gC_ (f := 41) rfl ?_); refine goesL_ (some 6) rfl rfl Tryd.func41 (by kernel_rfl) rfl #[.pointer (some ⟨g, 0, none⟩), .int .i64 9223372036854775807] rfl (by (try simp only [List.map_toArray, List.map_cons, List.map_nil]); first | done | rfl | (simp only [List.length_drop, List.length_take]; rfl)) ?_; (with_reducible refine (uR_Groups.calls k g s0_0 s0_1 s0_2 9223372036854775807 t424 t425 t426 t427 w0 _ ?side1 ?side2 A2.out).mono ?_); (case side1 => repeat (first | (with_reducible first | exact HI0.out | apply J6.alloc | apply J6.drewN | apply J6.drew | apply J6.set_0 | apply J6.set_1 | apply J6.set_2 | refine J6.far ?_ NB0_423.out _) | exact HI0.out)); (case side2 => repeat (first | (with_reducible first | exact HB.out | apply bA_ | apply bN_ | apply bD_ | refine bS_ ?_ (J6.ge HI0.out) | refine bS_ ?_ GE423.out) | exact HB.out)); rintro e w39 ⟨rfl, hi, hb, hk⟩; refine ⟨_, rfl, ?_⟩; have n0_ := Aside0.mk (KeepBut.blk hk (g' := gb423) (o := .cells #[.int .i64 0, .string (⟨#[]⟩ : ByteArray), .string (⟨#[]⟩ : ByteArray), .string (⟨#[]⟩ : ByteArray), .int .i64 0, .string (⟨#[]⟩ : ByteArray), .int .i64 0, .int .i64 0, .int .i64 0, .bool false, .string (⟨#[]⟩ : ByteArray)] 25 (0, 0)) (by (with_reducible repeat (first | refine kN_ ?_ _ | refine kD_ ?_ | refine kA_ ?_ _)); exact BK423.out) NB423_0.out (by simp)); have n1_ := Aside0.mk (KeepBut.trans (by repeat (first | (with_reducible first | exact HK.out | apply KeepBut.set_ | apply pN_ | apply pD_ | apply pA_ | refine pF_ ?_ GW423.out _) | exact HK.out)) hk (.inl rfl)); have n2_ := Aside0.mk (hb); have n3_ := Aside0.mk (hi); clear BK423; clear HK; clear HB; clear HI0; have BK423 := n0_; have HK := n1_; have HB := n2_; have HI0 := n3_; clear n0_ n1_ n2_ n3_; (try clear hb); (try clear hb2); (try clear hk); (try clear hi)) | ((with_reducible refine gD_ (N := 3) rfl ?_); refine gB_ ?hg (N := 3) ?hd (cs := #[.int .i64 0, .string (⟨#[]⟩ : ByteArray), .string (⟨#[]⟩ : ByteArray), .string (⟨#[]⟩ : ByteArray), .int .i64 0, .string (⟨#[]⟩ : ByteArray), .int .i64 0, .int .i64 0, .int .i64 0, .bool false, .string (⟨#[]⟩ : ByteArray)]) (t := 25) ?hr ?_; (case hd => rfl); (case hg => rfl); (case hr => first | (go_simp; done) | (go_simp; rfl)); intro gb428 hg w40 hbox hb; have n0_ := Aside0.mk (J6.below (by repeat (first | (with_reducible first | exact HI0.out | apply J6.alloc | apply J6.drewN | apply J6.drew | apply J6.set_0 | apply J6.set_1 | apply J6.set_2 | refine J6.far ?_ NB0_423.out _) | exact HI0.out)) hb); have n1_ := Aside0.mk (kB_ (g := gb423) (o := .cells #[.int .i64 0, .string (⟨#[]⟩ : ByteArray), .string (⟨#[]⟩ : ByteArray), .string (⟨#[]⟩ : ByteArray), .int .i64 0, .string (⟨#[]⟩ : ByteArray), .int .i64 0, .int .i64 0, .int .i64 0, .bool false, .string (⟨#[]⟩ : ByteArray)] 25 (0, 0)) (by (with_reducible repeat (first | refine kN_ ?_ _ | refine kD_ ?_ | refine kA_ ?_ _)); exact BK423.out) hb); have n2_ := Aside0.mk (KeepBut.trans (by repeat (first | (with_reducible first | exact HK.out | apply KeepBut.set_ | apply pN_ | apply pD_ | apply pA_ | refine pF_ ?_ GW423.out _) | exact HK.out)) (KeepBut.of_below hb g none) (.inl rfl)); have n3_ := Aside0.mk (bT_ (by repeat (first | (with_reducible first | exact HB.out | apply bA_ | apply bN_ | apply bD_ | refine bS_ ?_ (J6.ge HI0.out) | refine bS_ ?_ GE423.out) | exact HB.out)) hb); have n4_ := Aside0.mk (hbox); have n5_ := Aside0.mk ((by rw [hg]; exact (keep_size (w := w) (g := g) (row := none) (by repeat (first | (with_reducible first | exact HK.out | apply KeepBut.set_ | apply pN_ | apply pD_ | apply pA_ | refine pF_ ?_ GW423.out _) | exact HK.out))) : w.heap.size ≤ gb428)); have n6_ := Aside0.mk ((Nat.le_trans HW0.out (by rw [hg]; exact (keep_size (w := w) (g := g) (row := none) (by repeat (first | (with_reducible first | exact HK.out | apply KeepBut.set_ | apply pN_ | apply pD_ | apply pA_ | refine pF_ ?_ GW423.out _) | exact HK.out))) : w.heap.size ≤ gb428) : w0.heap.size ≤ gb428)); have n7_ := Aside0.mk ((by rw [hg]; exact Nat.ne_of_lt (blk_lt (g := gb423) (o := .cells #[.int .i64 0, .string (⟨#[]⟩ : ByteArray), .string (⟨#[]⟩ : ByteArray), .string (⟨#[]⟩ : ByteArray), .int .i64 0, .string (⟨#[]⟩ : ByteArray), .int .i64 0, .int .i64 0, .int .i64 0, .bool false, .string (⟨#[]⟩ : ByteArray)] 25 (0, 0)) (by (with_reducible repeat (first | refine kN_ ?_ _ | refine kD_ ?_ | refine kA_ ?_ _)); exact BK423.out)) : gb423 ≠ gb428)); have n8_ := Aside0.mk ((by rw [hg]; exact Nat.ne_of_gt (blk_lt (g := gb423) (o := .cells #[.int .i64 0, .string (⟨#[]⟩ : ByteArray), .string (⟨#[]⟩ : ByteArray), .string (⟨#[]⟩ : ByteArray), .int .i64 0, .string (⟨#[]⟩ : ByteArray), .int .i64 0, .int .i64 0, .int .i64 0, .bool false, .string (⟨#[]⟩ : ByteArray)] 25 (0, 0)) (by (with_reducible repeat (first | refine kN_ ?_ _ | refine kD_ ?_ | refine kA_ ?_ _)); exact BK423.out)) : gb428 ≠ gb423)); have n9_ := Aside0.mk ((by rw [hg]; exact Nat.ne_of_lt (J6.lt (show J6 w0 _ g t425 t426 t427 from by repeat (first | (with_reducible first | exact HI0.out | apply J6.alloc | apply J6.drewN | apply J6.drew | apply J6.set_0 | apply J6.set_1 | apply J6.set_2 | refine J6.far ?_ NB0_423.out _) | exact HI0.out))) : g ≠ gb428)); have n10_ := Aside0.mk ((by rw [hg]; exact Nat.ne_of_gt (J6.lt (show J6 w0 _ g t425 t426 t427 from by repeat (first | (with_reducible first | exact HI0.out | apply J6.alloc | apply J6.drewN | apply J6.drew | apply J6.set_0 | apply J6.set_1 | apply J6.set_2 | refine J6.far ?_ NB0_423.out _) | exact HI0.out))) : gb428 ≠ g)); clear HI0; clear BK423; clear HK; clear HB; have HI0 := n0_; have BK423 := n1_; have HK := n2_; have HB := n3_; have BK428 := n4_; have GW428 := n5_; have GE428 := n6_; have NB423_428 := n7_; have NB428_423 := n8_; have NB0_428 := n9_; have NB428_0 := n10_; clear n0_ n1_ n2_ n3_ n4_ n5_ n6_ n7_ n8_ n9_ n10_; clear hb hbox hg; have hnb41 := NB428_423.out; have hnc41 := NB423_428.out; have hnb42 := NB428_0.out; have hnc42 := NB0_428.out; obtain ⟨_,_,_,_,_,_,_,_,_,_,_⟩ := cell11 BK428.out; obtain ⟨_,_,_,_,_,_,_,_,_,_,_⟩ := froz11 BK428.out) | ((with_reducible refine gC_ (f := 41) rfl ?_); refine goesL_ (some 9) rfl rfl Tryd.func41 (by kernel_rfl) rfl #[.pointer (some ⟨g, 0, none⟩), .int .i64 1099511627776] rfl (by (try simp only [List.map_toArray, List.map_cons, List.map_nil]); first | done | rfl | (simp only [List.length_drop, List.length_take]; rfl)) ?_; (with_reducible refine (uR_Groups.calls k g t425 t426 t427 1099511627776 t429 t430 t431 t432 w0 _ ?side1 ?side2 A3.out).mono ?_); (case side1 => repeat (first | (with_reducible first | exact HI0.out | apply J6.alloc | apply J6.drewN | apply J6.drew | apply J6.set_0 | apply J6.set_1 | apply J6.set_2 | refine J6.far ?_ NB0_423.out _ | refine J6.far ?_ NB0_428.out _) | exact HI0.out)); (case side2 => repeat (first | (with_reducible first | exact HB.out | apply bA_ | apply bN_ | apply bD_ | refine bS_ ?_ (J6.ge HI0.out) | refine bS_ ?_ GE423.out | refine bS_ ?_ GE428.out) | exact HB.out)); rintro e w44 ⟨rfl, hi, hb, hk⟩; refine ⟨_, rfl, ?_⟩; have n0_ := Aside0.mk (KeepBut.blk hk (g' := gb423) (o := .cells #[.int .i64 0, .string (⟨#[]⟩ : ByteArray), .string (⟨#[]⟩ : ByteArray), .string (⟨#[]⟩ : ByteArray), .int .i64 0, .string (⟨#[]⟩ : ByteArray), .int .i64 0, .int .i64 0, .int .i64 0, .bool false, .string (⟨#[]⟩ : ByteArray)] 25 (0, 0)) (by (with_reducible repeat (first | refine kN_ ?_ _ | refine kD_ ?_ | refine kA_ ?_ _)); refine kF_ ?_ NB423_428.out _; (with_reducible repeat (first | refine kN_ ?_ _ | refine kD_ ?_ | refine kA_ ?_ _)); refine kF_ ?_ NB423_428.out _; (with_reducible repeat (first | refine kN_ ?_ _ | refine kD_ ?_ | refine kA_ ?_ _)); refine kF_ ?_ NB423_428.out _; (with_reducible repeat (first | refine kN_ ?_ _ | refine kD_ ?_ | refine kA_ ?_ _)); refine kF_ ?_ NB423_428.out _; (with_reducible repeat (first | refine kN_ ?_ _ | refine kD_ ?_ | refine kA_ ?_ _)); refine kF_ ?_ NB423_428.out _; (with_reducible repeat (first | refine kN_ ?_ _ | refine kD_ ?_ | refine kA_ ?_ _)); refine kF_ ?_ NB423_428.out _; (with_reducible repeat (first | refine kN_ ?_ _ | refine kD_ ?_ | refine kA_ ?_ _)); refine kF_ ?_ NB423_428.out _; (with_reducible repeat (first | refine kN_ ?_ _ | refine kD_ ?_ | refine kA_ ?_ _)); refine kF_ ?_ NB423_428.out _; (with_reducible repeat (first | refine kN_ ?_ _ | refine kD_ ?_ | refine kA_ ?_ _)); refine kF_ ?_ NB423_428.out _; (with_reducible repeat (first | refine kN_ ?_ _ | refine kD_ ?_ | refine kA_ ?_ _)); refine kF_ ?_ NB423_428.out _; (with_reducible repeat (first | refine kN_ ?_ _ | refine kD_ ?_ | refine kA_ ?_ _)); refine kF_ ?_ NB423_428.out _; (with_reducible repeat (first | refine kN_ ?_ _ | refine kD_ ?_ | refine kA_ ?_ _)); exact BK423.out) NB423_0.out (by simp)); have n1_ := Aside0.mk (KeepBut.blk hk (g' := gb428) (o := .cells #[.int .i64 t424, .string (⟨#[]⟩ : ByteArray), .string (⟨#[]⟩ : ByteArray), .string (⟨#[]⟩ : ByteArray), .int .i64 0, .string (⟨#[]⟩ : ByteArray), .int .i64 0, .int .i64 0, .int .i64 0, .bool false, .string (⟨#[]⟩ : ByteArray)] 25 (0, 0)) (by (with_reducible repeat (first | refine kN_ ?_ _ | refine kD_ ?_ | refine kA_ ?_ _)); refine blk_p11_0_10 (show _ = some (Obj.cells #[.int .i64 0, .string (⟨#[]⟩ : ByteArray), .string (⟨#[]⟩ : ByteArray), .string (⟨#[]⟩ : ByteArray), .int .i64 0, .string (⟨#[]⟩ : ByteArray), .int .i64 0, .int .i64 0, .int .i64 0, .bool false, .string (⟨#[]⟩ : ByteArray)] _ (0, 0)) from ?_); (with_reducible repeat (first | refine kN_ ?_ _ | refine kD_ ?_ | refine kA_ ?_ _)); exact BK428.out) NB428_0.out (by simp)); have n2_ := Aside0.mk (KeepBut.trans (by repeat (first | (with_reducible first | exact HK.out | apply KeepBut.set_ | apply pN_ | apply pD_ | apply pA_ | refine pF_ ?_ GW423.out _ | refine pF_ ?_ GW428.out _) | exact HK.out)) hk (.inl rfl)); have n3_ := Aside0.mk (hb); have n4_ := Aside0.mk (hi); clear BK423; clear BK428; clear HK; clear HB; clear HI0; have BK423 := n0_; have BK428 := n1_; have HK := n2_; have HB := n3_; have HI0 := n4_; clear n0_ n1_ n2_ n3_ n4_; (try clear hb); (try clear hb2); (try clear hk); (try clear hi); obtain ⟨_,_,_,_,_,_,_,_,_,_,_⟩ := cell11 BK428.out; obtain ⟨_,_,_,_,_,_,_,_,_,_,_⟩ := froz11 BK428.out) | ((with_reducible refine gC_ (f := 41) rfl ?_); refine goesL_ (some 12) rfl rfl Tryd.func41 (by kernel_rfl) rfl #[.pointer (some ⟨g, 0, none⟩), .int .i64 2305843009213693952] rfl (by (try simp only [List.map_toArray, List.map_cons, List.map_nil]); first | done | rfl | (simp only [List.length_drop, List.length_take]; rfl)) ?_; (with_reducible refine (uR_Groups.calls k g t430 t431 t432 2305843009213693952 t433 t434 t435 t436 w0 _ ?side1 ?side2 A4.out).mono ?_); (case side1 => repeat (first | (with_reducible first | exact HI0.out | apply J6.alloc | apply J6.drewN | apply J6.drew | apply J6.set_0 | apply J6.set_1 | apply J6.set_2 | refine J6.far ?_ NB0_423.out _ | refine J6.far ?_ NB0_428.out _) | exact HI0.out)); (case side2 => repeat (first | (with_reducible first | exact HB.out | apply bA_ | apply bN_ | apply bD_ | refine bS_ ?_ (J6.ge HI0.out) | refine bS_ ?_ GE423.out | refine bS_ ?_ GE428.out) | exact HB.out)); rintro e w46 ⟨rfl, hi, hb, hk⟩; refine ⟨_, rfl, ?_⟩; have n0_ := Aside0.mk (KeepBut.blk hk (g' := gb423) (o := .cells #[.int .i64 0, .string (⟨#[]⟩ : ByteArray), .string (⟨#[]⟩ : ByteArray), .string (⟨#[]⟩ : ByteArray), .int .i64 0, .string (⟨#[]⟩ : ByteArray), .int .i64 0, .int .i64 0, .int .i64 0, .bool false, .string (⟨#[]⟩ : ByteArray)] 25 (0, 0)) (by (with_reducible repeat (first | refine kN_ ?_ _ | refine kD_ ?_ | refine kA_ ?_ _)); refine kF_ ?_ NB423_428.out _; (with_reducible repeat (first | refine kN_ ?_ _ | refine kD_ ?_ | refine kA_ ?_ _)); exact BK423.out) NB423_0.out (by simp)); have n1_ := Aside0.mk (KeepBut.blk hk (g' := gb428) (o := .cells #[.int .i64 t424, .string (⟨#[]⟩ : ByteArray), .string (⟨#[]⟩ : ByteArray), .string (⟨#[]⟩ : ByteArray), .int .i64 0, .string (⟨#[]⟩ : ByteArray), .int .i64 t429, .int .i64 0, .int .i64 0, .bool false, .string (⟨#[]⟩ : ByteArray)] 25 (0, 0)) (by (with_reducible repeat (first | refine kN_ ?_ _ | refine kD_ ?_ | refine kA_ ?_ _)); refine kP_ (cs := #[.int .i64 t424, .string (⟨#[]⟩ : ByteArray), .string (⟨#[]⟩ : ByteArray), .string (⟨#[]⟩ : ByteArray), .int .i64 0, .string (⟨#[]⟩ : ByteArray), .int .i64 0, .int .i64 0, .int .i64 0, .bool false, .string (⟨#[]⟩ : ByteArray)]) ?_ 6 _ rfl; (with_reducible repeat (first | refine kN_ ?_ _ | refine kD_ ?_ | refine kA_ ?_ _)); exact BK428.out) NB428_0.out (by simp)); have n2_ := Aside0.mk (KeepBut.trans (by repeat (first | (with_reducible first | exact HK.out | apply KeepBut.set_ | apply pN_ | apply pD_ | apply pA_ | refine pF_ ?_ GW423.out _ | refine pF_ ?_ GW428.out _) | exact HK.out)) hk (.inl rfl)); have n3_ := Aside0.mk (hb); have n4_ := Aside0.mk (hi); clear BK423; clear BK428; clear HK; clear HB; clear HI0; have BK423 := n0_; have BK428 := n1_; have HK := n2_; have HB := n3_; have HI0 := n4_; clear n0_ n1_ n2_ n3_ n4_; (try clear hb); (try clear hb2); (try clear hk); (try clear hi); obtain ⟨_,_,_,_,_,_,_,_,_,_,_⟩ := cell11 BK428.out; obtain ⟨_,_,_,_,_,_,_,_,_,_,_⟩ := froz11 BK428.out) | ((with_reducible refine gC_ (f := 41) rfl ?_); refine goesL_ (some 15) rfl rfl Tryd.func41 (by kernel_rfl) rfl #[.pointer (some ⟨g, 0, none⟩), .int .i64 2305843009213693952] rfl (by (try simp only [List.map_toArray, List.map_cons, List.map_nil]); first | done | rfl | (simp only [List.length_drop, List.length_take]; rfl)) ?_; (with_reducible refine (uR_Groups.calls k g t434 t435 t436 2305843009213693952 t437 t438 t439 t440 w0 _ ?side1 ?side2 A5.out).mono ?_); (case side1 => repeat (first | (with_reducible first | exact HI0.out | apply J6.alloc | apply J6.drewN | apply J6.drew | apply J6.set_0 | apply J6.set_1 | apply J6.set_2 | refine J6.far ?_ NB0_423.out _ | refine J6.far ?_ NB0_428.out _) | exact HI0.out)); (case side2 => repeat (first | (with_reducible first | exact HB.out | apply bA_ | apply bN_ | apply bD_ | refine bS_ ?_ (J6.ge HI0.out) | refine bS_ ?_ GE423.out | refine bS_ ?_ GE428.out) | exact HB.out)); rintro e w48 ⟨rfl, hi, hb, hk⟩; refine ⟨_, rfl, ?_⟩; have n0_ := Aside0.mk (KeepBut.blk hk (g' := gb423) (o := .cells #[.int .i64 0, .string (⟨#[]⟩ : ByteArray), .string (⟨#[]⟩ : ByteArray), .string (⟨#[]⟩ : ByteArray), .int .i64 0, .string (⟨#[]⟩ : ByteArray), .int .i64 0, .int .i64 0, .int .i64 0, .bool false, .string (⟨#[]⟩ : ByteArray)] 25 (0, 0)) (by (with_reducible repeat (first | refine kN_ ?_ _ | refine kD_ ?_ | refine kA_ ?_ _)); refine kF_ ?_ NB423_428.out _; (with_reducible repeat (first | refine kN_ ?_ _ | refine kD_ ?_ | refine kA_ ?_ _)); exact BK423.out) NB423_0.out (by simp)); have n1_ := Aside0.mk (KeepBut.blk hk (g' := gb428) (o := .cells #[.int .i64 t424, .string (⟨#[]⟩ : ByteArray), .string (⟨#[]⟩ : ByteArray), .string (⟨#[]⟩ : ByteArray), .int .i64 0, .string (⟨#[]⟩ : ByteArray), .int .i64 t429, .int .i64 t433, .int .i64 0, .bool false, .string (⟨#[]⟩ : ByteArray)] 25 (0, 0)) (by (with_reducible repeat (first | refine kN_ ?_ _ | refine kD_ ?_ | refine kA_ ?_ _)); refine kP_ (cs := #[.int .i64 t424, .string (⟨#[]⟩ : ByteArray), .string (⟨#[]⟩ : ByteArray), .string (⟨#[]⟩ : ByteArray), .int .i64 0, .string (⟨#[]⟩ : ByteArray), .int .i64 t429, .int .i64 0, .int .i64 0, .bool false, .string (⟨#[]⟩ : ByteArray)]) ?_ 7 _ rfl; (with_reducible repeat (first | refine kN_ ?_ _ | refine kD_ ?_ | refine kA_ ?_ _)); exact BK428.out) NB428_0.out (by simp)); have n2_ := Aside0.mk (KeepBut.trans (by repeat (first | (with_reducible first | exact HK.out | apply KeepBut.set_ | apply pN_ | apply pD_ | apply pA_ | refine pF_ ?_ GW423.out _ | refine pF_ ?_ GW428.out _) | exact HK.out)) hk (.inl rfl)); have n3_ := Aside0.mk (hb); have n4_ := Aside0.mk (hi); clear BK423; clear BK428; clear HK; clear HB; clear HI0; have BK423 := n0_; have BK428 := n1_; have HK := n2_; have HB := n3_; have HI0 := n4_; clear n0_ n1_ n2_ n3_ n4_; (try clear hb); (try clear hb2); (try clear hk); (try clear hi); obtain ⟨_,_,_,_,_,_,_,_,_,_,_⟩ := cell11 BK428.out; obtain ⟨_,_,_,_,_,_,_,_,_,_,_⟩ := froz11 BK428.out) | ((with_reducible refine gC_ (f := 42) rfl ?_); refine goesL_ (some 18) rfl rfl Tryd.func42 (by kernel_rfl) rfl #[.pointer (some ⟨g, 0, none⟩), .int .i64 1] rfl (by (try simp only [List.map_toArray, List.map_cons, List.map_nil]); first | done | rfl | (simp only [List.length_drop, List.length_take]; rfl)) ?_; (with_reducible refine (uR_Wide.calls k g t438 t439 t440 1 t441 t442 t443 t444 w0 _ ?side1 ?side2 A6.out).mono ?_); (case side1 => repeat (first | (with_reducible first | exact HI0.out | apply J6.alloc | apply J6.drewN | apply J6.drew | apply J6.set_0 | apply J6.set_1 | apply J6.set_2 | refine J6.far ?_ NB0_423.out _ | refine J6.far ?_ NB0_428.out _) | exact HI0.out)); (case side2 => repeat (first | (with_reducible first | exact HB.out | apply bA_ | apply bN_ | apply bD_ | refine bS_ ?_ (J6.ge HI0.out) | refine bS_ ?_ GE423.out | refine bS_ ?_ GE428.out) | exact HB.out)); rintro e w50 ⟨rfl, hi, hb, hk⟩; refine ⟨_, rfl, ?_⟩; have n0_ := Aside0.mk (KeepBut.blk hk (g' := gb423) (o := .cells #[.int .i64 0, .string (⟨#[]⟩ : ByteArray), .string (⟨#[]⟩ : ByteArray), .string (⟨#[]⟩ : ByteArray), .int .i64 0, .string (⟨#[]⟩ : ByteArray), .int .i64 0, .int .i64 0, .int .i64 0, .bool false, .string (⟨#[]⟩ : ByteArray)] 25 (0, 0)) (by (with_reducible repeat (first | refine kN_ ?_ _ | refine kD_ ?_ | refine kA_ ?_ _)); refine kF_ ?_ NB423_428.out _; (with_reducible repeat (first | refine kN_ ?_ _ | refine kD_ ?_ | refine kA_ ?_ _)); exact BK423.out) NB423_0.out (by simp)); have n1_ := Aside0.mk (KeepBut.blk hk (g' := gb428) (o := .cells #[.int .i64 t424, .string (⟨#[]⟩ : ByteArray), .string (⟨#[]⟩ : ByteArray), .string (⟨#[]⟩ : ByteArray), .int .i64 0, .string (⟨#[]⟩ : ByteArray), .int .i64 t429, .int .i64 t433, .int .i64 t437, .bool false, .string (⟨#[]⟩ : ByteArray)] 25 (0, 0)) (by (with_reducible repeat (first | refine kN_ ?_ _ | refine kD_ ?_ | refine kA_ ?_ _)); refine kP_ (cs := #[.int .i64 t424, .string (⟨#[]⟩ : ByteArray), .string (⟨#[]⟩ : ByteArray), .string (⟨#[]⟩ : ByteArray), .int .i64 0, .string (⟨#[]⟩ : ByteArray), .int .i64 t429, .int .i64 t433, .int .i64 0, .bool false, .string (⟨#[]⟩ : ByteArray)]) ?_ 8 _ rfl; (with_reducible repeat (first | refine kN_ ?_ _ | refine kD_ ?_ | refine kA_ ?_ _)); exact BK428.out) NB428_0.out (by simp)); have n2_ := Aside0.mk (KeepBut.trans (by repeat (first | (with_reducible first | exact HK.out | apply KeepBut.set_ | apply pN_ | apply pD_ | apply pA_ | refine pF_ ?_ GW423.out _ | refine pF_ ?_ GW428.out _) | exact HK.out)) hk (.inl rfl)); have n3_ := Aside0.mk (hb); have n4_ := Aside0.mk (hi); clear BK423; clear BK428; clear HK; clear HB; clear HI0; have BK423 := n0_; have BK428 := n1_; have HK := n2_; have HB := n3_; have HI0 := n4_; clear n0_ n1_ n2_ n3_ n4_; (try clear hb); (try clear hb2); (try clear hk); (try clear hi); obtain ⟨_,_,_,_,_,_,_,_,_,_,_⟩ := cell11 BK428.out; obtain ⟨_,_,_,_,_,_,_,_,_,_,_⟩ := froz11 BK428.out) | ((with_reducible refine gC_ (f := 61) rfl ?_); refine goesL_ (some 24) rfl rfl Tryd.func61 (by kernel_rfl) rfl #[.pointer (some ⟨g, 0, none⟩), .int .i64 64] rfl (by (try simp only [List.map_toArray, List.map_cons, List.map_nil]); first | done | rfl | (simp only [List.length_drop, List.length_take]; rfl)) ?_; (with_reducible refine (uR_Text.calls k g t442 t443 t444 64 t445 t446 t447 t448 w0 _ ?side1 ?side2 A7.out).mono ?_); (case side1 => repeat (first | (with_reducible first | exact HI0.out | apply J6.alloc | apply J6.drewN | apply J6.drew | apply J6.set_0 | apply J6.set_1 | apply J6.set_2 | refine J6.far ?_ NB0_423.out _ | refine J6.far ?_ NB0_428.out _) | exact HI0.out)); (case side2 => repeat (first | (with_reducible first | exact HB.out | apply bA_ | apply bN_ | apply bD_ | refine bS_ ?_ (J6.ge HI0.out) | refine bS_ ?_ GE423.out | refine bS_ ?_ GE428.out) | exact HB.out)); rintro e w52 ⟨rfl, hi, hb, hk⟩; refine ⟨_, rfl, ?_⟩; have n0_ := Aside0.mk (KeepBut.blk hk (g' := gb423) (o := .cells #[.int .i64 0, .string (⟨#[]⟩ : ByteArray), .string (⟨#[]⟩ : ByteArray), .string (⟨#[]⟩ : ByteArray), .int .i64 0, .string (⟨#[]⟩ : ByteArray), .int .i64 0, .int .i64 0, .int .i64 0, .bool false, .string (⟨#[]⟩ : ByteArray)] 25 (0, 0)) (by (with_reducible repeat (first | refine kN_ ?_ _ | refine kD_ ?_ | refine kA_ ?_ _)); refine kF_ ?_ NB423_428.out _; (with_reducible repeat (first | refine kN_ ?_ _ | refine kD_ ?_ | refine kA_ ?_ _)); exact BK423.out) NB423_0.out (by simp)); have n1_ := Aside0.mk (KeepBut.blk hk (g' := gb428) (o := .cells #[.int .i64 t424, .string (⟨#[]⟩ : ByteArray), .string (⟨#[]⟩ : ByteArray), .string (⟨#[]⟩ : ByteArray), .int .i64 0, .string (⟨#[]⟩ : ByteArray), .int .i64 t429, .int .i64 t433, .int .i64 t437, .bool (t441 == 1), .string (⟨#[]⟩ : ByteArray)] 25 (0, 0)) (by (with_reducible repeat (first | refine kN_ ?_ _ | refine kD_ ?_ | refine kA_ ?_ _)); refine kP_ (cs := #[.int .i64 t424, .string (⟨#[]⟩ : ByteArray), .string (⟨#[]⟩ : ByteArray), .string (⟨#[]⟩ : ByteArray), .int .i64 0, .string (⟨#[]⟩ : ByteArray), .int .i64 t429, .int .i64 t433, .int .i64 t437, .bool false, .string (⟨#[]⟩ : ByteArray)]) ?_ 9 _ rfl; (with_reducible repeat (first | refine kN_ ?_ _ | refine kD_ ?_ | refine kA_ ?_ _)); exact BK428.out) NB428_0.out (by simp)); have n2_ := Aside0.mk (KeepBut.trans (by repeat (first | (with_reducible first | exact HK.out | apply KeepBut.set_ | apply pN_ | apply pD_ | apply pA_ | refine pF_ ?_ GW423.out _ | refine pF_ ?_ GW428.out _) | exact HK.out)) hk (.inl rfl)); have n3_ := Aside0.mk (hb); have n4_ := Aside0.mk (hi); clear BK423; clear BK428; clear HK; clear HB; clear HI0; have BK423 := n0_; have BK428 := n1_; have HK := n2_; have HB := n3_; have HI0 := n4_; clear n0_ n1_ n2_ n3_ n4_; (try clear hb); (try clear hb2); (try clear hk); (try clear hi); obtain ⟨_,_,_,_,_,_,_,_,_,_,_⟩ := cell11 BK428.out; obtain ⟨_,_,_,_,_,_,_,_,_,_,_⟩ := froz11 BK428.out) | ((with_reducible refine gC_ (f := 62) rfl ?_); refine goesL_ (some 27) rfl rfl Tryd.func62 (by kernel_rfl) rfl #[.pointer (some ⟨g, 0, none⟩)] rfl (by (try simp only [List.map_toArray, List.map_cons, List.map_nil]); first | done | rfl | (simp only [List.length_drop, List.length_take]; rfl)) ?_; (with_reducible refine (gongref18_Read.calls k g t446 t447 t448 t449 t450 t451 t452 t453 t454 t455 t456 w0 _ ?side1 ?side2 A8.out).mono ?_); (case side1 => repeat (first | (with_reducible first | exact HI0.out | apply J6.alloc | apply J6.drewN | apply J6.drew | apply J6.set_0 | apply J6.set_1 | apply J6.set_2 | refine J6.far ?_ NB0_423.out _ | refine J6.far ?_ NB0_428.out _) | exact HI0.out)); (case side2 => repeat (first | (with_reducible first | exact HB.out | apply bA_ | apply bN_ | apply bD_ | refine bS_ ?_ (J6.ge HI0.out) | refine bS_ ?_ GE423.out | refine bS_ ?_ GE428.out) | exact HB.out)); rintro e w54 ⟨rfl, hi, hb, hk⟩; refine ⟨_, rfl, ?_⟩; have n0_ := Aside0.mk (KeepBut.blk hk (g' := gb423) (o := .cells #[.int .i64 0, .string (⟨#[]⟩ : ByteArray), .string (⟨#[]⟩ : ByteArray), .string (⟨#[]⟩ : ByteArray), .int .i64 0, .string (⟨#[]⟩ : ByteArray), .int .i64 0, .int .i64 0, .int .i64 0, .bool false, .string (⟨#[]⟩ : ByteArray)] 25 (0, 0)) (by (with_reducible repeat (first | refine kN_ ?_ _ | refine kD_ ?_ | refine kA_ ?_ _)); refine kF_ ?_ NB423_428.out _; (with_reducible repeat (first | refine kN_ ?_ _ | refine kD_ ?_ | refine kA_ ?_ _)); exact BK423.out) NB423_0.out (by simp)); have n1_ := Aside0.mk (KeepBut.blk hk (g' := gb428) (o := .cells #[.int .i64 t424, .string (⟨#[]⟩ : ByteArray), .string (⟨#[]⟩ : ByteArray), .string (⟨#[]⟩ : ByteArray), .int .i64 0, .string (⟨#[]⟩ : ByteArray), .int .i64 t429, .int .i64 t433, .int .i64 t437, .bool (t441 == 1), .string t445] 25 (0, 0)) (by (with_reducible repeat (first | refine kN_ ?_ _ | refine kD_ ?_ | refine kA_ ?_ _)); refine kP_ (cs := #[.int .i64 t424, .string (⟨#[]⟩ : ByteArray), .string (⟨#[]⟩ : ByteArray), .string (⟨#[]⟩ : ByteArray), .int .i64 0, .string (⟨#[]⟩ : ByteArray), .int .i64 t429, .int .i64 t433, .int .i64 t437, .bool (t441 == 1), .string (⟨#[]⟩ : ByteArray)]) ?_ 10 _ rfl; (with_reducible repeat (first | refine kN_ ?_ _ | refine kD_ ?_ | refine kA_ ?_ _)); exact BK428.out) NB428_0.out (by simp)); have n2_ := Aside0.mk (KeepBut.trans (by repeat (first | (with_reducible first | exact HK.out | apply KeepBut.set_ | apply pN_ | apply pD_ | apply pA_ | refine pF_ ?_ GW423.out _ | refine pF_ ?_ GW428.out _) | exact HK.out)) hk (.inl rfl)); have n3_ := Aside0.mk (hb); have n4_ := Aside0.mk (hi); clear BK423; clear BK428; clear HK; clear HB; clear HI0; have BK423 := n0_; have BK428 := n1_; have HK := n2_; have HB := n3_; have HI0 := n4_; clear n0_ n1_ n2_ n3_ n4_; (try clear hb); (try clear hb2); (try clear hk); (try clear hi); obtain ⟨_,_,_,_,_,_,_,_,_,_,_⟩ := cell11 BK428.out; obtain ⟨_,_,_,_,_,_,_,_,_,_,_⟩ := froz11 BK428.out; obtain ⟨HGz56, hgz56⟩ := HI0.out; have hcz56_0 := cellS66_0 HGz56; have hcz56_1 := cellS66_1 HGz56; have hcz56_2 := cellS66_2 HGz56; have hfz56_0 := blk_frozen HGz56 0; have hfz56_1 := blk_frozen HGz56 1; have hfz56_2 := blk_frozen HGz56 2; clear HGz56 hgz56))
 have H := HQ_.out
 clear HQ_
 by_cases c9 : t456 = 0
 ·rw [if_pos c9] at H
  have c9b0 : (t456 == 0) = true := beq_iff_eq.mpr c9
  have c9b1 : (t456 != 0) = false := bne_eq_false_iff_eq.mpr c9
  clear c9
  replace H := Option.bind_eq_some_iff.mp H
  obtain ⟨t457, A100, H⟩ := H
  try dsimp only at H
  have A10 := Aside0.mk A100
  clear A100
  by_cases c11 : t457 = 0
  ·rw [if_pos c11] at H
   have c11b0 : (t457 == 0) = true := beq_iff_eq.mpr c11
   have c11b1 : (t457 != 0) = false := bne_eq_false_iff_eq.mpr c11
   clear c11
   by_cases c12 : ((t441 == 1) != (t441 == 1)) = true
   ·exact absurd c12 (by simp)
   ·rw [if_neg c12] at H
    have c12b0 : ((t441 == 1) != (t441 == 1)) = false := by simp
    (try (have c12b1 : decide ((t441 == 1) = (t441 == 1)) = true := by simp))
    (try (have c12b2 : ((t441 == 1) == (t441 == 1)) = true := by simp))
    clear c12
    simp only [Option.some.injEq, Prod.mk.injEq] at H
    obtain ⟨rfl, rfl, rfl, rfl, rfl, rfl, rfl, rfl, rfl, rfl, rfl, rfl, rfl, rfl⟩ := H
    go_wp2_with (first | (go_at_call 31; (with_reducible refine (gongref20_Check.calls k t424 t449 t450 t451 t452 t453 t429 t433 t437 (t441 == 1) t445 t457 _ A10.out).mono ?_); rintro e w57 ⟨rfl, hb⟩; have n0_ := Aside0.mk (J6.below (show J6 w0 (((((w54.setCell ⟨gb428, 1, none⟩ (.string t449)).setCell ⟨gb428, 2, none⟩ (.string t450)).setCell ⟨gb428, 3, none⟩ (.string t451)).setCell ⟨gb428, 4, none⟩ (.int .i64 t452)).setCell ⟨gb428, 5, none⟩ (.string t453)) g t454 t455 t456 from by repeat (first | (with_reducible first | exact HI0.out | apply J6.alloc | apply J6.drewN | apply J6.drew | apply J6.set_0 | apply J6.set_1 | apply J6.set_2 | refine J6.far ?_ NB0_423.out _ | refine J6.far ?_ NB0_428.out _) | exact HI0.out)) hb); have n1_ := Aside0.mk (kB_ (g := gb423) (o := .cells #[.int .i64 0, .string (⟨#[]⟩ : ByteArray), .string (⟨#[]⟩ : ByteArray), .string (⟨#[]⟩ : ByteArray), .int .i64 0, .string (⟨#[]⟩ : ByteArray), .int .i64 0, .int .i64 0, .int .i64 0, .bool false, .string (⟨#[]⟩ : ByteArray)] 25 (0, 0)) (by (with_reducible repeat (first | refine kN_ ?_ _ | refine kD_ ?_ | refine kA_ ?_ _)); refine kF_ ?_ NB423_428.out _; (with_reducible repeat (first | refine kN_ ?_ _ | refine kD_ ?_ | refine kA_ ?_ _)); refine kF_ ?_ NB423_428.out _; (with_reducible repeat (first | refine kN_ ?_ _ | refine kD_ ?_ | refine kA_ ?_ _)); refine kF_ ?_ NB423_428.out _; (with_reducible repeat (first | refine kN_ ?_ _ | refine kD_ ?_ | refine kA_ ?_ _)); refine kF_ ?_ NB423_428.out _; (with_reducible repeat (first | refine kN_ ?_ _ | refine kD_ ?_ | refine kA_ ?_ _)); refine kF_ ?_ NB423_428.out _; (with_reducible repeat (first | refine kN_ ?_ _ | refine kD_ ?_ | refine kA_ ?_ _)); exact BK423.out) hb); have n2_ := Aside0.mk (kB_ (g := gb428) (o := .cells #[.int .i64 t424, .string t449, .string t450, .string t451, .int .i64 t452, .string t453, .int .i64 t429, .int .i64 t433, .int .i64 t437, .bool (t441 == 1), .string t445] 25 (0, 0)) (by (with_reducible repeat (first | refine kN_ ?_ _ | refine kD_ ?_ | refine kA_ ?_ _)); refine blk_p11_1_5 (show _ = some (Obj.cells #[.int .i64 t424, .string (⟨#[]⟩ : ByteArray), .string (⟨#[]⟩ : ByteArray), .string (⟨#[]⟩ : ByteArray), .int .i64 0, .string (⟨#[]⟩ : ByteArray), .int .i64 t429, .int .i64 t433, .int .i64 t437, .bool (t441 == 1), .string t445] _ (0, 0)) from ?_); (with_reducible repeat (first | refine kN_ ?_ _ | refine kD_ ?_ | refine kA_ ?_ _)); exact BK428.out) hb); have n3_ := Aside0.mk (KeepBut.trans (by repeat (first | (with_reducible first | exact HK.out | apply KeepBut.set_ | apply pN_ | apply pD_ | apply pA_ | refine pF_ ?_ GW423.out _ | refine pF_ ?_ GW428.out _) | exact HK.out)) (KeepBut.of_below hb g none) (.inl rfl)); have n4_ := Aside0.mk (bT_ (by repeat (first | (with_reducible first | exact HB.out | apply bA_ | apply bN_ | apply bD_ | refine bS_ ?_ (J6.ge HI0.out) | refine bS_ ?_ GE423.out | refine bS_ ?_ GE428.out) | exact HB.out)) hb); clear HI0; clear BK423; clear BK428; clear HK; clear HB; have HI0 := n0_; have BK423 := n1_; have BK428 := n2_; have HK := n3_; have HB := n4_; clear n0_ n1_ n2_ n3_ n4_; (try clear hb); (try clear hb2); (try clear hk); (try clear hi); obtain ⟨_,_,_,_,_,_,_,_,_,_,_⟩ := cell11 BK428.out; obtain ⟨_,_,_,_,_,_,_,_,_,_,_⟩ := froz11 BK428.out; have hnb59 := NB423_0.out; have hnc59 := NB0_423.out; obtain ⟨_,_,_,_,_,_,_,_,_,_,_⟩ := cell11 BK423.out; obtain ⟨_,_,_,_,_,_,_,_,_,_,_⟩ := froz11 BK423.out))
    refine bodyPost_ret (results_cell_row rfl _ _ gb423 25 #[.int .i64 t424, .string t449, .string t450, .string t451, .int .i64 t452, .string t453, .int .i64 t429, .int .i64 t433, .int .i64 t437, .bool (t441 == 1), .string t445] (0, 0) _ rfl (by (with_reducible repeat (first | refine kN_ ?_ _ | refine kD_ ?_ | refine kA_ ?_ _)); refine blk_p11_0_10 (show _ = some (Obj.cells #[.int .i64 0, .string (⟨#[]⟩ : ByteArray), .string (⟨#[]⟩ : ByteArray), .string (⟨#[]⟩ : ByteArray), .int .i64 0, .string (⟨#[]⟩ : ByteArray), .int .i64 0, .int .i64 0, .int .i64 0, .bool false, .string (⟨#[]⟩ : ByteArray)] _ (0, 0)) from ?_); (with_reducible repeat (first | refine kN_ ?_ _ | refine kD_ ?_ | refine kA_ ?_ _)); exact BK423.out) Tryd.underlying25 rfl (by kernel_rfl)) rfl ?_
    exact ⟨by first | rfl | (simp [errW_none, errW_some] <;> rfl) | (simp [*, errW_none, errW_some] <;> rfl), by repeat (first | (with_reducible first | exact HI0.out | apply J6.alloc | apply J6.drewN | apply J6.drew | apply J6.set_0 | apply J6.set_1 | apply J6.set_2 | refine J6.far ?_ NB0_423.out _ | refine J6.far ?_ NB0_428.out _) | exact HI0.out), by repeat (first | (with_reducible first | exact HB.out | apply bA_ | apply bN_ | apply bD_ | refine bS_ ?_ (J6.ge HI0.out) | refine bS_ ?_ GE423.out | refine bS_ ?_ GE428.out) | exact HB.out), by repeat (first | (with_reducible first | exact HK.out | apply KeepBut.set_ | apply pN_ | apply pD_ | apply pA_ | refine pF_ ?_ GW423.out _ | refine pF_ ?_ GW428.out _) | exact HK.out)⟩
  ·rw [if_neg c11] at H
   have c11b0 : (t457 == 0) = false := beq_eq_false_iff_ne.mpr c11
   have c11b1 : (t457 != 0) = true := bne_iff_ne.mpr c11
   replace H := Option.bind_eq_some_iff.mp H
   obtain ⟨⟨t461, t462, t463⟩, A610, H⟩ := H
   try dsimp only at H
   have A61 := Aside0.mk A610
   clear A610
   simp only [Option.some.injEq, Prod.mk.injEq] at H
   obtain ⟨rfl, rfl, rfl, rfl, rfl, rfl, rfl, rfl, rfl, rfl, rfl, rfl, rfl, rfl⟩ := H
   go_wp2_with (first | (go_at_call 31; (with_reducible refine (gongref20_Check.calls k t424 t449 t450 t451 t452 t453 t429 t433 t437 (t441 == 1) t445 t457 _ A10.out).mono ?_); rintro e w81 ⟨rfl, hb⟩; have n0_ := Aside0.mk (J6.below (show J6 w0 (((((w54.setCell ⟨gb428, 1, none⟩ (.string t449)).setCell ⟨gb428, 2, none⟩ (.string t450)).setCell ⟨gb428, 3, none⟩ (.string t451)).setCell ⟨gb428, 4, none⟩ (.int .i64 t452)).setCell ⟨gb428, 5, none⟩ (.string t453)) g t454 t455 t456 from by repeat (first | (with_reducible first | exact HI0.out | apply J6.alloc | apply J6.drewN | apply J6.drew | apply J6.set_0 | apply J6.set_1 | apply J6.set_2 | refine J6.far ?_ NB0_423.out _ | refine J6.far ?_ NB0_428.out _) | exact HI0.out)) hb); have n1_ := Aside0.mk (kB_ (g := gb423) (o := .cells #[.int .i64 0, .string (⟨#[]⟩ : ByteArray), .string (⟨#[]⟩ : ByteArray), .string (⟨#[]⟩ : ByteArray), .int .i64 0, .string (⟨#[]⟩ : ByteArray), .int .i64 0, .int .i64 0, .int .i64 0, .bool false, .string (⟨#[]⟩ : ByteArray)] 25 (0, 0)) (by (with_reducible repeat (first | refine kN_ ?_ _ | refine kD_ ?_ | refine kA_ ?_ _)); refine kF_ ?_ NB423_428.out _; (with_reducible repeat (first | refine kN_ ?_ _ | refine kD_ ?_ | refine kA_ ?_ _)); refine kF_ ?_ NB423_428.out _; (with_reducible repeat (first | refine kN_ ?_ _ | refine kD_ ?_ | refine kA_ ?_ _)); refine kF_ ?_ NB423_428.out _; (with_reducible repeat (first | refine kN_ ?_ _ | refine kD_ ?_ | refine kA_ ?_ _)); refine kF_ ?_ NB423_428.out _; (with_reducible repeat (first | refine kN_ ?_ _ | refine kD_ ?_ | refine kA_ ?_ _)); refine kF_ ?_ NB423_428.out _; (with_reducible repeat (first | refine kN_ ?_ _ | refine kD_ ?_ | refine kA_ ?_ _)); exact BK423.out) hb); have n2_ := Aside0.mk (kB_ (g := gb428) (o := .cells #[.int .i64 t424, .string t449, .string t450, .string t451, .int .i64 t452, .string t453, .int .i64 t429, .int .i64 t433, .int .i64 t437, .bool (t441 == 1), .string t445] 25 (0, 0)) (by (with_reducible repeat (first | refine kN_ ?_ _ | refine kD_ ?_ | refine kA_ ?_ _)); refine blk_p11_1_5 (show _ = some (Obj.cells #[.int .i64 t424, .string (⟨#[]⟩ : ByteArray), .string (⟨#[]⟩ : ByteArray), .string (⟨#[]⟩ : ByteArray), .int .i64 0, .string (⟨#[]⟩ : ByteArray), .int .i64 t429, .int .i64 t433, .int .i64 t437, .bool (t441 == 1), .string t445] _ (0, 0)) from ?_); (with_reducible repeat (first | refine kN_ ?_ _ | refine kD_ ?_ | refine kA_ ?_ _)); exact BK428.out) hb); have n3_ := Aside0.mk (KeepBut.trans (by repeat (first | (with_reducible first | exact HK.out | apply KeepBut.set_ | apply pN_ | apply pD_ | apply pA_ | refine pF_ ?_ GW423.out _ | refine pF_ ?_ GW428.out _) | exact HK.out)) (KeepBut.of_below hb g none) (.inl rfl)); have n4_ := Aside0.mk (bT_ (by repeat (first | (with_reducible first | exact HB.out | apply bA_ | apply bN_ | apply bD_ | refine bS_ ?_ (J6.ge HI0.out) | refine bS_ ?_ GE423.out | refine bS_ ?_ GE428.out) | exact HB.out)) hb); clear HI0; clear BK423; clear BK428; clear HK; clear HB; have HI0 := n0_; have BK423 := n1_; have BK428 := n2_; have HK := n3_; have HB := n4_; clear n0_ n1_ n2_ n3_ n4_; (try clear hb); (try clear hb2); (try clear hk); (try clear hi)) | ((with_reducible refine gC_ (f := 63) rfl ?_); refine goesL_ (some 46) rfl rfl Tryd.func63 (by kernel_rfl) rfl #[.pointer (some ⟨g, 0, none⟩), .int .i64 230] rfl (by (try simp only [List.map_toArray, List.map_cons, List.map_nil]); first | done | rfl | (simp only [List.length_drop, List.length_take]; rfl)) ?_; (with_reducible refine (uR_Refuse.calls g t454 t455 t456 230 t461 t462 t463 w0 _ ?side1 ?side2 A61.out).mono ?_); (case side1 => repeat (first | (with_reducible first | exact HI0.out | apply J6.alloc | apply J6.drewN | apply J6.drew | apply J6.set_0 | apply J6.set_1 | apply J6.set_2 | refine J6.far ?_ NB0_423.out _ | refine J6.far ?_ NB0_428.out _) | exact HI0.out)); (case side2 => repeat (first | (with_reducible first | exact HB.out | apply bA_ | apply bN_ | apply bD_ | refine bS_ ?_ (J6.ge HI0.out) | refine bS_ ?_ GE423.out | refine bS_ ?_ GE428.out) | exact HB.out)); rintro e w82 ⟨rfl, hi, hb, hk⟩; refine ⟨_, rfl, ?_⟩; have n0_ := Aside0.mk (KeepBut.blk hk (g' := gb423) (o := .cells #[.int .i64 0, .string (⟨#[]⟩ : ByteArray), .string (⟨#[]⟩ : ByteArray), .string (⟨#[]⟩ : ByteArray), .int .i64 0, .string (⟨#[]⟩ : ByteArray), .int .i64 0, .int .i64 0, .int .i64 0, .bool false, .string (⟨#[]⟩ : ByteArray)] 25 (0, 0)) (by (with_reducible repeat (first | refine kN_ ?_ _ | refine kD_ ?_ | refine kA_ ?_ _)); exact BK423.out) NB423_0.out (by simp)); have n1_ := Aside0.mk (KeepBut.blk hk (g' := gb428) (o := .cells #[.int .i64 t424, .string t449, .string t450, .string t451, .int .i64 t452, .string t453, .int .i64 t429, .int .i64 t433, .int .i64 t437, .bool (t441 == 1), .string t445] 25 (0, 0)) (by (with_reducible repeat (first | refine kN_ ?_ _ | refine kD_ ?_ | refine kA_ ?_ _)); exact BK428.out) NB428_0.out (by simp)); have n2_ := Aside0.mk (KeepBut.trans (by repeat (first | (with_reducible first | exact HK.out | apply KeepBut.set_ | apply pN_ | apply pD_ | apply pA_ | refine pF_ ?_ GW423.out _ | refine pF_ ?_ GW428.out _) | exact HK.out)) hk (.inl rfl)); have n3_ := Aside0.mk (hb); have n4_ := Aside0.mk (hi); clear BK423; clear BK428; clear HK; clear HB; clear HI0; have BK423 := n0_; have BK428 := n1_; have HK := n2_; have HB := n3_; have HI0 := n4_; clear n0_ n1_ n2_ n3_ n4_; (try clear hb); (try clear hb2); (try clear hk); (try clear hi); have hnb83 := NB423_0.out; have hnc83 := NB0_423.out; obtain ⟨_,_,_,_,_,_,_,_,_,_,_⟩ := cell11 BK423.out; obtain ⟨_,_,_,_,_,_,_,_,_,_,_⟩ := froz11 BK423.out))
   refine bodyPost_ret (results_cell_row rfl _ _ gb423 25 #[.int .i64 0, .string (⟨#[]⟩ : ByteArray), .string (⟨#[]⟩ : ByteArray), .string (⟨#[]⟩ : ByteArray), .int .i64 0, .string (⟨#[]⟩ : ByteArray), .int .i64 0, .int .i64 0, .int .i64 0, .bool false, .string (⟨#[]⟩ : ByteArray)] (0, 0) _ rfl (by (with_reducible repeat (first | refine kN_ ?_ _ | refine kD_ ?_ | refine kA_ ?_ _)); refine blk_p11_0_10 (show _ = some (Obj.cells #[.int .i64 0, .string (⟨#[]⟩ : ByteArray), .string (⟨#[]⟩ : ByteArray), .string (⟨#[]⟩ : ByteArray), .int .i64 0, .string (⟨#[]⟩ : ByteArray), .int .i64 0, .int .i64 0, .int .i64 0, .bool false, .string (⟨#[]⟩ : ByteArray)] _ (0, 0)) from ?_); (with_reducible repeat (first | refine kN_ ?_ _ | refine kD_ ?_ | refine kA_ ?_ _)); exact BK423.out) Tryd.underlying25 rfl (by kernel_rfl)) rfl ?_
   exact ⟨by first | rfl | (simp [errW_none, errW_some] <;> rfl) | (simp [*, errW_none, errW_some] <;> rfl), by repeat (first | (with_reducible first | exact HI0.out | apply J6.alloc | apply J6.drewN | apply J6.drew | apply J6.set_0 | apply J6.set_1 | apply J6.set_2 | refine J6.far ?_ NB0_423.out _ | refine J6.far ?_ NB0_428.out _) | exact HI0.out), by repeat (first | (with_reducible first | exact HB.out | apply bA_ | apply bN_ | apply bD_ | refine bS_ ?_ (J6.ge HI0.out) | refine bS_ ?_ GE423.out | refine bS_ ?_ GE428.out) | exact HB.out), by repeat (first | (with_reducible first | exact HK.out | apply KeepBut.set_ | apply pN_ | apply pD_ | apply pA_ | refine pF_ ?_ GW423.out _ | refine pF_ ?_ GW428.out _) | exact HK.out)⟩
 ·rw [if_neg c9] at H
  have c9b0 : (t456 == 0) = false := beq_eq_false_iff_ne.mpr c9
  have c9b1 : (t456 != 0) = true := bne_iff_ne.mpr c9
  replace H := Option.bind_eq_some_iff.mp H
  obtain ⟨⟨t464, t465, t466⟩, A850, H⟩ := H
  try dsimp only at H
  have A85 := Aside0.mk A850
  clear A850
  simp only [Option.some.injEq, Prod.mk.injEq] at H
  obtain ⟨rfl, rfl, rfl, rfl, rfl, rfl, rfl, rfl, rfl, rfl, rfl, rfl, rfl, rfl⟩ := H
  go_wp2_with (first | ((with_reducible refine gC_ (f := 63) rfl ?_); refine goesL_ (some 46) rfl rfl Tryd.func63 (by kernel_rfl) rfl #[.pointer (some ⟨g, 0, none⟩), .int .i64 230] rfl (by (try simp only [List.map_toArray, List.map_cons, List.map_nil]); first | done | rfl | (simp only [List.length_drop, List.length_take]; rfl)) ?_; (with_reducible refine (uR_Refuse.calls g t454 t455 t456 230 t464 t465 t466 w0 _ ?side1 ?side2 A85.out).mono ?_); (case side1 => repeat (first | (with_reducible first | exact HI0.out | apply J6.alloc | apply J6.drewN | apply J6.drew | apply J6.set_0 | apply J6.set_1 | apply J6.set_2 | refine J6.far ?_ NB0_423.out _ | refine J6.far ?_ NB0_428.out _) | exact HI0.out)); (case side2 => repeat (first | (with_reducible first | exact HB.out | apply bA_ | apply bN_ | apply bD_ | refine bS_ ?_ (J6.ge HI0.out) | refine bS_ ?_ GE423.out | refine bS_ ?_ GE428.out) | exact HB.out)); rintro e w105 ⟨rfl, hi, hb, hk⟩; refine ⟨_, rfl, ?_⟩; have n0_ := Aside0.mk (KeepBut.blk hk (g' := gb423) (o := .cells #[.int .i64 0, .string (⟨#[]⟩ : ByteArray), .string (⟨#[]⟩ : ByteArray), .string (⟨#[]⟩ : ByteArray), .int .i64 0, .string (⟨#[]⟩ : ByteArray), .int .i64 0, .int .i64 0, .int .i64 0, .bool false, .string (⟨#[]⟩ : ByteArray)] 25 (0, 0)) (by (with_reducible repeat (first | refine kN_ ?_ _ | refine kD_ ?_ | refine kA_ ?_ _)); refine kF_ ?_ NB423_428.out _; (with_reducible repeat (first | refine kN_ ?_ _ | refine kD_ ?_ | refine kA_ ?_ _)); refine kF_ ?_ NB423_428.out _; (with_reducible repeat (first | refine kN_ ?_ _ | refine kD_ ?_ | refine kA_ ?_ _)); refine kF_ ?_ NB423_428.out _; (with_reducible repeat (first | refine kN_ ?_ _ | refine kD_ ?_ | refine kA_ ?_ _)); refine kF_ ?_ NB423_428.out _; (with_reducible repeat (first | refine kN_ ?_ _ | refine kD_ ?_ | refine kA_ ?_ _)); refine kF_ ?_ NB423_428.out _; (with_reducible repeat (first | refine kN_ ?_ _ | refine kD_ ?_ | refine kA_ ?_ _)); exact BK423.out) NB423_0.out (by simp)); have n1_ := Aside0.mk (KeepBut.blk hk (g' := gb428) (o := .cells #[.int .i64 t424, .string t449, .string t450, .string t451, .int .i64 t452, .string t453, .int .i64 t429, .int .i64 t433, .int .i64 t437, .bool (t441 == 1), .string t445] 25 (0, 0)) (by (with_reducible repeat (first | refine kN_ ?_ _ | refine kD_ ?_ | refine kA_ ?_ _)); refine blk_p11_1_5 (show _ = some (Obj.cells #[.int .i64 t424, .string (⟨#[]⟩ : ByteArray), .string (⟨#[]⟩ : ByteArray), .string (⟨#[]⟩ : ByteArray), .int .i64 0, .string (⟨#[]⟩ : ByteArray), .int .i64 t429, .int .i64 t433, .int .i64 t437, .bool (t441 == 1), .string t445] _ (0, 0)) from ?_); (with_reducible repeat (first | refine kN_ ?_ _ | refine kD_ ?_ | refine kA_ ?_ _)); exact BK428.out) NB428_0.out (by simp)); have n2_ := Aside0.mk (KeepBut.trans (by repeat (first | (with_reducible first | exact HK.out | apply KeepBut.set_ | apply pN_ | apply pD_ | apply pA_ | refine pF_ ?_ GW423.out _ | refine pF_ ?_ GW428.out _) | exact HK.out)) hk (.inl rfl)); have n3_ := Aside0.mk (hb); have n4_ := Aside0.mk (hi); clear BK423; clear BK428; clear HK; clear HB; clear HI0; have BK423 := n0_; have BK428 := n1_; have HK := n2_; have HB := n3_; have HI0 := n4_; clear n0_ n1_ n2_ n3_ n4_; (try clear hb); (try clear hb2); (try clear hk); (try clear hi); have hnb106 := NB423_0.out; have hnc106 := NB0_423.out; obtain ⟨_,_,_,_,_,_,_,_,_,_,_⟩ := cell11 BK423.out; obtain ⟨_,_,_,_,_,_,_,_,_,_,_⟩ := froz11 BK423.out))
  refine bodyPost_ret (results_cell_row rfl _ _ gb423 25 #[.int .i64 0, .string (⟨#[]⟩ : ByteArray), .string (⟨#[]⟩ : ByteArray), .string (⟨#[]⟩ : ByteArray), .int .i64 0, .string (⟨#[]⟩ : ByteArray), .int .i64 0, .int .i64 0, .int .i64 0, .bool false, .string (⟨#[]⟩ : ByteArray)] (0, 0) _ rfl (by (with_reducible repeat (first | refine kN_ ?_ _ | refine kD_ ?_ | refine kA_ ?_ _)); refine blk_p11_0_10 (show _ = some (Obj.cells #[.int .i64 0, .string (⟨#[]⟩ : ByteArray), .string (⟨#[]⟩ : ByteArray), .string (⟨#[]⟩ : ByteArray), .int .i64 0, .string (⟨#[]⟩ : ByteArray), .int .i64 0, .int .i64 0, .int .i64 0, .bool false, .string (⟨#[]⟩ : ByteArray)] _ (0, 0)) from ?_); (with_reducible repeat (first | refine kN_ ?_ _ | refine kD_ ?_ | refine kA_ ?_ _)); exact BK423.out) Tryd.underlying25 rfl (by kernel_rfl)) rfl ?_
  exact ⟨by first | rfl | (simp [errW_none, errW_some] <;> rfl) | (simp [*, errW_none, errW_some] <;> rfl), by repeat (first | (with_reducible first | exact HI0.out | apply J6.alloc | apply J6.drewN | apply J6.drew | apply J6.set_0 | apply J6.set_1 | apply J6.set_2 | refine J6.far ?_ NB0_423.out _ | refine J6.far ?_ NB0_428.out _) | exact HI0.out), by repeat (first | (with_reducible first | exact HB.out | apply bA_ | apply bN_ | apply bD_ | refine bS_ ?_ (J6.ge HI0.out) | refine bS_ ?_ GE423.out | refine bS_ ?_ GE428.out) | exact HB.out), by repeat (first | (with_reducible first | exact HK.out | apply KeepBut.set_ | apply pN_ | apply pD_ | apply pA_ | refine pF_ ?_ GW423.out _ | refine pF_ ?_ GW428.out _) | exact HK.out)⟩
def uR_Done.f (s0_0 : ByteArray) (s0_1 : Int) (s0_2 : Int) : Option (Int × ByteArray × Int × Int) := if s0_2 = 0 then (if s0_1 < (s0_0.size : Int) then (some (3, s0_0, s0_1, s0_2)) else (some (0, s0_0, s0_1, s0_2))) else (some (s0_2, s0_0, s0_1, s0_2))
set_option maxHeartbeats 8000000 in
set_option maxRecDepth 100000 in
theorem uR_Done.calls (g : Nat) (s0_0 : ByteArray) (s0_1 : Int) (s0_2 : Int) (r1 : Int) (r2 : ByteArray) (r3 : Int) (r4 : Int) (w0 w : World) (hI : J6 w0 w g s0_0 s0_1 s0_2) (hB : Below w0.heap.size w0 w) (h : uR_Done.f s0_0 s0_1 s0_2 = some (r1, r2, r3, r4)) :
  Calls Tryd.prog 44 #[.pointer (some ⟨g, 0, none⟩)] w fun e w' => e = .returned (.int .i64 r1) ∧ J6 w0 w' g r2 r3 r4 ∧ Below w0.heap.size w0 w' ∧ KeepBut w w' g none := by
 have HI0 := Aside0.mk hI
 have HK := Aside0.mk (KeepBut.refl w g none)
 have HL := Aside0.mk hB.size
 clear hI
 have HW0 := Aside0.mk hB.size
 have HB := Aside0.mk hB
 clear hB
 have H : (if s0_2 = 0 then (if s0_1 < (s0_0.size : Int) then (some (3, s0_0, s0_1, s0_2)) else (some (0, s0_0, s0_1, s0_2))) else (some (s0_2, s0_0, s0_1, s0_2))) = some (r1, r2, r3, r4) := h
 clear h
 by_cases c2 : s0_2 = 0
 ·rw [if_pos c2] at H
  have c2b0 : (s0_2 == 0) = true := beq_iff_eq.mpr c2
  have c2b1 : (s0_2 != 0) = false := bne_eq_false_iff_eq.mpr c2
  clear c2
  by_cases c3 : s0_1 < (s0_0.size : Int)
  ·rw [if_pos c3] at H
   have c3b0 : decide (s0_1 < (s0_0.size : Int)) = true := decide_eq_true c3
   clear c3
   simp only [Option.some.injEq, Prod.mk.injEq] at H
   obtain ⟨rfl, rfl, rfl, rfl⟩ := H
   obtain ⟨HGz4, hgz4⟩ := HI0.out
   have hcz4_0 := cellS66_0 HGz4
   have hcz4_1 := cellS66_1 HGz4
   have hcz4_2 := cellS66_2 HGz4
   have hfz4_0 := blk_frozen HGz4 0
   have hfz4_1 := blk_frozen HGz4 1
   have hfz4_2 := blk_frozen HGz4 2
   clear HGz4 hgz4
   go_enter Tryd.func44, Tryd.ntmps44
   go_wp2
   repeat (go_quiet (fail); try go_wp2)
   go_ret
   exact ⟨by first | rfl | (simp [errW_none, errW_some] <;> rfl) | (simp [*, errW_none, errW_some] <;> rfl), by repeat (first | (with_reducible first | exact HI0.out | apply J6.alloc | apply J6.drewN | apply J6.drew | apply J6.set_0 | apply J6.set_1 | apply J6.set_2) | exact HI0.out), by repeat (first | (with_reducible first | exact HB.out | apply bA_ | apply bN_ | apply bD_ | refine bS_ ?_ (J6.ge HI0.out)) | exact HB.out), by repeat (first | (with_reducible first | exact HK.out | apply KeepBut.set_ | apply pN_ | apply pD_ | apply pA_) | exact HK.out)⟩
  ·rw [if_neg c3] at H
   have c3b0 : decide (s0_1 < (s0_0.size : Int)) = false := decide_eq_false c3
   clear c3
   simp only [Option.some.injEq, Prod.mk.injEq] at H
   obtain ⟨rfl, rfl, rfl, rfl⟩ := H
   obtain ⟨HGz5, hgz5⟩ := HI0.out
   have hcz5_0 := cellS66_0 HGz5
   have hcz5_1 := cellS66_1 HGz5
   have hcz5_2 := cellS66_2 HGz5
   have hfz5_0 := blk_frozen HGz5 0
   have hfz5_1 := blk_frozen HGz5 1
   have hfz5_2 := blk_frozen HGz5 2
   clear HGz5 hgz5
   go_enter Tryd.func44, Tryd.ntmps44
   go_wp2
   repeat (go_quiet (fail); try go_wp2)
   go_ret
   exact ⟨by first | rfl | (simp [errW_none, errW_some] <;> rfl) | (simp [*, errW_none, errW_some] <;> rfl), by repeat (first | (with_reducible first | exact HI0.out | apply J6.alloc | apply J6.drewN | apply J6.drew | apply J6.set_0 | apply J6.set_1 | apply J6.set_2) | exact HI0.out), by repeat (first | (with_reducible first | exact HB.out | apply bA_ | apply bN_ | apply bD_ | refine bS_ ?_ (J6.ge HI0.out)) | exact HB.out), by repeat (first | (with_reducible first | exact HK.out | apply KeepBut.set_ | apply pN_ | apply pD_ | apply pA_) | exact HK.out)⟩
 ·rw [if_neg c2] at H
  have c2b0 : (s0_2 == 0) = false := beq_eq_false_iff_ne.mpr c2
  have c2b1 : (s0_2 != 0) = true := bne_iff_ne.mpr c2
  simp only [Option.some.injEq, Prod.mk.injEq] at H
  obtain ⟨rfl, rfl, rfl, rfl⟩ := H
  obtain ⟨HGz6, hgz6⟩ := HI0.out
  have hcz6_0 := cellS66_0 HGz6
  have hcz6_1 := cellS66_1 HGz6
  have hcz6_2 := cellS66_2 HGz6
  have hfz6_0 := blk_frozen HGz6 0
  have hfz6_1 := blk_frozen HGz6 1
  have hfz6_2 := blk_frozen HGz6 2
  clear HGz6 hgz6
  go_enter Tryd.func44, Tryd.ntmps44
  go_wp2
  repeat (go_quiet (fail); try go_wp2)
  go_ret
  exact ⟨by first | rfl | (simp [errW_none, errW_some] <;> rfl) | (simp [*, errW_none, errW_some] <;> rfl), by repeat (first | (with_reducible first | exact HI0.out | apply J6.alloc | apply J6.drewN | apply J6.drew | apply J6.set_0 | apply J6.set_1 | apply J6.set_2) | exact HI0.out), by repeat (first | (with_reducible first | exact HB.out | apply bA_ | apply bN_ | apply bD_ | refine bS_ ?_ (J6.ge HI0.out)) | exact HB.out), by repeat (first | (with_reducible first | exact HK.out | apply KeepBut.set_ | apply pN_ | apply pD_ | apply pA_) | exact HK.out)⟩
end Go.Proofs.YtipenplplmdclaaDoor.Px
end
section
namespace Go.Proofs.YtipenplplmdclaaDoor.Px
open Go.RowKit Go.Proofs.YtipenplplmdclaaDoorW.PrintWords Go.Proofs.YtipenplplmdclaaDoorW.PrintLast Go.Proofs.YtipenplplmdclaaDoorW.PrintMore
attribute [local go_sem] max2_int min2_int max_two min_two max_three min_three max_four min_four
set_option linter.unusedVariables false
set_option linter.unusedSimpArgs false
def gongref23_Encode.f (k : Nat) (a0_0 : Int) (a0_1 : Int) (a0_2 : Int) (a0_3 : ByteArray) (a0_4 : ByteArray) (a0_5 : ByteArray) (a0_6 : Int) (a0_7 : ByteArray) (a0_8 : Int) (a0_9 : Int) (a0_10 : Int) (a0_11 : Bool) (a0_12 : ByteArray) : Option (ByteArray × Int) := (gongref23_Check.f k a0_0 a0_1 a0_2 a0_3 a0_4 a0_5 a0_6 a0_7 a0_8 a0_9 a0_10 a0_11 a0_12).bind fun t279 => (if t279 = 0 then ((gongref01_Grouped.f k a0_0).bind fun t280 => (if 1 + t280.size ≤ 9223372036854775807 then ((gongref23_Put.f k a0_0 a0_1 a0_2 a0_3 a0_4 a0_5 a0_6 a0_7 a0_8 a0_9 a0_10 a0_11 a0_12).bind fun t281 => (if ((⟨#[71]⟩ : ByteArray) ++ t280).size + t281.size ≤ 9223372036854775807 then ((gongref02_Tag.f k (((⟨#[71]⟩ : ByteArray) ++ t280) ++ t281)).bind fun t282 => (some (t282, 0))) else (none))) else (none))) else (some ((⟨#[]⟩ : ByteArray), t279)))
def gongref23_Encode.T4 : Bool × List (List Nat × List Nat) := (true, [([], []), ([0], [0]), ([1], [1]), ([2], [2]), ([], []), ([4, 2], [4]), ([3, 5], [3, 5]), ([6, 5], [6]), ([7, 7, 0, 1, 2, 3, 4, 5, 6, 7], [7]), ([8, 0, 1, 2, 3, 4, 5, 6, 7, 8], [])])
def gongref23_Encode.B4 : List Nat := [0, 1, 3, 7, 0, 23, 63, 127, 255, 511]
theorem gongref23_Encode.tab4 : rtab .any (opsOf Tryd.f12 4) = gongref23_Encode.T4 := by kernel_rfl
theorem gongref23_Encode.bits4 : waitsOk gongref23_Encode.T4.2 gongref23_Encode.B4 = true := by kernel_rfl
set_option maxHeartbeats 8000000 in
set_option maxRecDepth 100000 in
theorem gongref23_Encode.calls (k : Nat) (a0_0 : Int) (a0_1 : Int) (a0_2 : Int) (a0_3 : ByteArray) (a0_4 : ByteArray) (a0_5 : ByteArray) (a0_6 : Int) (a0_7 : ByteArray) (a0_8 : Int) (a0_9 : Int) (a0_10 : Int) (a0_11 : Bool) (a0_12 : ByteArray) (r1 : ByteArray) (r2 : Int) (w : World) (h : gongref23_Encode.f k a0_0 a0_1 a0_2 a0_3 a0_4 a0_5 a0_6 a0_7 a0_8 a0_9 a0_10 a0_11 a0_12 = some (r1, r2)) :
  Calls Tryd.prog 12 #[.agg #[.int .i64 a0_0, .int .i64 a0_1, .int .i64 a0_2, .string a0_3, .string a0_4, .string a0_5, .int .i64 a0_6, .string a0_7, .int .i64 a0_8, .int .i64 a0_9, .int .i64 a0_10, .bool a0_11, .string a0_12]] w fun e w' => e = .returned (.tuple #[.string r1, .int .i64 r2]) ∧ Below w.heap.size w w' := by
 have hu27 := Tryd.underlying27
 have HB := Aside0.mk (Below.refl w.heap.size w)
 have H : ((gongref23_Check.f k a0_0 a0_1 a0_2 a0_3 a0_4 a0_5 a0_6 a0_7 a0_8 a0_9 a0_10 a0_11 a0_12).bind fun t279 => (if t279 = 0 then ((gongref01_Grouped.f k a0_0).bind fun t280 => (if 1 + t280.size ≤ 9223372036854775807 then ((gongref23_Put.f k a0_0 a0_1 a0_2 a0_3 a0_4 a0_5 a0_6 a0_7 a0_8 a0_9 a0_10 a0_11 a0_12).bind fun t281 => (if ((⟨#[71]⟩ : ByteArray) ++ t280).size + t281.size ≤ 9223372036854775807 then ((gongref02_Tag.f k (((⟨#[71]⟩ : ByteArray) ++ t280) ++ t281)).bind fun t282 => (some (t282, 0))) else (none))) else (none))) else (some ((⟨#[]⟩ : ByteArray), t279)))) = some (r1, r2) := h
 clear h
 replace H := Option.bind_eq_some_iff.mp H
 obtain ⟨t279, A20, H⟩ := H
 try dsimp only at H
 have A2 := Aside0.mk A20
 clear A20
 by_cases c3 : t279 = 0
 ·rw [if_pos c3] at H
  have c3b0 : (t279 == 0) = true := beq_iff_eq.mpr c3
  have c3b1 : (t279 != 0) = false := bne_eq_false_iff_eq.mpr c3
  clear c3
  replace H := Option.bind_eq_some_iff.mp H
  obtain ⟨t280, A40, H⟩ := H
  try dsimp only at H
  have A4 := Aside0.mk A40
  clear A40
  by_cases c5 : 1 + t280.size ≤ 9223372036854775807
  ·rw [if_pos c5] at H
   have c5b0 := eq_true c5
   have c5b1 : decide (1 + t280.size ≤ 9223372036854775807) = true := decide_eq_true c5
   try have c5b2 : (9223372036854775807 < 1 + t280.size) = False := eq_false (Nat.not_lt.2 c5)
   replace H := Option.bind_eq_some_iff.mp H
   obtain ⟨t281, A60, H⟩ := H
   try dsimp only at H
   have A6 := Aside0.mk A60
   clear A60
   by_cases c7 : ((⟨#[71]⟩ : ByteArray) ++ t280).size + t281.size ≤ 9223372036854775807
   ·rw [if_pos c7] at H
    have c7b0 := eq_true c7
    have c7b1 : decide (((⟨#[71]⟩ : ByteArray) ++ t280).size + t281.size ≤ 9223372036854775807) = true := decide_eq_true c7
    try have c7b2 : (9223372036854775807 < ((⟨#[71]⟩ : ByteArray) ++ t280).size + t281.size) = False := eq_false (Nat.not_lt.2 c7)
    try have c7s2 : (9223372036854775807 < 1 + (t280).size + t281.size) = False := eq_false (by have z_ := c7; simp only [ByteArray.size_append] at z_; have y0_ : (⟨#[71]⟩ : ByteArray).size = 1 := rfl; omega)
    replace H := Option.bind_eq_some_iff.mp H
    obtain ⟨t282, A80, H⟩ := H
    try dsimp only at H
    have A8 := Aside0.mk A80
    clear A80
    simp only [Option.some.injEq, Prod.mk.injEq] at H
    obtain ⟨rfl, rfl⟩ := H
    go_enter Tryd.func12, Tryd.ntmps12
    try go_wp2_with (first | ((with_reducible refine gD_ (N := 1) rfl ?_); refine gB_ ?hg (N := 1) ?hd (cs := #[.int .i64 a0_0, .int .i64 a0_1, .int .i64 a0_2, .string a0_3, .string a0_4, .string a0_5, .int .i64 a0_6, .string a0_7, .int .i64 a0_8, .int .i64 a0_9, .int .i64 a0_10, .bool a0_11, .string a0_12]) (t := 27) ?hr ?_; (case hd => rfl); (case hg => rfl); (case hr => first | (go_simp; done) | (go_simp; rfl)); intro gb278 hg w9 hbox hb; have n0_ := Aside0.mk (bT_ (by repeat (first | (with_reducible first | exact HB.out | apply bA_ | apply bN_ | apply bD_) | exact HB.out)) hb); have n1_ := Aside0.mk (hbox); have n2_ := Aside0.mk ((by rw [hg]; exact (bZ_ (by repeat (first | (with_reducible first | exact HB.out | apply bA_ | apply bN_ | apply bD_) | exact HB.out))) : w.heap.size ≤ gb278)); have n3_ := Aside0.mk ((by rw [hg]; exact (bZ_ (by repeat (first | (with_reducible first | exact HB.out | apply bA_ | apply bN_ | apply bD_) | exact HB.out))) : w.heap.size ≤ gb278)); clear HB; have HB := n0_; have BK278 := n1_; have GW278 := n2_; have GE278 := n3_; clear n0_ n1_ n2_ n3_; clear hb hbox hg; obtain ⟨_,_,_,_,_,_,_,_,_,_,_,_,_⟩ := cell13 BK278.out; obtain ⟨_,_,_,_,_,_,_,_,_,_,_,_,_⟩ := froz13 BK278.out) | ((with_reducible refine gC_ (f := 16) rfl ?_); refine goesL_ (some 6) rfl rfl Tryd.func16 (by kernel_rfl) rfl #[.agg #[.int .i64 a0_0, .int .i64 a0_1, .int .i64 a0_2, .string a0_3, .string a0_4, .string a0_5, .int .i64 a0_6, .string a0_7, .int .i64 a0_8, .int .i64 a0_9, .int .i64 a0_10, .bool a0_11, .string a0_12]] rfl (by (try simp only [List.map_toArray, List.map_cons, List.map_nil]); first | done | rfl | (simp only [List.length_drop, List.length_take]; rfl)) ?_; (with_reducible refine (gongref23_Check.calls k a0_0 a0_1 a0_2 a0_3 a0_4 a0_5 a0_6 a0_7 a0_8 a0_9 a0_10 a0_11 a0_12 t279 _ A2.out).mono ?_); rintro e w11 ⟨rfl, hb⟩; refine ⟨_, rfl, ?_⟩; have n0_ := Aside0.mk (kB_ (g := gb278) (o := .cells #[.int .i64 a0_0, .int .i64 a0_1, .int .i64 a0_2, .string a0_3, .string a0_4, .string a0_5, .int .i64 a0_6, .string a0_7, .int .i64 a0_8, .int .i64 a0_9, .int .i64 a0_10, .bool a0_11, .string a0_12] 27 (0, 0)) (by (with_reducible repeat (first | refine kN_ ?_ _ | refine kD_ ?_ | refine kA_ ?_ _)); exact BK278.out) hb); have n1_ := Aside0.mk (bT_ (by repeat (first | (with_reducible first | exact HB.out | apply bA_ | apply bN_ | apply bD_ | refine bS_ ?_ GE278.out) | exact HB.out)) hb); clear BK278; clear HB; have BK278 := n0_; have HB := n1_; clear n0_ n1_; (try clear hb); (try clear hb2); (try clear hk); (try clear hi)))
    have n0_ := Aside0.mk (kD_ BK278.out)
    have n1_ := Aside0.mk (bD_ HB.out)
    clear BK278
    clear HB
    have BK278 := n0_
    have HB := n1_
    clear n0_ n1_
    refine start_ (n := 10) (S := fun w' => w'.cell? ⟨gb278, 0, none⟩ = some (.int .i64 a0_0) ∧ w'.cell? ⟨gb278, 1, none⟩ = some (.int .i64 a0_1) ∧ w'.cell? ⟨gb278, 2, none⟩ = some (.int .i64 a0_2) ∧ w'.cell? ⟨gb278, 3, none⟩ = some (.string a0_3) ∧ w'.cell? ⟨gb278, 4, none⟩ = some (.string a0_4) ∧ w'.cell? ⟨gb278, 5, none⟩ = some (.string a0_5) ∧ w'.cell? ⟨gb278, 6, none⟩ = some (.int .i64 a0_6) ∧ w'.cell? ⟨gb278, 7, none⟩ = some (.string a0_7) ∧ w'.cell? ⟨gb278, 8, none⟩ = some (.int .i64 a0_8) ∧ w'.cell? ⟨gb278, 9, none⟩ = some (.int .i64 a0_9) ∧ w'.cell? ⟨gb278, 10, none⟩ = some (.int .i64 a0_10) ∧ w'.cell? ⟨gb278, 11, none⟩ = some (.bool a0_11) ∧ w'.cell? ⟨gb278, 12, none⟩ = some (.string a0_12)) (ds := []) #[false, false, false, false, false, false, false, false, false, false] (by kernel_rfl) rfl rfl ⟨(blk_cell BK278.out 0).trans rfl, (blk_cell BK278.out 1).trans rfl, (blk_cell BK278.out 2).trans rfl, (blk_cell BK278.out 3).trans rfl, (blk_cell BK278.out 4).trans rfl, (blk_cell BK278.out 5).trans rfl, (blk_cell BK278.out 6).trans rfl, (blk_cell BK278.out 7).trans rfl, (blk_cell BK278.out 8).trans rfl, (blk_cell BK278.out 9).trans rfl, (blk_cell BK278.out 10).trans rfl, (blk_cell BK278.out 11).trans rfl, (blk_cell BK278.out 12).trans rfl⟩ (fun hHeld => ?_); refine with_tabW gongref23_Encode.tab4 gongref23_Encode.bits4 (fun HT_ HW_ => ?_)
    generalize w11.drew = w12 at BK278 HB hHeld ⊢
    refine pure_ (i := 0) (N := some 10) (v := ?_) (a' := ?_) #[true, false, false, false, false, false, false, false, false, false] rfl rfl (any_of HT_.out (by kernel_rfl)) (fun _ _ _ h => h) (Or.inl ⟨by rfl, ?_⟩) ?_ ?_
    rotate_left
    ·intro w'
     go_simp
     with_reducible rfl
    rotate_left
    ·simp only [Act.put, List.setIfInBounds_toArray, List.set_cons_zero, List.set_cons_succ, i64_w, i32_w]
     rfl
    refine take_ (i := 1) (N := some 11) (v := ?_) (a' := ?_) #[true, true, false, false, false, false, false, false, false, false] rfl rfl (take_ofW HT_.out HW_.out (by kernel_rfl)) (fun _ _ _ h => h) (Or.inl ⟨by rfl, ?_⟩) hHeld ?_ ?_
    rotate_left
    ·rintro w' ⟨s0, s1, s2, s3, s4, s5, s6, s7, s8, s9, s10, s11, s12⟩
     go_simp
     with_reducible rfl
    rotate_left
    ·simp only [Act.put, List.setIfInBounds_toArray, List.set_cons_zero, List.set_cons_succ, i64_w, i32_w]
     rfl
    refine take_ (i := 4) (N := some 14) (v := ?_) (a' := ?_) #[true, true, false, false, true, false, false, false, false, false] rfl rfl (take_ofW HT_.out HW_.out (by kernel_rfl)) (fun _ _ _ h => h) (Or.inl ⟨by rfl, ?_⟩) hHeld ?_ ?_
    rotate_left
    ·rintro w' ⟨s0, s1, s2, s3, s4, s5, s6, s7, s8, s9, s10, s11, s12⟩
     go_simp
     with_reducible rfl
    rotate_left
    ·simp only [Act.put, List.setIfInBounds_toArray, List.set_cons_zero, List.set_cons_succ, i64_w, i32_w]
     rfl
    refine one_ (i := 2) (N := some 12) #[true, true, true, false, true, false, false, false, false, false] rfl rfl (one_of HT_.out (by kernel_rfl)) (by decide) (fun K hK => ?_)
    refine goes_ Tryd.func29 (by kernel_rfl) rfl #[.int .i64 a0_0] (by rfl) rfl rfl (by (try simp only [List.map_toArray, List.map_cons, List.map_nil]); first | done | rfl | (simp only [List.length_drop, List.length_take]; rfl)) ?_
    with_reducible refine (gongref01_Grouped.calls k a0_0 t280 _ A4.out).mono ?_
    rintro e w13 ⟨rfl, hb⟩
    refine ⟨_, rfl, ?_⟩
    have n0_ := Aside0.mk (kB_ (g := gb278) (o := .cells #[.int .i64 a0_0, .int .i64 a0_1, .int .i64 a0_2, .string a0_3, .string a0_4, .string a0_5, .int .i64 a0_6, .string a0_7, .int .i64 a0_8, .int .i64 a0_9, .int .i64 a0_10, .bool a0_11, .string a0_12] 27 (0, 0)) (by (with_reducible repeat (first | refine kN_ ?_ _ | refine kD_ ?_ | refine kA_ ?_ _)); exact BK278.out) hb)
    have n1_ := Aside0.mk (bT_ (by repeat (first | (with_reducible first | exact HB.out | apply bA_ | apply bN_ | apply bD_ | refine bS_ ?_ GE278.out) | exact HB.out)) hb)
    clear BK278
    clear HB
    have BK278 := n0_
    have HB := n1_
    clear n0_ n1_
    (try clear hb)
    (try clear hb2)
    (try clear hk)
    (try clear hi)
    refine hK.out _ _ ⟨(blk_cell BK278.out 0).trans rfl, (blk_cell BK278.out 1).trans rfl, (blk_cell BK278.out 2).trans rfl, (blk_cell BK278.out 3).trans rfl, (blk_cell BK278.out 4).trans rfl, (blk_cell BK278.out 5).trans rfl, (blk_cell BK278.out 6).trans rfl, (blk_cell BK278.out 7).trans rfl, (blk_cell BK278.out 8).trans rfl, (blk_cell BK278.out 9).trans rfl, (blk_cell BK278.out 10).trans rfl, (blk_cell BK278.out 11).trans rfl, (blk_cell BK278.out 12).trans rfl⟩ (fun hHeld => ?_)
    clear hK K
    refine norm_ (a' := ?_) ?_ ?_
    rotate_left
    ·show Act.put _ (some 12) _ = _
     simp only [Act.put, List.setIfInBounds_toArray, List.set_cons_zero, List.set_cons_succ, i64_w, i32_w]
     rfl
    refine pure_ (i := 3) (N := some 13) (v := ?_) (a' := ?_) #[true, true, true, true, true, false, false, false, false, false] rfl rfl (any_of HT_.out (by kernel_rfl)) (fun _ _ _ h => h) (Or.inl ⟨by rfl, ?_⟩) ?_ ?_
    rotate_left
    ·intro w'
     go_simp
     with_reducible rfl
    rotate_left
    ·simp only [Act.put, List.setIfInBounds_toArray, List.set_cons_zero, List.set_cons_succ, i64_w, i32_w]
     rfl
    refine one_ (i := 5) (N := some 15) #[true, true, true, true, true, true, false, false, false, false] rfl rfl (one_of HT_.out (by kernel_rfl)) (by decide) (fun K hK => ?_)
    refine goes_ Tryd.func27 (by kernel_rfl) rfl #[.agg #[.int .i64 a0_0, .int .i64 a0_1, .int .i64 a0_2, .string a0_3, .string a0_4, .string a0_5, .int .i64 a0_6, .string a0_7, .int .i64 a0_8, .int .i64 a0_9, .int .i64 a0_10, .bool a0_11, .string a0_12]] (by rfl) rfl rfl (by (try simp only [List.map_toArray, List.map_cons, List.map_nil]); first | done | rfl | (simp only [List.length_drop, List.length_take]; rfl)) ?_
    with_reducible refine (gongref23_Put.calls k a0_0 a0_1 a0_2 a0_3 a0_4 a0_5 a0_6 a0_7 a0_8 a0_9 a0_10 a0_11 a0_12 t281 _ A6.out).mono ?_
    rintro e w14 ⟨rfl, hb⟩
    refine ⟨_, rfl, ?_⟩
    have n0_ := Aside0.mk (kB_ (g := gb278) (o := .cells #[.int .i64 a0_0, .int .i64 a0_1, .int .i64 a0_2, .string a0_3, .string a0_4, .string a0_5, .int .i64 a0_6, .string a0_7, .int .i64 a0_8, .int .i64 a0_9, .int .i64 a0_10, .bool a0_11, .string a0_12] 27 (0, 0)) (by (with_reducible repeat (first | refine kN_ ?_ _ | refine kD_ ?_ | refine kA_ ?_ _)); exact BK278.out) hb)
    have n1_ := Aside0.mk (bT_ (by repeat (first | (with_reducible first | exact HB.out | apply bA_ | apply bN_ | apply bD_ | refine bS_ ?_ GE278.out) | exact HB.out)) hb)
    clear BK278
    clear HB
    have BK278 := n0_
    have HB := n1_
    clear n0_ n1_
    (try clear hb)
    (try clear hb2)
    (try clear hk)
    (try clear hi)
    refine hK.out _ _ ⟨(blk_cell BK278.out 0).trans rfl, (blk_cell BK278.out 1).trans rfl, (blk_cell BK278.out 2).trans rfl, (blk_cell BK278.out 3).trans rfl, (blk_cell BK278.out 4).trans rfl, (blk_cell BK278.out 5).trans rfl, (blk_cell BK278.out 6).trans rfl, (blk_cell BK278.out 7).trans rfl, (blk_cell BK278.out 8).trans rfl, (blk_cell BK278.out 9).trans rfl, (blk_cell BK278.out 10).trans rfl, (blk_cell BK278.out 11).trans rfl, (blk_cell BK278.out 12).trans rfl⟩ (fun hHeld => ?_)
    clear hK K
    refine norm_ (a' := ?_) ?_ ?_
    rotate_left
    ·show Act.put _ (some 15) _ = _
     simp only [Act.put, List.setIfInBounds_toArray, List.set_cons_zero, List.set_cons_succ, i64_w, i32_w]
     rfl
    refine pure_ (i := 6) (N := some 16) (v := ?_) (a' := ?_) #[true, true, true, true, true, true, true, false, false, false] rfl rfl (any_of HT_.out (by kernel_rfl)) (fun _ _ _ h => h) (Or.inl ⟨by rfl, ?_⟩) ?_ ?_
    rotate_left
    ·intro w'
     go_simp
     with_reducible rfl
    rotate_left
    ·simp only [Act.put, List.setIfInBounds_toArray, List.set_cons_zero, List.set_cons_succ, i64_w, i32_w]
     rfl
    refine one_ (i := 7) (N := some 17) #[true, true, true, true, true, true, true, true, false, false] rfl rfl (one_of HT_.out (by kernel_rfl)) (by decide) (fun K hK => ?_)
    refine goes_ Tryd.func28 (by kernel_rfl) rfl #[.string (((⟨#[71]⟩ : ByteArray) ++ t280) ++ t281)] (by rfl) rfl rfl (by (try simp only [List.map_toArray, List.map_cons, List.map_nil]); first | done | rfl | (simp only [List.length_drop, List.length_take]; rfl)) ?_
    with_reducible refine (gongref02_Tag.calls k (((⟨#[71]⟩ : ByteArray) ++ t280) ++ t281) t282 _ A8.out).mono ?_
    rintro e w15 ⟨rfl, hb⟩
    refine ⟨_, rfl, ?_⟩
    have n0_ := Aside0.mk (kB_ (g := gb278) (o := .cells #[.int .i64 a0_0, .int .i64 a0_1, .int .i64 a0_2, .string a0_3, .string a0_4, .string a0_5, .int .i64 a0_6, .string a0_7, .int .i64 a0_8, .int .i64 a0_9, .int .i64 a0_10, .bool a0_11, .string a0_12] 27 (0, 0)) (by (with_reducible repeat (first | refine kN_ ?_ _ | refine kD_ ?_ | refine kA_ ?_ _)); exact BK278.out) hb)
    have n1_ := Aside0.mk (bT_ (by repeat (first | (with_reducible first | exact HB.out | apply bA_ | apply bN_ | apply bD_ | refine bS_ ?_ GE278.out) | exact HB.out)) hb)
    clear BK278
    clear HB
    have BK278 := n0_
    have HB := n1_
    clear n0_ n1_
    (try clear hb)
    (try clear hb2)
    (try clear hk)
    (try clear hi)
    refine hK.out _ _ ⟨(blk_cell BK278.out 0).trans rfl, (blk_cell BK278.out 1).trans rfl, (blk_cell BK278.out 2).trans rfl, (blk_cell BK278.out 3).trans rfl, (blk_cell BK278.out 4).trans rfl, (blk_cell BK278.out 5).trans rfl, (blk_cell BK278.out 6).trans rfl, (blk_cell BK278.out 7).trans rfl, (blk_cell BK278.out 8).trans rfl, (blk_cell BK278.out 9).trans rfl, (blk_cell BK278.out 10).trans rfl, (blk_cell BK278.out 11).trans rfl, (blk_cell BK278.out 12).trans rfl⟩ (fun hHeld => ?_)
    clear hK K
    refine norm_ (a' := ?_) ?_ ?_
    rotate_left
    ·show Act.put _ (some 17) _ = _
     simp only [Act.put, List.setIfInBounds_toArray, List.set_cons_zero, List.set_cons_succ, i64_w, i32_w]
     rfl
    refine pure_ (i := 8) (N := some 2) (v := ?_) (a' := ?_) #[true, true, true, true, true, true, true, true, true, false] rfl rfl (any_of HT_.out (by kernel_rfl)) (fun _ _ _ h => h) (Or.inl ⟨by rfl, ?_⟩) ?_ ?_
    rotate_left
    ·intro w'
     go_simp
     with_reducible rfl
    rotate_left
    ·simp only [Act.put, List.setIfInBounds_toArray, List.set_cons_zero, List.set_cons_succ, i64_w, i32_w]
     rfl
    refine pure_ (i := 9) (N := some 3) (v := ?_) (a' := ?_) #[true, true, true, true, true, true, true, true, true, true] rfl rfl (any_of HT_.out (by kernel_rfl)) (fun _ _ _ h => h) (Or.inl ⟨by rfl, ?_⟩) ?_ ?_
    rotate_left
    ·intro w'
     go_simp
     with_reducible rfl
    rotate_left
    ·simp only [Act.put, List.setIfInBounds_toArray, List.set_cons_zero, List.set_cons_succ, i64_w, i32_w]
     rfl
    refine done_ (done_of HT_.out (by kernel_rfl)) ?_
    try go_wp2
    go_ret2
    exact ⟨by first | rfl | (simp [errW_none, errW_some] <;> rfl) | (simp [*, errW_none, errW_some] <;> rfl), by repeat (first | (with_reducible first | exact HB.out | apply bA_ | apply bN_ | apply bD_ | refine bS_ ?_ GE278.out) | exact HB.out)⟩
   ·rw [if_neg c7] at H
    exact absurd H (by simp)
  ·rw [if_neg c5] at H
   exact absurd H (by simp)
 ·rw [if_neg c3] at H
  have c3b0 : (t279 == 0) = false := beq_eq_false_iff_ne.mpr c3
  have c3b1 : (t279 != 0) = true := bne_iff_ne.mpr c3
  simp only [Option.some.injEq, Prod.mk.injEq] at H
  obtain ⟨rfl, rfl⟩ := H
  go_enter Tryd.func12, Tryd.ntmps12
  go_wp2_with (first | ((with_reducible refine gD_ (N := 1) rfl ?_); refine gB_ ?hg (N := 1) ?hd (cs := #[.int .i64 a0_0, .int .i64 a0_1, .int .i64 a0_2, .string a0_3, .string a0_4, .string a0_5, .int .i64 a0_6, .string a0_7, .int .i64 a0_8, .int .i64 a0_9, .int .i64 a0_10, .bool a0_11, .string a0_12]) (t := 27) ?hr ?_; (case hd => rfl); (case hg => rfl); (case hr => first | (go_simp; done) | (go_simp; rfl)); intro gb278 hg w16 hbox hb; have n0_ := Aside0.mk (bT_ (by repeat (first | (with_reducible first | exact HB.out | apply bA_ | apply bN_ | apply bD_) | exact HB.out)) hb); have n1_ := Aside0.mk (hbox); have n2_ := Aside0.mk ((by rw [hg]; exact (bZ_ (by repeat (first | (with_reducible first | exact HB.out | apply bA_ | apply bN_ | apply bD_) | exact HB.out))) : w.heap.size ≤ gb278)); have n3_ := Aside0.mk ((by rw [hg]; exact (bZ_ (by repeat (first | (with_reducible first | exact HB.out | apply bA_ | apply bN_ | apply bD_) | exact HB.out))) : w.heap.size ≤ gb278)); clear HB; have HB := n0_; have BK278 := n1_; have GW278 := n2_; have GE278 := n3_; clear n0_ n1_ n2_ n3_; clear hb hbox hg; obtain ⟨_,_,_,_,_,_,_,_,_,_,_,_,_⟩ := cell13 BK278.out; obtain ⟨_,_,_,_,_,_,_,_,_,_,_,_,_⟩ := froz13 BK278.out) | ((with_reducible refine gC_ (f := 16) rfl ?_); refine goesL_ (some 6) rfl rfl Tryd.func16 (by kernel_rfl) rfl #[.agg #[.int .i64 a0_0, .int .i64 a0_1, .int .i64 a0_2, .string a0_3, .string a0_4, .string a0_5, .int .i64 a0_6, .string a0_7, .int .i64 a0_8, .int .i64 a0_9, .int .i64 a0_10, .bool a0_11, .string a0_12]] rfl (by (try simp only [List.map_toArray, List.map_cons, List.map_nil]); first | done | rfl | (simp only [List.length_drop, List.length_take]; rfl)) ?_; (with_reducible refine (gongref23_Check.calls k a0_0 a0_1 a0_2 a0_3 a0_4 a0_5 a0_6 a0_7 a0_8 a0_9 a0_10 a0_11 a0_12 t279 _ A2.out).mono ?_); rintro e w18 ⟨rfl, hb⟩; refine ⟨_, rfl, ?_⟩; have n0_ := Aside0.mk (kB_ (g := gb278) (o := .cells #[.int .i64 a0_0, .int .i64 a0_1, .int .i64 a0_2, .string a0_3, .string a0_4, .string a0_5, .int .i64 a0_6, .string a0_7, .int .i64 a0_8, .int .i64 a0_9, .int .i64 a0_10, .bool a0_11, .string a0_12] 27 (0, 0)) (by (with_reducible repeat (first | refine kN_ ?_ _ | refine kD_ ?_ | refine kA_ ?_ _)); exact BK278.out) hb); have n1_ := Aside0.mk (bT_ (by repeat (first | (with_reducible first | exact HB.out | apply bA_ | apply bN_ | apply bD_ | refine bS_ ?_ GE278.out) | exact HB.out)) hb); clear BK278; clear HB; have BK278 := n0_; have HB := n1_; clear n0_ n1_; (try clear hb); (try clear hb2); (try clear hk); (try clear hi)))
  go_ret2
  exact ⟨by first | rfl | (simp [errW_none, errW_some] <;> rfl) | (simp [*, errW_none, errW_some] <;> rfl), by repeat (first | (with_reducible first | exact HB.out | apply bA_ | apply bN_ | apply bD_ | refine bS_ ?_ GE278.out) | exact HB.out)⟩
end Go.Proofs.YtipenplplmdclaaDoor.Px
end
section
namespace Go.Proofs.YtipenplplmdclaaDoor.Px
open Go.RowKit Go.Proofs.YtipenplplmdclaaDoorW.PrintWords Go.Proofs.YtipenplplmdclaaDoorW.PrintLast Go.Proofs.YtipenplplmdclaaDoorW.PrintMore
attribute [local go_sem] max2_int min2_int max_two min_two max_three min_three max_four min_four
set_option linter.unusedVariables false
set_option linter.unusedSimpArgs false
def gongref01_New.f (a : ByteArray) : Option (ByteArray × Int × Int) := some (a, 0, 0)
def gongref23_Decode.j0 : Nat → ByteArray → ByteArray → Bool → Option (Int × Int × Int × ByteArray × ByteArray × ByteArray × Int × ByteArray × Int × Int × Int × Bool × ByteArray × Int)
  | 0, _, _, _ => none
  | k + 1, x0, x4, x25 => if x25 = true then (some (0, 0, 0, (⟨#[]⟩ : ByteArray), (⟨#[]⟩ : ByteArray), (⟨#[]⟩ : ByteArray), 0, (⟨#[]⟩ : ByteArray), 0, 0, 0, false, (⟨#[]⟩ : ByteArray), 230)) else (if 1 ≤ (x4.size : Int) then ((gongref01_New.f (x4.extract 1 x4.size)).bind fun bt470 => ((uR_Groups.f k bt470.1 bt470.2.1 bt470.2.2 1152921504606846976).bind fun bt474 => ((uR_Wide.f k bt474.2.1 bt474.2.2.1 bt474.2.2.2 1).bind fun bt479 => ((gongref23_ReadRow.f k bt479.2.1 bt479.2.2.1 bt479.2.2.2).bind fun bt483 => ((uR_Done.f bt483.2.2.2.2.2.2.2.2.2.2.2.1 bt483.2.2.2.2.2.2.2.2.2.2.2.2.1 bt483.2.2.2.2.2.2.2.2.2.2.2.2.2).bind fun bt497 => (if bt497.1 = 0 then ((gongref23_Encode.f k bt474.1 bt479.1 bt483.1 bt483.2.1 bt483.2.2.1 bt483.2.2.2.1 bt483.2.2.2.2.1 bt483.2.2.2.2.2.1 bt483.2.2.2.2.2.2.1 bt483.2.2.2.2.2.2.2.1 bt483.2.2.2.2.2.2.2.2.1 bt483.2.2.2.2.2.2.2.2.2.1 bt483.2.2.2.2.2.2.2.2.2.2.1).bind fun bt501 => (if bt501.2 = 0 then (if bt501.1.toList = x0.toList then (some (bt474.1, bt479.1, bt483.1, bt483.2.1, bt483.2.2.1, bt483.2.2.2.1, bt483.2.2.2.2.1, bt483.2.2.2.2.2.1, bt483.2.2.2.2.2.2.1, bt483.2.2.2.2.2.2.2.1, bt483.2.2.2.2.2.2.2.2.1, bt483.2.2.2.2.2.2.2.2.2.1, bt483.2.2.2.2.2.2.2.2.2.2.1, 0)) else (some (0, 0, 0, (⟨#[]⟩ : ByteArray), (⟨#[]⟩ : ByteArray), (⟨#[]⟩ : ByteArray), 0, (⟨#[]⟩ : ByteArray), 0, 0, 0, false, (⟨#[]⟩ : ByteArray), 230))) else (some (0, 0, 0, (⟨#[]⟩ : ByteArray), (⟨#[]⟩ : ByteArray), (⟨#[]⟩ : ByteArray), 0, (⟨#[]⟩ : ByteArray), 0, 0, 0, false, (⟨#[]⟩ : ByteArray), 230)))) else (some (0, 0, 0, (⟨#[]⟩ : ByteArray), (⟨#[]⟩ : ByteArray), (⟨#[]⟩ : ByteArray), 0, (⟨#[]⟩ : ByteArray), 0, 0, 0, false, (⟨#[]⟩ : ByteArray), 230)))))))) else (none))
def gongref23_Decode.f (k : Nat) (a0 : ByteArray) : Option (Int × Int × Int × ByteArray × ByteArray × ByteArray × Int × ByteArray × Int × Int × Int × Bool × ByteArray × Int) := (gongref02_Open.f k a0).bind fun bt468 => (if bt468.2 = true then (if bt468.1.toList = ([] : List UInt8) then (gongref23_Decode.j0 k a0 bt468.1 true) else (if 0 < (bt468.1.size : Int) then (gongref23_Decode.j0 k a0 bt468.1 ((bt bt468.1 0) != 71)) else (none))) else (gongref23_Decode.j0 k a0 bt468.1 true))
set_option maxHeartbeats 8000000 in
set_option maxRecDepth 100000 in
theorem gongref23_Decode.calls (k : Nat) (a0 : ByteArray) (r1 : Int) (r2 : Int) (r3 : Int) (r4 : ByteArray) (r5 : ByteArray) (r6 : ByteArray) (r7 : Int) (r8 : ByteArray) (r9 : Int) (r10 : Int) (r11 : Int) (r12 : Bool) (r13 : ByteArray) (r14 : Int) (w : World) (h : gongref23_Decode.f k a0 = some (r1, r2, r3, r4, r5, r6, r7, r8, r9, r10, r11, r12, r13, r14)) :
  Calls Tryd.prog 18 #[.string a0] w fun e w' => e = .returned (.tuple #[.agg #[.int .i64 r1, .int .i64 r2, .int .i64 r3, .string r4, .string r5, .string r6, .int .i64 r7, .string r8, .int .i64 r9, .int .i64 r10, .int .i64 r11, .bool r12, .string r13], .int .i64 r14]) ∧ Below w.heap.size w w' := by
 have hu27 := Tryd.underlying27
 have hu66 := Tryd.underlying66
 have hu25 := Tryd.underlying25
 have HB := Aside0.mk (Below.refl w.heap.size w)
 have H : ((gongref02_Open.f k a0).bind fun bt468 => (if bt468.2 = true then (if bt468.1.toList = ([] : List UInt8) then (gongref23_Decode.j0 k a0 bt468.1 true) else (if 0 < (bt468.1.size : Int) then (gongref23_Decode.j0 k a0 bt468.1 ((bt bt468.1 0) != 71)) else (none))) else (gongref23_Decode.j0 k a0 bt468.1 true))) = some (r1, r2, r3, r4, r5, r6, r7, r8, r9, r10, r11, r12, r13, r14) := h
 clear h
 replace H := Option.bind_eq_some_iff.mp H
 obtain ⟨⟨t468, t469⟩, A20, H⟩ := H
 try dsimp only at H
 have A2 := Aside0.mk A20
 clear A20
 have HC3 := Aside0.mk H
 clear H
 go_enter Tryd.func18, Tryd.ntmps18
 go_upto_region 2 with (first | ((with_reducible refine gD_ (N := 2) rfl ?_); refine gB_ ?hg (N := 2) ?hd (cs := #[.int .i64 0, .int .i64 0, .int .i64 0, .string (⟨#[]⟩ : ByteArray), .string (⟨#[]⟩ : ByteArray), .string (⟨#[]⟩ : ByteArray), .int .i64 0, .string (⟨#[]⟩ : ByteArray), .int .i64 0, .int .i64 0, .int .i64 0, .bool false, .string (⟨#[]⟩ : ByteArray)]) (t := 27) ?hr ?_; (case hd => rfl); (case hg => rfl); (case hr => first | (go_simp; done) | (go_simp; rfl)); intro gb467 hg w4 hbox hb; have n0_ := Aside0.mk (bT_ (by repeat (first | (with_reducible first | exact HB.out | apply bA_ | apply bN_ | apply bD_) | exact HB.out)) hb); have n1_ := Aside0.mk (hbox); have n2_ := Aside0.mk ((by rw [hg]; exact (bZ_ (by repeat (first | (with_reducible first | exact HB.out | apply bA_ | apply bN_ | apply bD_) | exact HB.out))) : w.heap.size ≤ gb467)); have n3_ := Aside0.mk ((by rw [hg]; exact (bZ_ (by repeat (first | (with_reducible first | exact HB.out | apply bA_ | apply bN_ | apply bD_) | exact HB.out))) : w.heap.size ≤ gb467)); clear HB; have HB := n0_; have BK467 := n1_; have GW467 := n2_; have GE467 := n3_; clear n0_ n1_ n2_ n3_; clear hb hbox hg) | ((with_reducible refine gC_ (f := 40) rfl ?_); refine goesL_ (some 12) rfl rfl Tryd.func40 (by kernel_rfl) rfl #[.string a0] rfl (by (try simp only [List.map_toArray, List.map_cons, List.map_nil]); first | done | rfl | (simp only [List.length_drop, List.length_take]; rfl)) ?_; (with_reducible refine (gongref02_Open.calls k a0 t468 t469 _ A2.out).mono ?_); rintro e w5 ⟨rfl, hb⟩; refine ⟨_, rfl, ?_⟩; have n0_ := Aside0.mk (kB_ (g := gb467) (o := .cells #[.int .i64 0, .int .i64 0, .int .i64 0, .string (⟨#[]⟩ : ByteArray), .string (⟨#[]⟩ : ByteArray), .string (⟨#[]⟩ : ByteArray), .int .i64 0, .string (⟨#[]⟩ : ByteArray), .int .i64 0, .int .i64 0, .int .i64 0, .bool false, .string (⟨#[]⟩ : ByteArray)] 27 (0, 0)) (by (with_reducible repeat (first | refine kN_ ?_ _ | refine kD_ ?_ | refine kA_ ?_ _)); exact BK467.out) hb); have n1_ := Aside0.mk (bT_ (by repeat (first | (with_reducible first | exact HB.out | apply bA_ | apply bN_ | apply bD_ | refine bS_ ?_ GE467.out) | exact HB.out)) hb); clear BK467; clear HB; have BK467 := n0_; have HB := n1_; clear n0_ n1_; (try clear hb); (try clear hb2); (try clear hk); (try clear hi)))
 (try simp only [Act.put, List.setIfInBounds_toArray, List.set_cons_zero, List.set_cons_succ])
 go_cut [25] (fun v25 wc => ∃ (kq : Nat) (x25_2 : Bool), v25 = .bool x25_2 ∧ Aside0 (gongref23_Decode.j0 kq a0 t468 x25_2 = some (r1, r2, r3, r4, r5, r6, r7, r8, r9, r10, r11, r12, r13, r14)) ∧ Aside0 (kq ≤ k) ∧ Aside0 (wc.heap[gb467]? = some (.cells #[.int .i64 0, .int .i64 0, .int .i64 0, .string (⟨#[]⟩ : ByteArray), .string (⟨#[]⟩ : ByteArray), .string (⟨#[]⟩ : ByteArray), .int .i64 0, .string (⟨#[]⟩ : ByteArray), .int .i64 0, .int .i64 0, .int .i64 0, .bool false, .string (⟨#[]⟩ : ByteArray)] 27 (0, 0))) ∧ Aside0 (Below w.heap.size w wc))
 case first =>
  have H := HC3.out
  clear HC3
  by_cases c6 : t469 = true
  ·subst c6
   have H1 : (if t468.toList = ([] : List UInt8) then (gongref23_Decode.j0 k a0 t468 true) else (if 0 < (t468.size : Int) then (gongref23_Decode.j0 k a0 t468 ((bt t468 0) != 71)) else (none))) = some (r1, r2, r3, r4, r5, r6, r7, r8, r9, r10, r11, r12, r13, r14) := by rw [if_pos rfl] at H; exact H
   clear H
   have H := H1
   clear H1
   by_cases c7 : t468.toList = ([] : List UInt8)
   ·rw [if_pos c7] at H
    have c7b0 : (t468.toList == ([] : List UInt8)) = true := beq_iff_eq.mpr c7
    have c7b1 : (t468.toList != ([] : List UInt8)) = false := bne_eq_false_iff_eq.mpr c7
    clear c7
    (first | rw [c7b0] | (simp only [i64_w, i32_w]; rw [c7b0]) | skip)
    have H' := Aside0.mk H
    clear H
    go_wp2
    go_meet
    case rel => exact ⟨_, (true), (by first | rfl | (simp; done) | (simp [*]; done)), H', ⟨by first | omega | exact Nat.le_refl _⟩, ⟨by (with_reducible repeat (first | refine kN_ ?_ _ | refine kD_ ?_ | refine kA_ ?_ _)); exact BK467.out⟩, ⟨by repeat (first | (with_reducible first | exact HB.out | apply bA_ | apply bN_ | apply bD_ | refine bS_ ?_ GE467.out) | exact HB.out)⟩⟩
   ·rw [if_neg c7] at H
    have c7b0 : (t468.toList == ([] : List UInt8)) = false := beq_eq_false_iff_ne.mpr c7
    have c7b1 : (t468.toList != ([] : List UInt8)) = true := bne_iff_ne.mpr c7
    (first | rw [c7b0] | (simp only [i64_w, i32_w]; rw [c7b0]) | skip)
    by_cases c8 : 0 < (t468.size : Int)
    ·rw [if_pos c8] at H
     have c8b0 : decide (0 < (t468.size : Int)) = true := decide_eq_true c8
     have c8b1 : decide (0 < t468.size) = true := decide_eq_true (by omega)
     clear c8
     have H' := Aside0.mk H
     clear H
     have p9 : 0 ≤ (0 : Int) := (by omega)
     have q9 : 0 < t468.size := (by have : (0 : Int) < (t468.size : Int) := of_decide_eq_true (by first | (with_reducible assumption) | assumption); omega)
     have hx9 : ∀ h : 0 < t468.size, ((t468[0]'h).toNat : Int) = bt t468 0 := bt_at t468 0
     clear p9
     have qi9 : (0 < (t468.size : Int)) = True := eq_true (of_decide_eq_true (by first | (with_reducible assumption) | assumption))
     replace q9 := eq_true q9
     go_wp2
     go_meet
     case rel => exact ⟨_, (((bt t468 0) != 71)), (by first | rfl | (simp; done) | (simp [*]; done)), H', ⟨by first | omega | exact Nat.le_refl _⟩, ⟨by (with_reducible repeat (first | refine kN_ ?_ _ | refine kD_ ?_ | refine kA_ ?_ _)); exact BK467.out⟩, ⟨by repeat (first | (with_reducible first | exact HB.out | apply bA_ | apply bN_ | apply bD_ | refine bS_ ?_ GE467.out) | exact HB.out)⟩⟩
    ·rw [if_neg c8] at H
     exact absurd H (by simp)
  ·replace c6 := Bool.eq_false_iff.mpr c6
   subst c6
   have H1 : (gongref23_Decode.j0 k a0 t468 true) = some (r1, r2, r3, r4, r5, r6, r7, r8, r9, r10, r11, r12, r13, r14) := by rw [if_neg (show ¬ (false = true) by decide)] at H; exact H
   clear H
   have H := H1
   clear H1
   have H' := Aside0.mk H
   clear H
   go_wp2
   go_meet
   case rel => exact ⟨_, (true), (by first | rfl | (simp; done) | (simp [*]; done)), H', ⟨by first | omega | exact Nat.le_refl _⟩, ⟨by (with_reducible repeat (first | refine kN_ ?_ _ | refine kD_ ?_ | refine kA_ ?_ _)); exact BK467.out⟩, ⟨by repeat (first | (with_reducible first | exact HB.out | apply bA_ | apply bN_ | apply bD_ | refine bS_ ?_ GE467.out) | exact HB.out)⟩⟩
 case rest =>
  clear HC3
  try clear c1
  try clear p2
  try clear c4
  try clear c6
  try clear c7
  try clear c7b0
  try clear c7b1
  try clear c8
  try clear c8b0
  try clear c8b1
  try clear p9
  try clear q9
  try clear hx9
  try clear qi9
  try clear p9
  try clear q9
  obtain ⟨kq, x25_2, rfl, HA, HJ2, BK467, HB⟩ := hcut
  cases kq with
  | zero => exact absurd HA.out (by simp [gongref23_Decode.j0])
  | succ kj2 =>
   have H := HA.out
   clear HA
   simp only [gongref23_Decode.j0] at H
   by_cases c10 : x25_2 = true
   ·subst c10
    have H1 : (some (0, 0, 0, (⟨#[]⟩ : ByteArray), (⟨#[]⟩ : ByteArray), (⟨#[]⟩ : ByteArray), 0, (⟨#[]⟩ : ByteArray), 0, 0, 0, false, (⟨#[]⟩ : ByteArray), 230)) = some (r1, r2, r3, r4, r5, r6, r7, r8, r9, r10, r11, r12, r13, r14) := by rw [if_pos rfl] at H; exact H
    clear H
    have H := H1
    clear H1
    simp only [Option.some.injEq, Prod.mk.injEq] at H
    obtain ⟨rfl, rfl, rfl, rfl, rfl, rfl, rfl, rfl, rfl, rfl, rfl, rfl, rfl, rfl⟩ := H
    obtain ⟨_,_,_,_,_,_,_,_,_,_,_,_,_⟩ := cell13 BK467.out
    obtain ⟨_,_,_,_,_,_,_,_,_,_,_,_,_⟩ := froz13 BK467.out
    go_wp2
    refine bodyPost_ret (results_ct rfl _ _ gb467 27 #[.int .i64 0, .int .i64 0, .int .i64 0, .string (⟨#[]⟩ : ByteArray), .string (⟨#[]⟩ : ByteArray), .string (⟨#[]⟩ : ByteArray), .int .i64 0, .string (⟨#[]⟩ : ByteArray), .int .i64 0, .int .i64 0, .int .i64 0, .bool false, .string (⟨#[]⟩ : ByteArray)] (0, 0) _ rfl (by (with_reducible repeat (first | refine kN_ ?_ _ | refine kD_ ?_ | refine kA_ ?_ _)); refine blk_p13_0_12 (show _ = some (Obj.cells #[.int .i64 0, .int .i64 0, .int .i64 0, .string (⟨#[]⟩ : ByteArray), .string (⟨#[]⟩ : ByteArray), .string (⟨#[]⟩ : ByteArray), .int .i64 0, .string (⟨#[]⟩ : ByteArray), .int .i64 0, .int .i64 0, .int .i64 0, .bool false, .string (⟨#[]⟩ : ByteArray)] _ (0, 0)) from ?_); (with_reducible repeat (first | refine kN_ ?_ _ | refine kD_ ?_ | refine kA_ ?_ _)); exact BK467.out) Tryd.underlying27 rfl (by kernel_rfl)) rfl ?_
    exact ⟨by first | rfl | (simp [errW_none, errW_some] <;> rfl) | (simp [*, errW_none, errW_some] <;> rfl), by repeat (first | (with_reducible first | exact HB.out | apply bA_ | apply bN_ | apply bD_ | refine bS_ ?_ GE467.out) | exact HB.out)⟩
   ·replace c10 := Bool.eq_false_iff.mpr c10
    subst c10
    have H1 : (if 1 ≤ (t468.size : Int) then ((gongref01_New.f (t468.extract 1 t468.size)).bind fun bt470 => ((uR_Groups.f kj2 bt470.1 bt470.2.1 bt470.2.2 1152921504606846976).bind fun bt474 => ((uR_Wide.f kj2 bt474.2.1 bt474.2.2.1 bt474.2.2.2 1).bind fun bt479 => ((gongref23_ReadRow.f kj2 bt479.2.1 bt479.2.2.1 bt479.2.2.2).bind fun bt483 => ((uR_Done.f bt483.2.2.2.2.2.2.2.2.2.2.2.1 bt483.2.2.2.2.2.2.2.2.2.2.2.2.1 bt483.2.2.2.2.2.2.2.2.2.2.2.2.2).bind fun bt497 => (if bt497.1 = 0 then ((gongref23_Encode.f kj2 bt474.1 bt479.1 bt483.1 bt483.2.1 bt483.2.2.1 bt483.2.2.2.1 bt483.2.2.2.2.1 bt483.2.2.2.2.2.1 bt483.2.2.2.2.2.2.1 bt483.2.2.2.2.2.2.2.1 bt483.2.2.2.2.2.2.2.2.1 bt483.2.2.2.2.2.2.2.2.2.1 bt483.2.2.2.2.2.2.2.2.2.2.1).bind fun bt501 => (if bt501.2 = 0 then (if bt501.1.toList = a0.toList then (some (bt474.1, bt479.1, bt483.1, bt483.2.1, bt483.2.2.1, bt483.2.2.2.1, bt483.2.2.2.2.1, bt483.2.2.2.2.2.1, bt483.2.2.2.2.2.2.1, bt483.2.2.2.2.2.2.2.1, bt483.2.2.2.2.2.2.2.2.1, bt483.2.2.2.2.2.2.2.2.2.1, bt483.2.2.2.2.2.2.2.2.2.2.1, 0)) else (some (0, 0, 0, (⟨#[]⟩ : ByteArray), (⟨#[]⟩ : ByteArray), (⟨#[]⟩ : ByteArray), 0, (⟨#[]⟩ : ByteArray), 0, 0, 0, false, (⟨#[]⟩ : ByteArray), 230))) else (some (0, 0, 0, (⟨#[]⟩ : ByteArray), (⟨#[]⟩ : ByteArray), (⟨#[]⟩ : ByteArray), 0, (⟨#[]⟩ : ByteArray), 0, 0, 0, false, (⟨#[]⟩ : ByteArray), 230)))) else (some (0, 0, 0, (⟨#[]⟩ : ByteArray), (⟨#[]⟩ : ByteArray), (⟨#[]⟩ : ByteArray), 0, (⟨#[]⟩ : ByteArray), 0, 0, 0, false, (⟨#[]⟩ : ByteArray), 230)))))))) else (none)) = some (r1, r2, r3, r4, r5, r6, r7, r8, r9, r10, r11, r12, r13, r14) := by rw [if_neg (show ¬ (false = true) by decide)] at H; exact H
    clear H
    have H := H1
    clear H1
    by_cases c12 : 1 ≤ (t468.size : Int)
    ·rw [if_pos c12] at H
     have c12b0 := eq_true c12
     have c12b1 : decide (1 ≤ (t468.size : Int)) = true := decide_eq_true c12
     clear c12
     replace H := Option.bind_eq_some_iff.mp H
     obtain ⟨⟨t470, t471, t472⟩, A130, H⟩ := H
     try dsimp only at H
     have A13 := Aside0.mk A130
     clear A130
     replace H := Option.bind_eq_some_iff.mp H
     obtain ⟨⟨t474, t475, t476, t477⟩, A140, H⟩ := H
     try dsimp only at H
     have A14 := Aside0.mk A140
     clear A140
     replace H := Option.bind_eq_some_iff.mp H
     obtain ⟨⟨t479, t480, t481, t482⟩, A150, H⟩ := H
     try dsimp only at H
     have A15 := Aside0.mk A150
     clear A150
     replace H := Option.bind_eq_some_iff.mp H
     obtain ⟨⟨t483, t484, t485, t486, t487, t488, t489, t490, t491, t492, t493, t494, t495, t496⟩, A160, H⟩ := H
     try dsimp only at H
     have A16 := Aside0.mk A160
     clear A160
     replace H := Option.bind_eq_some_iff.mp H
     obtain ⟨⟨t497, t498, t499, t500⟩, A170, H⟩ := H
     try dsimp only at H
     have A17 := Aside0.mk A170
     clear A170
     have HQ_ := Aside0.mk H
     clear H
     go_upto_region 8 with (first | ((with_reducible refine gD_ (N := 30) rfl ?_); refine gB_ ?hg (N := 30) ?hd (cs := #[.string (t468.extract 1 t468.size), .int .i64 0, .int .i64 0]) (t := 66) ?hr ?_; (case hd => rfl); (case hg => rfl); (case hr => first | (go_simp; done) | (go_simp; rfl)); intro g473 hg w22 hbox hb2; have hb := bT_ (by repeat (first | (with_reducible first | exact HB.out | apply bA_ | apply bN_ | apply bD_ | refine bS_ ?_ GE467.out) | exact HB.out)) hb2; have hi : J6 w w22 g473 t470 t471 t472 := (by have q_ := A13.out; simp only [gongref01_New.f, Option.some.injEq, Prod.mk.injEq] at q_; rw [← q_.1, ← q_.2.1, ← q_.2.2]; exact ⟨hbox, by rw [hg]; exact bZ_ (by repeat (first | (with_reducible first | exact HB.out | apply bA_ | apply bN_ | apply bD_ | refine bS_ ?_ GE467.out) | exact HB.out))⟩); clear hbox hg; have n0_ := Aside0.mk (kB_ (g := gb467) (o := .cells #[.int .i64 0, .int .i64 0, .int .i64 0, .string (⟨#[]⟩ : ByteArray), .string (⟨#[]⟩ : ByteArray), .string (⟨#[]⟩ : ByteArray), .int .i64 0, .string (⟨#[]⟩ : ByteArray), .int .i64 0, .int .i64 0, .int .i64 0, .bool false, .string (⟨#[]⟩ : ByteArray)] 27 (0, 0)) (by (with_reducible repeat (first | refine kN_ ?_ _ | refine kD_ ?_ | refine kA_ ?_ _)); exact BK467.out) hb2); have n1_ := Aside0.mk (hb); have n2_ := Aside0.mk (hi); have n3_ := Aside0.mk (J6.ne_blk hi (kB_ (g := gb467) (o := .cells #[.int .i64 0, .int .i64 0, .int .i64 0, .string (⟨#[]⟩ : ByteArray), .string (⟨#[]⟩ : ByteArray), .string (⟨#[]⟩ : ByteArray), .int .i64 0, .string (⟨#[]⟩ : ByteArray), .int .i64 0, .int .i64 0, .int .i64 0, .bool false, .string (⟨#[]⟩ : ByteArray)] 27 (0, 0)) (by (with_reducible repeat (first | refine kN_ ?_ _ | refine kD_ ?_ | refine kA_ ?_ _)); exact BK467.out) hb2) (by decide)); have n4_ := Aside0.mk (Ne.symm (J6.ne_blk hi (kB_ (g := gb467) (o := .cells #[.int .i64 0, .int .i64 0, .int .i64 0, .string (⟨#[]⟩ : ByteArray), .string (⟨#[]⟩ : ByteArray), .string (⟨#[]⟩ : ByteArray), .int .i64 0, .string (⟨#[]⟩ : ByteArray), .int .i64 0, .int .i64 0, .int .i64 0, .bool false, .string (⟨#[]⟩ : ByteArray)] 27 (0, 0)) (by (with_reducible repeat (first | refine kN_ ?_ _ | refine kD_ ?_ | refine kA_ ?_ _)); exact BK467.out) hb2) (by decide))); clear BK467; clear HB; have BK467 := n0_; have HB := n1_; have HI473 := n2_; have NB473_467 := n3_; have NB467_473 := n4_; clear n0_ n1_ n2_ n3_ n4_; (try clear hb); (try clear hb2); (try clear hk); (try clear hi)) | ((with_reducible refine gC_ (f := 41) rfl ?_); refine goesL_ (some 32) rfl rfl Tryd.func41 (by kernel_rfl) rfl #[.pointer (some ⟨g473, 0, none⟩), .int .i64 1152921504606846976] rfl (by (try simp only [List.map_toArray, List.map_cons, List.map_nil]); first | done | rfl | (simp only [List.length_drop, List.length_take]; rfl)) ?_; (with_reducible refine (uR_Groups.calls kj2 g473 t470 t471 t472 1152921504606846976 t474 t475 t476 t477 w _ ?side1 ?side2 A14.out).mono ?_); (case side1 => repeat (first | (with_reducible first | exact HI473.out | apply J6.alloc | apply J6.drewN | apply J6.drew | apply J6.set_0 | apply J6.set_1 | apply J6.set_2 | refine J6.far ?_ NB473_467.out _) | exact HI473.out)); (case side2 => repeat (first | (with_reducible first | exact HB.out | apply bA_ | apply bN_ | apply bD_ | refine bS_ ?_ (J6.ge HI473.out) | refine bS_ ?_ GE467.out) | exact HB.out)); rintro e w23 ⟨rfl, hi, hb, hk⟩; refine ⟨_, rfl, ?_⟩; have n0_ := Aside0.mk (KeepBut.blk hk (g' := gb467) (o := .cells #[.int .i64 0, .int .i64 0, .int .i64 0, .string (⟨#[]⟩ : ByteArray), .string (⟨#[]⟩ : ByteArray), .string (⟨#[]⟩ : ByteArray), .int .i64 0, .string (⟨#[]⟩ : ByteArray), .int .i64 0, .int .i64 0, .int .i64 0, .bool false, .string (⟨#[]⟩ : ByteArray)] 27 (0, 0)) (by (with_reducible repeat (first | refine kN_ ?_ _ | refine kD_ ?_ | refine kA_ ?_ _)); exact BK467.out) NB467_473.out (by simp)); have n1_ := Aside0.mk (hb); have n2_ := Aside0.mk (hi); clear BK467; clear HB; clear HI473; have BK467 := n0_; have HB := n1_; have HI473 := n2_; clear n0_ n1_ n2_; (try clear hb); (try clear hb2); (try clear hk); (try clear hi)) | ((with_reducible refine gD_ (N := 7) rfl ?_); refine gB_ ?hg (N := 7) ?hd (cs := #[.int .i64 0, .int .i64 0, .int .i64 0, .string (⟨#[]⟩ : ByteArray), .string (⟨#[]⟩ : ByteArray), .string (⟨#[]⟩ : ByteArray), .int .i64 0, .string (⟨#[]⟩ : ByteArray), .int .i64 0, .int .i64 0, .int .i64 0, .bool false, .string (⟨#[]⟩ : ByteArray)]) (t := 27) ?hr ?_; (case hd => rfl); (case hg => rfl); (case hr => first | (go_simp; done) | (go_simp; rfl)); intro gb478 hg w24 hbox hb; have n0_ := Aside0.mk (kB_ (g := gb467) (o := .cells #[.int .i64 0, .int .i64 0, .int .i64 0, .string (⟨#[]⟩ : ByteArray), .string (⟨#[]⟩ : ByteArray), .string (⟨#[]⟩ : ByteArray), .int .i64 0, .string (⟨#[]⟩ : ByteArray), .int .i64 0, .int .i64 0, .int .i64 0, .bool false, .string (⟨#[]⟩ : ByteArray)] 27 (0, 0)) (by (with_reducible repeat (first | refine kN_ ?_ _ | refine kD_ ?_ | refine kA_ ?_ _)); exact BK467.out) hb); have n1_ := Aside0.mk (J6.below (by repeat (first | (with_reducible first | exact HI473.out | apply J6.alloc | apply J6.drewN | apply J6.drew | apply J6.set_0 | apply J6.set_1 | apply J6.set_2 | refine J6.far ?_ NB473_467.out _) | exact HI473.out)) hb); have n2_ := Aside0.mk (bT_ (by repeat (first | (with_reducible first | exact HB.out | apply bA_ | apply bN_ | apply bD_ | refine bS_ ?_ (J6.ge HI473.out) | refine bS_ ?_ GE467.out) | exact HB.out)) hb); have n3_ := Aside0.mk (hbox); have n4_ := Aside0.mk ((by rw [hg]; exact (bZ_ (by repeat (first | (with_reducible first | exact HB.out | apply bA_ | apply bN_ | apply bD_ | refine bS_ ?_ (J6.ge HI473.out) | refine bS_ ?_ GE467.out) | exact HB.out))) : w.heap.size ≤ gb478)); have n5_ := Aside0.mk ((by rw [hg]; exact (bZ_ (by repeat (first | (with_reducible first | exact HB.out | apply bA_ | apply bN_ | apply bD_ | refine bS_ ?_ (J6.ge HI473.out) | refine bS_ ?_ GE467.out) | exact HB.out))) : w.heap.size ≤ gb478)); have n6_ := Aside0.mk ((by rw [hg]; exact Nat.ne_of_lt (blk_lt (g := gb467) (o := .cells #[.int .i64 0, .int .i64 0, .int .i64 0, .string (⟨#[]⟩ : ByteArray), .string (⟨#[]⟩ : ByteArray), .string (⟨#[]⟩ : ByteArray), .int .i64 0, .string (⟨#[]⟩ : ByteArray), .int .i64 0, .int .i64 0, .int .i64 0, .bool false, .string (⟨#[]⟩ : ByteArray)] 27 (0, 0)) (by (with_reducible repeat (first | refine kN_ ?_ _ | refine kD_ ?_ | refine kA_ ?_ _)); exact BK467.out)) : gb467 ≠ gb478)); have n7_ := Aside0.mk ((by rw [hg]; exact Nat.ne_of_gt (blk_lt (g := gb467) (o := .cells #[.int .i64 0, .int .i64 0, .int .i64 0, .string (⟨#[]⟩ : ByteArray), .string (⟨#[]⟩ : ByteArray), .string (⟨#[]⟩ : ByteArray), .int .i64 0, .string (⟨#[]⟩ : ByteArray), .int .i64 0, .int .i64 0, .int .i64 0, .bool false, .string (⟨#[]⟩ : ByteArray)] 27 (0, 0)) (by (with_reducible repeat (first | refine kN_ ?_ _ | refine kD_ ?_ | refine kA_ ?_ _)); exact BK467.out)) : gb478 ≠ gb467)); have n8_ := Aside0.mk ((by rw [hg]; exact Nat.ne_of_lt (J6.lt (show J6 w _ g473 t475 t476 t477 from by repeat (first | (with_reducible first | exact HI473.out | apply J6.alloc | apply J6.drewN | apply J6.drew | apply J6.set_0 | apply J6.set_1 | apply J6.set_2 | refine J6.far ?_ NB473_467.out _) | exact HI473.out))) : g473 ≠ gb478)); have n9_ := Aside0.mk ((by rw [hg]; exact Nat.ne_of_gt (J6.lt (show J6 w _ g473 t475 t476 t477 from by repeat (first | (with_reducible first | exact HI473.out | apply J6.alloc | apply J6.drewN | apply J6.drew | apply J6.set_0 | apply J6.set_1 | apply J6.set_2 | refine J6.far ?_ NB473_467.out _) | exact HI473.out))) : gb478 ≠ g473)); clear BK467; clear HI473; clear HB; have BK467 := n0_; have HI473 := n1_; have HB := n2_; have BK478 := n3_; have GW478 := n4_; have GE478 := n5_; have NB467_478 := n6_; have NB478_467 := n7_; have NB473_478 := n8_; have NB478_473 := n9_; clear n0_ n1_ n2_ n3_ n4_ n5_ n6_ n7_ n8_ n9_; clear hb hbox hg; have hnb25 := NB478_467.out; have hnc25 := NB467_478.out; have hnb26 := NB478_473.out; have hnc26 := NB473_478.out; obtain ⟨_,_,_,_,_,_,_,_,_,_,_,_,_⟩ := cell13 BK478.out; obtain ⟨_,_,_,_,_,_,_,_,_,_,_,_,_⟩ := froz13 BK478.out) | ((with_reducible refine gC_ (f := 42) rfl ?_); refine goesL_ (some 35) rfl rfl Tryd.func42 (by kernel_rfl) rfl #[.pointer (some ⟨g473, 0, none⟩), .int .i64 1] rfl (by (try simp only [List.map_toArray, List.map_cons, List.map_nil]); first | done | rfl | (simp only [List.length_drop, List.length_take]; rfl)) ?_; (with_reducible refine (uR_Wide.calls kj2 g473 t475 t476 t477 1 t479 t480 t481 t482 w _ ?side1 ?side2 A15.out).mono ?_); (case side1 => repeat (first | (with_reducible first | exact HI473.out | apply J6.alloc | apply J6.drewN | apply J6.drew | apply J6.set_0 | apply J6.set_1 | apply J6.set_2 | refine J6.far ?_ NB473_467.out _ | refine J6.far ?_ NB473_478.out _) | exact HI473.out)); (case side2 => repeat (first | (with_reducible first | exact HB.out | apply bA_ | apply bN_ | apply bD_ | refine bS_ ?_ (J6.ge HI473.out) | refine bS_ ?_ GE467.out | refine bS_ ?_ GE478.out) | exact HB.out)); rintro e w28 ⟨rfl, hi, hb, hk⟩; refine ⟨_, rfl, ?_⟩; have n0_ := Aside0.mk (KeepBut.blk hk (g' := gb467) (o := .cells #[.int .i64 0, .int .i64 0, .int .i64 0, .string (⟨#[]⟩ : ByteArray), .string (⟨#[]⟩ : ByteArray), .string (⟨#[]⟩ : ByteArray), .int .i64 0, .string (⟨#[]⟩ : ByteArray), .int .i64 0, .int .i64 0, .int .i64 0, .bool false, .string (⟨#[]⟩ : ByteArray)] 27 (0, 0)) (by (with_reducible repeat (first | refine kN_ ?_ _ | refine kD_ ?_ | refine kA_ ?_ _)); refine kF_ ?_ NB467_478.out _; (with_reducible repeat (first | refine kN_ ?_ _ | refine kD_ ?_ | refine kA_ ?_ _)); refine kF_ ?_ NB467_478.out _; (with_reducible repeat (first | refine kN_ ?_ _ | refine kD_ ?_ | refine kA_ ?_ _)); refine kF_ ?_ NB467_478.out _; (with_reducible repeat (first | refine kN_ ?_ _ | refine kD_ ?_ | refine kA_ ?_ _)); refine kF_ ?_ NB467_478.out _; (with_reducible repeat (first | refine kN_ ?_ _ | refine kD_ ?_ | refine kA_ ?_ _)); refine kF_ ?_ NB467_478.out _; (with_reducible repeat (first | refine kN_ ?_ _ | refine kD_ ?_ | refine kA_ ?_ _)); refine kF_ ?_ NB467_478.out _; (with_reducible repeat (first | refine kN_ ?_ _ | refine kD_ ?_ | refine kA_ ?_ _)); refine kF_ ?_ NB467_478.out _; (with_reducible repeat (first | refine kN_ ?_ _ | refine kD_ ?_ | refine kA_ ?_ _)); refine kF_ ?_ NB467_478.out _; (with_reducible repeat (first | refine kN_ ?_ _ | refine kD_ ?_ | refine kA_ ?_ _)); refine kF_ ?_ NB467_478.out _; (with_reducible repeat (first | refine kN_ ?_ _ | refine kD_ ?_ | refine kA_ ?_ _)); refine kF_ ?_ NB467_478.out _; (with_reducible repeat (first | refine kN_ ?_ _ | refine kD_ ?_ | refine kA_ ?_ _)); refine kF_ ?_ NB467_478.out _; (with_reducible repeat (first | refine kN_ ?_ _ | refine kD_ ?_ | refine kA_ ?_ _)); refine kF_ ?_ NB467_478.out _; (with_reducible repeat (first | refine kN_ ?_ _ | refine kD_ ?_ | refine kA_ ?_ _)); refine kF_ ?_ NB467_478.out _; (with_reducible repeat (first | refine kN_ ?_ _ | refine kD_ ?_ | refine kA_ ?_ _)); exact BK467.out) NB467_473.out (by simp)); have n1_ := Aside0.mk (KeepBut.blk hk (g' := gb478) (o := .cells #[.int .i64 t474, .int .i64 0, .int .i64 0, .string (⟨#[]⟩ : ByteArray), .string (⟨#[]⟩ : ByteArray), .string (⟨#[]⟩ : ByteArray), .int .i64 0, .string (⟨#[]⟩ : ByteArray), .int .i64 0, .int .i64 0, .int .i64 0, .bool false, .string (⟨#[]⟩ : ByteArray)] 27 (0, 0)) (by (with_reducible repeat (first | refine kN_ ?_ _ | refine kD_ ?_ | refine kA_ ?_ _)); refine blk_p13_0_12 (show _ = some (Obj.cells #[.int .i64 0, .int .i64 0, .int .i64 0, .string (⟨#[]⟩ : ByteArray), .string (⟨#[]⟩ : ByteArray), .string (⟨#[]⟩ : ByteArray), .int .i64 0, .string (⟨#[]⟩ : ByteArray), .int .i64 0, .int .i64 0, .int .i64 0, .bool false, .string (⟨#[]⟩ : ByteArray)] _ (0, 0)) from ?_); (with_reducible repeat (first | refine kN_ ?_ _ | refine kD_ ?_ | refine kA_ ?_ _)); exact BK478.out) NB478_473.out (by simp)); have n2_ := Aside0.mk (hb); have n3_ := Aside0.mk (hi); clear BK467; clear BK478; clear HB; clear HI473; have BK467 := n0_; have BK478 := n1_; have HB := n2_; have HI473 := n3_; clear n0_ n1_ n2_ n3_; (try clear hb); (try clear hb2); (try clear hk); (try clear hi); obtain ⟨_,_,_,_,_,_,_,_,_,_,_,_,_⟩ := cell13 BK478.out; obtain ⟨_,_,_,_,_,_,_,_,_,_,_,_,_⟩ := froz13 BK478.out) | ((with_reducible refine gC_ (f := 43) rfl ?_); refine goesL_ (some 38) rfl rfl Tryd.func43 (by kernel_rfl) rfl #[.pointer (some ⟨g473, 0, none⟩)] rfl (by (try simp only [List.map_toArray, List.map_cons, List.map_nil]); first | done | rfl | (simp only [List.length_drop, List.length_take]; rfl)) ?_; (with_reducible refine (gongref23_ReadRow.calls kj2 g473 t480 t481 t482 t483 t484 t485 t486 t487 t488 t489 t490 t491 t492 t493 t494 t495 t496 w _ ?side1 ?side2 A16.out).mono ?_); (case side1 => repeat (first | (with_reducible first | exact HI473.out | apply J6.alloc | apply J6.drewN | apply J6.drew | apply J6.set_0 | apply J6.set_1 | apply J6.set_2 | refine J6.far ?_ NB473_467.out _ | refine J6.far ?_ NB473_478.out _) | exact HI473.out)); (case side2 => repeat (first | (with_reducible first | exact HB.out | apply bA_ | apply bN_ | apply bD_ | refine bS_ ?_ (J6.ge HI473.out) | refine bS_ ?_ GE467.out | refine bS_ ?_ GE478.out) | exact HB.out)); rintro e w30 ⟨rfl, hi, hb, hk⟩; refine ⟨_, rfl, ?_⟩; have n0_ := Aside0.mk (KeepBut.blk hk (g' := gb467) (o := .cells #[.int .i64 0, .int .i64 0, .int .i64 0, .string (⟨#[]⟩ : ByteArray), .string (⟨#[]⟩ : ByteArray), .string (⟨#[]⟩ : ByteArray), .int .i64 0, .string (⟨#[]⟩ : ByteArray), .int .i64 0, .int .i64 0, .int .i64 0, .bool false, .string (⟨#[]⟩ : ByteArray)] 27 (0, 0)) (by (with_reducible repeat (first | refine kN_ ?_ _ | refine kD_ ?_ | refine kA_ ?_ _)); refine kF_ ?_ NB467_478.out _; (with_reducible repeat (first | refine kN_ ?_ _ | refine kD_ ?_ | refine kA_ ?_ _)); exact BK467.out) NB467_473.out (by simp)); have n1_ := Aside0.mk (KeepBut.blk hk (g' := gb478) (o := .cells #[.int .i64 t474, .int .i64 t479, .int .i64 0, .string (⟨#[]⟩ : ByteArray), .string (⟨#[]⟩ : ByteArray), .string (⟨#[]⟩ : ByteArray), .int .i64 0, .string (⟨#[]⟩ : ByteArray), .int .i64 0, .int .i64 0, .int .i64 0, .bool false, .string (⟨#[]⟩ : ByteArray)] 27 (0, 0)) (by (with_reducible repeat (first | refine kN_ ?_ _ | refine kD_ ?_ | refine kA_ ?_ _)); refine kP_ (cs := #[.int .i64 t474, .int .i64 0, .int .i64 0, .string (⟨#[]⟩ : ByteArray), .string (⟨#[]⟩ : ByteArray), .string (⟨#[]⟩ : ByteArray), .int .i64 0, .string (⟨#[]⟩ : ByteArray), .int .i64 0, .int .i64 0, .int .i64 0, .bool false, .string (⟨#[]⟩ : ByteArray)]) ?_ 1 _ rfl; (with_reducible repeat (first | refine kN_ ?_ _ | refine kD_ ?_ | refine kA_ ?_ _)); exact BK478.out) NB478_473.out (by simp)); have n2_ := Aside0.mk (hb); have n3_ := Aside0.mk (hi); clear BK467; clear BK478; clear HB; clear HI473; have BK467 := n0_; have BK478 := n1_; have HB := n2_; have HI473 := n3_; clear n0_ n1_ n2_ n3_; (try clear hb); (try clear hb2); (try clear hk); (try clear hi); obtain ⟨_,_,_,_,_,_,_,_,_,_,_,_,_⟩ := cell13 BK478.out; obtain ⟨_,_,_,_,_,_,_,_,_,_,_,_,_⟩ := froz13 BK478.out))
     have H := HQ_.out
     clear HQ_
     by_cases c18 : t497 = 0
     ·rw [if_pos c18] at H
      have c18b0 : (t497 == 0) = true := beq_iff_eq.mpr c18
      have c18b1 : (t497 != 0) = false := bne_eq_false_iff_eq.mpr c18
      clear c18
      replace H := Option.bind_eq_some_iff.mp H
      obtain ⟨⟨t501, t502⟩, A190, H⟩ := H
      try dsimp only at H
      have A19 := Aside0.mk A190
      clear A190
      by_cases c20 : t502 = 0
      ·rw [if_pos c20] at H
       have c20b0 : (t502 == 0) = true := beq_iff_eq.mpr c20
       have c20b1 : (t502 != 0) = false := bne_eq_false_iff_eq.mpr c20
       clear c20
       by_cases c21 : t501.toList = a0.toList
       ·rw [if_pos c21] at H
        have c21b0 : (t501.toList == a0.toList) = true := beq_iff_eq.mpr c21
        have c21b1 : (t501.toList != a0.toList) = false := bne_eq_false_iff_eq.mpr c21
        clear c21
        simp only [Option.some.injEq, Prod.mk.injEq] at H
        obtain ⟨rfl, rfl, rfl, rfl, rfl, rfl, rfl, rfl, rfl, rfl, rfl, rfl, rfl, rfl⟩ := H
        go_wp2_with (first | ((with_reducible refine gC_ (f := 44) rfl ?_); refine goesL_ (some 41) rfl rfl Tryd.func44 (by kernel_rfl) rfl #[.pointer (some ⟨g473, 0, none⟩)] rfl (by (try simp only [List.map_toArray, List.map_cons, List.map_nil]); first | done | rfl | (simp only [List.length_drop, List.length_take]; rfl)) ?_; (with_reducible refine (uR_Done.calls g473 t494 t495 t496 t497 t498 t499 t500 w _ ?side1 ?side2 A17.out).mono ?_); (case side1 => repeat (first | (with_reducible first | exact HI473.out | apply J6.alloc | apply J6.drewN | apply J6.drew | apply J6.set_0 | apply J6.set_1 | apply J6.set_2 | refine J6.far ?_ NB473_467.out _ | refine J6.far ?_ NB473_478.out _) | exact HI473.out)); (case side2 => repeat (first | (with_reducible first | exact HB.out | apply bA_ | apply bN_ | apply bD_ | refine bS_ ?_ (J6.ge HI473.out) | refine bS_ ?_ GE467.out | refine bS_ ?_ GE478.out) | exact HB.out)); rintro e w32 ⟨rfl, hi, hb, hk⟩; refine ⟨_, rfl, ?_⟩; have n0_ := Aside0.mk (KeepBut.blk hk (g' := gb467) (o := .cells #[.int .i64 0, .int .i64 0, .int .i64 0, .string (⟨#[]⟩ : ByteArray), .string (⟨#[]⟩ : ByteArray), .string (⟨#[]⟩ : ByteArray), .int .i64 0, .string (⟨#[]⟩ : ByteArray), .int .i64 0, .int .i64 0, .int .i64 0, .bool false, .string (⟨#[]⟩ : ByteArray)] 27 (0, 0)) (by (with_reducible repeat (first | refine kN_ ?_ _ | refine kD_ ?_ | refine kA_ ?_ _)); refine kF_ ?_ NB467_478.out _; (with_reducible repeat (first | refine kN_ ?_ _ | refine kD_ ?_ | refine kA_ ?_ _)); refine kF_ ?_ NB467_478.out _; (with_reducible repeat (first | refine kN_ ?_ _ | refine kD_ ?_ | refine kA_ ?_ _)); refine kF_ ?_ NB467_478.out _; (with_reducible repeat (first | refine kN_ ?_ _ | refine kD_ ?_ | refine kA_ ?_ _)); refine kF_ ?_ NB467_478.out _; (with_reducible repeat (first | refine kN_ ?_ _ | refine kD_ ?_ | refine kA_ ?_ _)); refine kF_ ?_ NB467_478.out _; (with_reducible repeat (first | refine kN_ ?_ _ | refine kD_ ?_ | refine kA_ ?_ _)); refine kF_ ?_ NB467_478.out _; (with_reducible repeat (first | refine kN_ ?_ _ | refine kD_ ?_ | refine kA_ ?_ _)); refine kF_ ?_ NB467_478.out _; (with_reducible repeat (first | refine kN_ ?_ _ | refine kD_ ?_ | refine kA_ ?_ _)); refine kF_ ?_ NB467_478.out _; (with_reducible repeat (first | refine kN_ ?_ _ | refine kD_ ?_ | refine kA_ ?_ _)); refine kF_ ?_ NB467_478.out _; (with_reducible repeat (first | refine kN_ ?_ _ | refine kD_ ?_ | refine kA_ ?_ _)); refine kF_ ?_ NB467_478.out _; (with_reducible repeat (first | refine kN_ ?_ _ | refine kD_ ?_ | refine kA_ ?_ _)); refine kF_ ?_ NB467_478.out _; (with_reducible repeat (first | refine kN_ ?_ _ | refine kD_ ?_ | refine kA_ ?_ _)); exact BK467.out) NB467_473.out (by simp)); have n1_ := Aside0.mk (KeepBut.blk hk (g' := gb478) (o := .cells #[.int .i64 t474, .int .i64 t479, .int .i64 t483, .string t484, .string t485, .string t486, .int .i64 t487, .string t488, .int .i64 t489, .int .i64 t490, .int .i64 t491, .bool t492, .string t493] 27 (0, 0)) (by (with_reducible repeat (first | refine kN_ ?_ _ | refine kD_ ?_ | refine kA_ ?_ _)); refine blk_p13_2_12 (show _ = some (Obj.cells #[.int .i64 t474, .int .i64 t479, .int .i64 0, .string (⟨#[]⟩ : ByteArray), .string (⟨#[]⟩ : ByteArray), .string (⟨#[]⟩ : ByteArray), .int .i64 0, .string (⟨#[]⟩ : ByteArray), .int .i64 0, .int .i64 0, .int .i64 0, .bool false, .string (⟨#[]⟩ : ByteArray)] _ (0, 0)) from ?_); (with_reducible repeat (first | refine kN_ ?_ _ | refine kD_ ?_ | refine kA_ ?_ _)); exact BK478.out) NB478_473.out (by simp)); have n2_ := Aside0.mk (hb); have n3_ := Aside0.mk (hi); clear BK467; clear BK478; clear HB; clear HI473; have BK467 := n0_; have BK478 := n1_; have HB := n2_; have HI473 := n3_; clear n0_ n1_ n2_ n3_; (try clear hb); (try clear hb2); (try clear hk); (try clear hi); obtain ⟨_,_,_,_,_,_,_,_,_,_,_,_,_⟩ := cell13 BK478.out; obtain ⟨_,_,_,_,_,_,_,_,_,_,_,_,_⟩ := froz13 BK478.out) | ((with_reducible refine gC_ (f := 12) rfl ?_); refine goesL_ (some 46) rfl rfl Tryd.func12 (by kernel_rfl) rfl #[.agg #[.int .i64 t474, .int .i64 t479, .int .i64 t483, .string t484, .string t485, .string t486, .int .i64 t487, .string t488, .int .i64 t489, .int .i64 t490, .int .i64 t491, .bool t492, .string t493]] rfl (by (try simp only [List.map_toArray, List.map_cons, List.map_nil]); first | done | rfl | (simp only [List.length_drop, List.length_take]; rfl)) ?_; (with_reducible refine (gongref23_Encode.calls kj2 t474 t479 t483 t484 t485 t486 t487 t488 t489 t490 t491 t492 t493 t501 t502 _ A19.out).mono ?_); rintro e w34 ⟨rfl, hb⟩; refine ⟨_, rfl, ?_⟩; have n0_ := Aside0.mk (kB_ (g := gb467) (o := .cells #[.int .i64 0, .int .i64 0, .int .i64 0, .string (⟨#[]⟩ : ByteArray), .string (⟨#[]⟩ : ByteArray), .string (⟨#[]⟩ : ByteArray), .int .i64 0, .string (⟨#[]⟩ : ByteArray), .int .i64 0, .int .i64 0, .int .i64 0, .bool false, .string (⟨#[]⟩ : ByteArray)] 27 (0, 0)) (by (with_reducible repeat (first | refine kN_ ?_ _ | refine kD_ ?_ | refine kA_ ?_ _)); exact BK467.out) hb); have n1_ := Aside0.mk (J6.below (by repeat (first | (with_reducible first | exact HI473.out | apply J6.alloc | apply J6.drewN | apply J6.drew | apply J6.set_0 | apply J6.set_1 | apply J6.set_2 | refine J6.far ?_ NB473_467.out _ | refine J6.far ?_ NB473_478.out _) | exact HI473.out)) hb); have n2_ := Aside0.mk (kB_ (g := gb478) (o := .cells #[.int .i64 t474, .int .i64 t479, .int .i64 t483, .string t484, .string t485, .string t486, .int .i64 t487, .string t488, .int .i64 t489, .int .i64 t490, .int .i64 t491, .bool t492, .string t493] 27 (0, 0)) (by (with_reducible repeat (first | refine kN_ ?_ _ | refine kD_ ?_ | refine kA_ ?_ _)); exact BK478.out) hb); have n3_ := Aside0.mk (bT_ (by repeat (first | (with_reducible first | exact HB.out | apply bA_ | apply bN_ | apply bD_ | refine bS_ ?_ (J6.ge HI473.out) | refine bS_ ?_ GE467.out | refine bS_ ?_ GE478.out) | exact HB.out)) hb); clear BK467; clear HI473; clear BK478; clear HB; have BK467 := n0_; have HI473 := n1_; have BK478 := n2_; have HB := n3_; clear n0_ n1_ n2_ n3_; (try clear hb); (try clear hb2); (try clear hk); (try clear hi); obtain ⟨_,_,_,_,_,_,_,_,_,_,_,_,_⟩ := cell13 BK478.out; obtain ⟨_,_,_,_,_,_,_,_,_,_,_,_,_⟩ := froz13 BK478.out; have hnb36 := NB467_473.out; have hnc36 := NB473_467.out; obtain ⟨_,_,_,_,_,_,_,_,_,_,_,_,_⟩ := cell13 BK467.out; obtain ⟨_,_,_,_,_,_,_,_,_,_,_,_,_⟩ := froz13 BK467.out))
        refine bodyPost_ret (results_ct rfl _ _ gb467 27 #[.int .i64 t474, .int .i64 t479, .int .i64 t483, .string t484, .string t485, .string t486, .int .i64 t487, .string t488, .int .i64 t489, .int .i64 t490, .int .i64 t491, .bool t492, .string t493] (0, 0) _ rfl (by (with_reducible repeat (first | refine kN_ ?_ _ | refine kD_ ?_ | refine kA_ ?_ _)); refine blk_p13_0_12 (show _ = some (Obj.cells #[.int .i64 0, .int .i64 0, .int .i64 0, .string (⟨#[]⟩ : ByteArray), .string (⟨#[]⟩ : ByteArray), .string (⟨#[]⟩ : ByteArray), .int .i64 0, .string (⟨#[]⟩ : ByteArray), .int .i64 0, .int .i64 0, .int .i64 0, .bool false, .string (⟨#[]⟩ : ByteArray)] _ (0, 0)) from ?_); (with_reducible repeat (first | refine kN_ ?_ _ | refine kD_ ?_ | refine kA_ ?_ _)); exact BK467.out) Tryd.underlying27 rfl (by kernel_rfl)) rfl ?_
        exact ⟨by first | rfl | (simp [errW_none, errW_some] <;> rfl) | (simp [*, errW_none, errW_some] <;> rfl), by repeat (first | (with_reducible first | exact HB.out | apply bA_ | apply bN_ | apply bD_ | refine bS_ ?_ (J6.ge HI473.out) | refine bS_ ?_ GE467.out | refine bS_ ?_ GE478.out) | exact HB.out)⟩
       ·rw [if_neg c21] at H
        have c21b0 : (t501.toList == a0.toList) = false := beq_eq_false_iff_ne.mpr c21
        have c21b1 : (t501.toList != a0.toList) = true := bne_iff_ne.mpr c21
        simp only [Option.some.injEq, Prod.mk.injEq] at H
        obtain ⟨rfl, rfl, rfl, rfl, rfl, rfl, rfl, rfl, rfl, rfl, rfl, rfl, rfl, rfl⟩ := H
        go_wp2_with (first | ((with_reducible refine gC_ (f := 44) rfl ?_); refine goesL_ (some 41) rfl rfl Tryd.func44 (by kernel_rfl) rfl #[.pointer (some ⟨g473, 0, none⟩)] rfl (by (try simp only [List.map_toArray, List.map_cons, List.map_nil]); first | done | rfl | (simp only [List.length_drop, List.length_take]; rfl)) ?_; (with_reducible refine (uR_Done.calls g473 t494 t495 t496 t497 t498 t499 t500 w _ ?side1 ?side2 A17.out).mono ?_); (case side1 => repeat (first | (with_reducible first | exact HI473.out | apply J6.alloc | apply J6.drewN | apply J6.drew | apply J6.set_0 | apply J6.set_1 | apply J6.set_2 | refine J6.far ?_ NB473_467.out _ | refine J6.far ?_ NB473_478.out _) | exact HI473.out)); (case side2 => repeat (first | (with_reducible first | exact HB.out | apply bA_ | apply bN_ | apply bD_ | refine bS_ ?_ (J6.ge HI473.out) | refine bS_ ?_ GE467.out | refine bS_ ?_ GE478.out) | exact HB.out)); rintro e w48 ⟨rfl, hi, hb, hk⟩; refine ⟨_, rfl, ?_⟩; have n0_ := Aside0.mk (KeepBut.blk hk (g' := gb467) (o := .cells #[.int .i64 0, .int .i64 0, .int .i64 0, .string (⟨#[]⟩ : ByteArray), .string (⟨#[]⟩ : ByteArray), .string (⟨#[]⟩ : ByteArray), .int .i64 0, .string (⟨#[]⟩ : ByteArray), .int .i64 0, .int .i64 0, .int .i64 0, .bool false, .string (⟨#[]⟩ : ByteArray)] 27 (0, 0)) (by (with_reducible repeat (first | refine kN_ ?_ _ | refine kD_ ?_ | refine kA_ ?_ _)); refine kF_ ?_ NB467_478.out _; (with_reducible repeat (first | refine kN_ ?_ _ | refine kD_ ?_ | refine kA_ ?_ _)); refine kF_ ?_ NB467_478.out _; (with_reducible repeat (first | refine kN_ ?_ _ | refine kD_ ?_ | refine kA_ ?_ _)); refine kF_ ?_ NB467_478.out _; (with_reducible repeat (first | refine kN_ ?_ _ | refine kD_ ?_ | refine kA_ ?_ _)); refine kF_ ?_ NB467_478.out _; (with_reducible repeat (first | refine kN_ ?_ _ | refine kD_ ?_ | refine kA_ ?_ _)); refine kF_ ?_ NB467_478.out _; (with_reducible repeat (first | refine kN_ ?_ _ | refine kD_ ?_ | refine kA_ ?_ _)); refine kF_ ?_ NB467_478.out _; (with_reducible repeat (first | refine kN_ ?_ _ | refine kD_ ?_ | refine kA_ ?_ _)); refine kF_ ?_ NB467_478.out _; (with_reducible repeat (first | refine kN_ ?_ _ | refine kD_ ?_ | refine kA_ ?_ _)); refine kF_ ?_ NB467_478.out _; (with_reducible repeat (first | refine kN_ ?_ _ | refine kD_ ?_ | refine kA_ ?_ _)); refine kF_ ?_ NB467_478.out _; (with_reducible repeat (first | refine kN_ ?_ _ | refine kD_ ?_ | refine kA_ ?_ _)); refine kF_ ?_ NB467_478.out _; (with_reducible repeat (first | refine kN_ ?_ _ | refine kD_ ?_ | refine kA_ ?_ _)); refine kF_ ?_ NB467_478.out _; (with_reducible repeat (first | refine kN_ ?_ _ | refine kD_ ?_ | refine kA_ ?_ _)); exact BK467.out) NB467_473.out (by simp)); have n1_ := Aside0.mk (KeepBut.blk hk (g' := gb478) (o := .cells #[.int .i64 t474, .int .i64 t479, .int .i64 t483, .string t484, .string t485, .string t486, .int .i64 t487, .string t488, .int .i64 t489, .int .i64 t490, .int .i64 t491, .bool t492, .string t493] 27 (0, 0)) (by (with_reducible repeat (first | refine kN_ ?_ _ | refine kD_ ?_ | refine kA_ ?_ _)); refine blk_p13_2_12 (show _ = some (Obj.cells #[.int .i64 t474, .int .i64 t479, .int .i64 0, .string (⟨#[]⟩ : ByteArray), .string (⟨#[]⟩ : ByteArray), .string (⟨#[]⟩ : ByteArray), .int .i64 0, .string (⟨#[]⟩ : ByteArray), .int .i64 0, .int .i64 0, .int .i64 0, .bool false, .string (⟨#[]⟩ : ByteArray)] _ (0, 0)) from ?_); (with_reducible repeat (first | refine kN_ ?_ _ | refine kD_ ?_ | refine kA_ ?_ _)); exact BK478.out) NB478_473.out (by simp)); have n2_ := Aside0.mk (hb); have n3_ := Aside0.mk (hi); clear BK467; clear BK478; clear HB; clear HI473; have BK467 := n0_; have BK478 := n1_; have HB := n2_; have HI473 := n3_; clear n0_ n1_ n2_ n3_; (try clear hb); (try clear hb2); (try clear hk); (try clear hi); obtain ⟨_,_,_,_,_,_,_,_,_,_,_,_,_⟩ := cell13 BK478.out; obtain ⟨_,_,_,_,_,_,_,_,_,_,_,_,_⟩ := froz13 BK478.out) | ((with_reducible refine gC_ (f := 12) rfl ?_); refine goesL_ (some 46) rfl rfl Tryd.func12 (by kernel_rfl) rfl #[.agg #[.int .i64 t474, .int .i64 t479, .int .i64 t483, .string t484, .string t485, .string t486, .int .i64 t487, .string t488, .int .i64 t489, .int .i64 t490, .int .i64 t491, .bool t492, .string t493]] rfl (by (try simp only [List.map_toArray, List.map_cons, List.map_nil]); first | done | rfl | (simp only [List.length_drop, List.length_take]; rfl)) ?_; (with_reducible refine (gongref23_Encode.calls kj2 t474 t479 t483 t484 t485 t486 t487 t488 t489 t490 t491 t492 t493 t501 t502 _ A19.out).mono ?_); rintro e w50 ⟨rfl, hb⟩; refine ⟨_, rfl, ?_⟩; have n0_ := Aside0.mk (kB_ (g := gb467) (o := .cells #[.int .i64 0, .int .i64 0, .int .i64 0, .string (⟨#[]⟩ : ByteArray), .string (⟨#[]⟩ : ByteArray), .string (⟨#[]⟩ : ByteArray), .int .i64 0, .string (⟨#[]⟩ : ByteArray), .int .i64 0, .int .i64 0, .int .i64 0, .bool false, .string (⟨#[]⟩ : ByteArray)] 27 (0, 0)) (by (with_reducible repeat (first | refine kN_ ?_ _ | refine kD_ ?_ | refine kA_ ?_ _)); exact BK467.out) hb); have n1_ := Aside0.mk (J6.below (by repeat (first | (with_reducible first | exact HI473.out | apply J6.alloc | apply J6.drewN | apply J6.drew | apply J6.set_0 | apply J6.set_1 | apply J6.set_2 | refine J6.far ?_ NB473_467.out _ | refine J6.far ?_ NB473_478.out _) | exact HI473.out)) hb); have n2_ := Aside0.mk (kB_ (g := gb478) (o := .cells #[.int .i64 t474, .int .i64 t479, .int .i64 t483, .string t484, .string t485, .string t486, .int .i64 t487, .string t488, .int .i64 t489, .int .i64 t490, .int .i64 t491, .bool t492, .string t493] 27 (0, 0)) (by (with_reducible repeat (first | refine kN_ ?_ _ | refine kD_ ?_ | refine kA_ ?_ _)); exact BK478.out) hb); have n3_ := Aside0.mk (bT_ (by repeat (first | (with_reducible first | exact HB.out | apply bA_ | apply bN_ | apply bD_ | refine bS_ ?_ (J6.ge HI473.out) | refine bS_ ?_ GE467.out | refine bS_ ?_ GE478.out) | exact HB.out)) hb); clear BK467; clear HI473; clear BK478; clear HB; have BK467 := n0_; have HI473 := n1_; have BK478 := n2_; have HB := n3_; clear n0_ n1_ n2_ n3_; (try clear hb); (try clear hb2); (try clear hk); (try clear hi); have hnb51 := NB467_473.out; have hnc51 := NB473_467.out; obtain ⟨_,_,_,_,_,_,_,_,_,_,_,_,_⟩ := cell13 BK467.out; obtain ⟨_,_,_,_,_,_,_,_,_,_,_,_,_⟩ := froz13 BK467.out))
        refine bodyPost_ret (results_ct rfl _ _ gb467 27 #[.int .i64 0, .int .i64 0, .int .i64 0, .string (⟨#[]⟩ : ByteArray), .string (⟨#[]⟩ : ByteArray), .string (⟨#[]⟩ : ByteArray), .int .i64 0, .string (⟨#[]⟩ : ByteArray), .int .i64 0, .int .i64 0, .int .i64 0, .bool false, .string (⟨#[]⟩ : ByteArray)] (0, 0) _ rfl (by (with_reducible repeat (first | refine kN_ ?_ _ | refine kD_ ?_ | refine kA_ ?_ _)); refine blk_p13_0_12 (show _ = some (Obj.cells #[.int .i64 0, .int .i64 0, .int .i64 0, .string (⟨#[]⟩ : ByteArray), .string (⟨#[]⟩ : ByteArray), .string (⟨#[]⟩ : ByteArray), .int .i64 0, .string (⟨#[]⟩ : ByteArray), .int .i64 0, .int .i64 0, .int .i64 0, .bool false, .string (⟨#[]⟩ : ByteArray)] _ (0, 0)) from ?_); (with_reducible repeat (first | refine kN_ ?_ _ | refine kD_ ?_ | refine kA_ ?_ _)); exact BK467.out) Tryd.underlying27 rfl (by kernel_rfl)) rfl ?_
        exact ⟨by first | rfl | (simp [errW_none, errW_some] <;> rfl) | (simp [*, errW_none, errW_some] <;> rfl), by repeat (first | (with_reducible first | exact HB.out | apply bA_ | apply bN_ | apply bD_ | refine bS_ ?_ (J6.ge HI473.out) | refine bS_ ?_ GE467.out | refine bS_ ?_ GE478.out) | exact HB.out)⟩
      ·rw [if_neg c20] at H
       have c20b0 : (t502 == 0) = false := beq_eq_false_iff_ne.mpr c20
       have c20b1 : (t502 != 0) = true := bne_iff_ne.mpr c20
       simp only [Option.some.injEq, Prod.mk.injEq] at H
       obtain ⟨rfl, rfl, rfl, rfl, rfl, rfl, rfl, rfl, rfl, rfl, rfl, rfl, rfl, rfl⟩ := H
       go_wp2_with (first | ((with_reducible refine gC_ (f := 44) rfl ?_); refine goesL_ (some 41) rfl rfl Tryd.func44 (by kernel_rfl) rfl #[.pointer (some ⟨g473, 0, none⟩)] rfl (by (try simp only [List.map_toArray, List.map_cons, List.map_nil]); first | done | rfl | (simp only [List.length_drop, List.length_take]; rfl)) ?_; (with_reducible refine (uR_Done.calls g473 t494 t495 t496 t497 t498 t499 t500 w _ ?side1 ?side2 A17.out).mono ?_); (case side1 => repeat (first | (with_reducible first | exact HI473.out | apply J6.alloc | apply J6.drewN | apply J6.drew | apply J6.set_0 | apply J6.set_1 | apply J6.set_2 | refine J6.far ?_ NB473_467.out _ | refine J6.far ?_ NB473_478.out _) | exact HI473.out)); (case side2 => repeat (first | (with_reducible first | exact HB.out | apply bA_ | apply bN_ | apply bD_ | refine bS_ ?_ (J6.ge HI473.out) | refine bS_ ?_ GE467.out | refine bS_ ?_ GE478.out) | exact HB.out)); rintro e w63 ⟨rfl, hi, hb, hk⟩; refine ⟨_, rfl, ?_⟩; have n0_ := Aside0.mk (KeepBut.blk hk (g' := gb467) (o := .cells #[.int .i64 0, .int .i64 0, .int .i64 0, .string (⟨#[]⟩ : ByteArray), .string (⟨#[]⟩ : ByteArray), .string (⟨#[]⟩ : ByteArray), .int .i64 0, .string (⟨#[]⟩ : ByteArray), .int .i64 0, .int .i64 0, .int .i64 0, .bool false, .string (⟨#[]⟩ : ByteArray)] 27 (0, 0)) (by (with_reducible repeat (first | refine kN_ ?_ _ | refine kD_ ?_ | refine kA_ ?_ _)); refine kF_ ?_ NB467_478.out _; (with_reducible repeat (first | refine kN_ ?_ _ | refine kD_ ?_ | refine kA_ ?_ _)); refine kF_ ?_ NB467_478.out _; (with_reducible repeat (first | refine kN_ ?_ _ | refine kD_ ?_ | refine kA_ ?_ _)); refine kF_ ?_ NB467_478.out _; (with_reducible repeat (first | refine kN_ ?_ _ | refine kD_ ?_ | refine kA_ ?_ _)); refine kF_ ?_ NB467_478.out _; (with_reducible repeat (first | refine kN_ ?_ _ | refine kD_ ?_ | refine kA_ ?_ _)); refine kF_ ?_ NB467_478.out _; (with_reducible repeat (first | refine kN_ ?_ _ | refine kD_ ?_ | refine kA_ ?_ _)); refine kF_ ?_ NB467_478.out _; (with_reducible repeat (first | refine kN_ ?_ _ | refine kD_ ?_ | refine kA_ ?_ _)); refine kF_ ?_ NB467_478.out _; (with_reducible repeat (first | refine kN_ ?_ _ | refine kD_ ?_ | refine kA_ ?_ _)); refine kF_ ?_ NB467_478.out _; (with_reducible repeat (first | refine kN_ ?_ _ | refine kD_ ?_ | refine kA_ ?_ _)); refine kF_ ?_ NB467_478.out _; (with_reducible repeat (first | refine kN_ ?_ _ | refine kD_ ?_ | refine kA_ ?_ _)); refine kF_ ?_ NB467_478.out _; (with_reducible repeat (first | refine kN_ ?_ _ | refine kD_ ?_ | refine kA_ ?_ _)); refine kF_ ?_ NB467_478.out _; (with_reducible repeat (first | refine kN_ ?_ _ | refine kD_ ?_ | refine kA_ ?_ _)); exact BK467.out) NB467_473.out (by simp)); have n1_ := Aside0.mk (KeepBut.blk hk (g' := gb478) (o := .cells #[.int .i64 t474, .int .i64 t479, .int .i64 t483, .string t484, .string t485, .string t486, .int .i64 t487, .string t488, .int .i64 t489, .int .i64 t490, .int .i64 t491, .bool t492, .string t493] 27 (0, 0)) (by (with_reducible repeat (first | refine kN_ ?_ _ | refine kD_ ?_ | refine kA_ ?_ _)); refine blk_p13_2_12 (show _ = some (Obj.cells #[.int .i64 t474, .int .i64 t479, .int .i64 0, .string (⟨#[]⟩ : ByteArray), .string (⟨#[]⟩ : ByteArray), .string (⟨#[]⟩ : ByteArray), .int .i64 0, .string (⟨#[]⟩ : ByteArray), .int .i64 0, .int .i64 0, .int .i64 0, .bool false, .string (⟨#[]⟩ : ByteArray)] _ (0, 0)) from ?_); (with_reducible repeat (first | refine kN_ ?_ _ | refine kD_ ?_ | refine kA_ ?_ _)); exact BK478.out) NB478_473.out (by simp)); have n2_ := Aside0.mk (hb); have n3_ := Aside0.mk (hi); clear BK467; clear BK478; clear HB; clear HI473; have BK467 := n0_; have BK478 := n1_; have HB := n2_; have HI473 := n3_; clear n0_ n1_ n2_ n3_; (try clear hb); (try clear hb2); (try clear hk); (try clear hi); obtain ⟨_,_,_,_,_,_,_,_,_,_,_,_,_⟩ := cell13 BK478.out; obtain ⟨_,_,_,_,_,_,_,_,_,_,_,_,_⟩ := froz13 BK478.out) | ((with_reducible refine gC_ (f := 12) rfl ?_); refine goesL_ (some 46) rfl rfl Tryd.func12 (by kernel_rfl) rfl #[.agg #[.int .i64 t474, .int .i64 t479, .int .i64 t483, .string t484, .string t485, .string t486, .int .i64 t487, .string t488, .int .i64 t489, .int .i64 t490, .int .i64 t491, .bool t492, .string t493]] rfl (by (try simp only [List.map_toArray, List.map_cons, List.map_nil]); first | done | rfl | (simp only [List.length_drop, List.length_take]; rfl)) ?_; (with_reducible refine (gongref23_Encode.calls kj2 t474 t479 t483 t484 t485 t486 t487 t488 t489 t490 t491 t492 t493 t501 t502 _ A19.out).mono ?_); rintro e w65 ⟨rfl, hb⟩; refine ⟨_, rfl, ?_⟩; have n0_ := Aside0.mk (kB_ (g := gb467) (o := .cells #[.int .i64 0, .int .i64 0, .int .i64 0, .string (⟨#[]⟩ : ByteArray), .string (⟨#[]⟩ : ByteArray), .string (⟨#[]⟩ : ByteArray), .int .i64 0, .string (⟨#[]⟩ : ByteArray), .int .i64 0, .int .i64 0, .int .i64 0, .bool false, .string (⟨#[]⟩ : ByteArray)] 27 (0, 0)) (by (with_reducible repeat (first | refine kN_ ?_ _ | refine kD_ ?_ | refine kA_ ?_ _)); exact BK467.out) hb); have n1_ := Aside0.mk (J6.below (by repeat (first | (with_reducible first | exact HI473.out | apply J6.alloc | apply J6.drewN | apply J6.drew | apply J6.set_0 | apply J6.set_1 | apply J6.set_2 | refine J6.far ?_ NB473_467.out _ | refine J6.far ?_ NB473_478.out _) | exact HI473.out)) hb); have n2_ := Aside0.mk (kB_ (g := gb478) (o := .cells #[.int .i64 t474, .int .i64 t479, .int .i64 t483, .string t484, .string t485, .string t486, .int .i64 t487, .string t488, .int .i64 t489, .int .i64 t490, .int .i64 t491, .bool t492, .string t493] 27 (0, 0)) (by (with_reducible repeat (first | refine kN_ ?_ _ | refine kD_ ?_ | refine kA_ ?_ _)); exact BK478.out) hb); have n3_ := Aside0.mk (bT_ (by repeat (first | (with_reducible first | exact HB.out | apply bA_ | apply bN_ | apply bD_ | refine bS_ ?_ (J6.ge HI473.out) | refine bS_ ?_ GE467.out | refine bS_ ?_ GE478.out) | exact HB.out)) hb); clear BK467; clear HI473; clear BK478; clear HB; have BK467 := n0_; have HI473 := n1_; have BK478 := n2_; have HB := n3_; clear n0_ n1_ n2_ n3_; (try clear hb); (try clear hb2); (try clear hk); (try clear hi); have hnb66 := NB467_473.out; have hnc66 := NB473_467.out; obtain ⟨_,_,_,_,_,_,_,_,_,_,_,_,_⟩ := cell13 BK467.out; obtain ⟨_,_,_,_,_,_,_,_,_,_,_,_,_⟩ := froz13 BK467.out))
       refine bodyPost_ret (results_ct rfl _ _ gb467 27 #[.int .i64 0, .int .i64 0, .int .i64 0, .string (⟨#[]⟩ : ByteArray), .string (⟨#[]⟩ : ByteArray), .string (⟨#[]⟩ : ByteArray), .int .i64 0, .string (⟨#[]⟩ : ByteArray), .int .i64 0, .int .i64 0, .int .i64 0, .bool false, .string (⟨#[]⟩ : ByteArray)] (0, 0) _ rfl (by (with_reducible repeat (first | refine kN_ ?_ _ | refine kD_ ?_ | refine kA_ ?_ _)); refine blk_p13_0_12 (show _ = some (Obj.cells #[.int .i64 0, .int .i64 0, .int .i64 0, .string (⟨#[]⟩ : ByteArray), .string (⟨#[]⟩ : ByteArray), .string (⟨#[]⟩ : ByteArray), .int .i64 0, .string (⟨#[]⟩ : ByteArray), .int .i64 0, .int .i64 0, .int .i64 0, .bool false, .string (⟨#[]⟩ : ByteArray)] _ (0, 0)) from ?_); (with_reducible repeat (first | refine kN_ ?_ _ | refine kD_ ?_ | refine kA_ ?_ _)); exact BK467.out) Tryd.underlying27 rfl (by kernel_rfl)) rfl ?_
       exact ⟨by first | rfl | (simp [errW_none, errW_some] <;> rfl) | (simp [*, errW_none, errW_some] <;> rfl), by repeat (first | (with_reducible first | exact HB.out | apply bA_ | apply bN_ | apply bD_ | refine bS_ ?_ (J6.ge HI473.out) | refine bS_ ?_ GE467.out | refine bS_ ?_ GE478.out) | exact HB.out)⟩
     ·rw [if_neg c18] at H
      have c18b0 : (t497 == 0) = false := beq_eq_false_iff_ne.mpr c18
      have c18b1 : (t497 != 0) = true := bne_iff_ne.mpr c18
      simp only [Option.some.injEq, Prod.mk.injEq] at H
      obtain ⟨rfl, rfl, rfl, rfl, rfl, rfl, rfl, rfl, rfl, rfl, rfl, rfl, rfl, rfl⟩ := H
      go_wp2_with (first | ((with_reducible refine gC_ (f := 44) rfl ?_); refine goesL_ (some 41) rfl rfl Tryd.func44 (by kernel_rfl) rfl #[.pointer (some ⟨g473, 0, none⟩)] rfl (by (try simp only [List.map_toArray, List.map_cons, List.map_nil]); first | done | rfl | (simp only [List.length_drop, List.length_take]; rfl)) ?_; (with_reducible refine (uR_Done.calls g473 t494 t495 t496 t497 t498 t499 t500 w _ ?side1 ?side2 A17.out).mono ?_); (case side1 => repeat (first | (with_reducible first | exact HI473.out | apply J6.alloc | apply J6.drewN | apply J6.drew | apply J6.set_0 | apply J6.set_1 | apply J6.set_2 | refine J6.far ?_ NB473_467.out _ | refine J6.far ?_ NB473_478.out _) | exact HI473.out)); (case side2 => repeat (first | (with_reducible first | exact HB.out | apply bA_ | apply bN_ | apply bD_ | refine bS_ ?_ (J6.ge HI473.out) | refine bS_ ?_ GE467.out | refine bS_ ?_ GE478.out) | exact HB.out)); rintro e w78 ⟨rfl, hi, hb, hk⟩; refine ⟨_, rfl, ?_⟩; have n0_ := Aside0.mk (KeepBut.blk hk (g' := gb467) (o := .cells #[.int .i64 0, .int .i64 0, .int .i64 0, .string (⟨#[]⟩ : ByteArray), .string (⟨#[]⟩ : ByteArray), .string (⟨#[]⟩ : ByteArray), .int .i64 0, .string (⟨#[]⟩ : ByteArray), .int .i64 0, .int .i64 0, .int .i64 0, .bool false, .string (⟨#[]⟩ : ByteArray)] 27 (0, 0)) (by (with_reducible repeat (first | refine kN_ ?_ _ | refine kD_ ?_ | refine kA_ ?_ _)); refine kF_ ?_ NB467_478.out _; (with_reducible repeat (first | refine kN_ ?_ _ | refine kD_ ?_ | refine kA_ ?_ _)); refine kF_ ?_ NB467_478.out _; (with_reducible repeat (first | refine kN_ ?_ _ | refine kD_ ?_ | refine kA_ ?_ _)); refine kF_ ?_ NB467_478.out _; (with_reducible repeat (first | refine kN_ ?_ _ | refine kD_ ?_ | refine kA_ ?_ _)); refine kF_ ?_ NB467_478.out _; (with_reducible repeat (first | refine kN_ ?_ _ | refine kD_ ?_ | refine kA_ ?_ _)); refine kF_ ?_ NB467_478.out _; (with_reducible repeat (first | refine kN_ ?_ _ | refine kD_ ?_ | refine kA_ ?_ _)); refine kF_ ?_ NB467_478.out _; (with_reducible repeat (first | refine kN_ ?_ _ | refine kD_ ?_ | refine kA_ ?_ _)); refine kF_ ?_ NB467_478.out _; (with_reducible repeat (first | refine kN_ ?_ _ | refine kD_ ?_ | refine kA_ ?_ _)); refine kF_ ?_ NB467_478.out _; (with_reducible repeat (first | refine kN_ ?_ _ | refine kD_ ?_ | refine kA_ ?_ _)); refine kF_ ?_ NB467_478.out _; (with_reducible repeat (first | refine kN_ ?_ _ | refine kD_ ?_ | refine kA_ ?_ _)); refine kF_ ?_ NB467_478.out _; (with_reducible repeat (first | refine kN_ ?_ _ | refine kD_ ?_ | refine kA_ ?_ _)); refine kF_ ?_ NB467_478.out _; (with_reducible repeat (first | refine kN_ ?_ _ | refine kD_ ?_ | refine kA_ ?_ _)); exact BK467.out) NB467_473.out (by simp)); have n1_ := Aside0.mk (KeepBut.blk hk (g' := gb478) (o := .cells #[.int .i64 t474, .int .i64 t479, .int .i64 t483, .string t484, .string t485, .string t486, .int .i64 t487, .string t488, .int .i64 t489, .int .i64 t490, .int .i64 t491, .bool t492, .string t493] 27 (0, 0)) (by (with_reducible repeat (first | refine kN_ ?_ _ | refine kD_ ?_ | refine kA_ ?_ _)); refine blk_p13_2_12 (show _ = some (Obj.cells #[.int .i64 t474, .int .i64 t479, .int .i64 0, .string (⟨#[]⟩ : ByteArray), .string (⟨#[]⟩ : ByteArray), .string (⟨#[]⟩ : ByteArray), .int .i64 0, .string (⟨#[]⟩ : ByteArray), .int .i64 0, .int .i64 0, .int .i64 0, .bool false, .string (⟨#[]⟩ : ByteArray)] _ (0, 0)) from ?_); (with_reducible repeat (first | refine kN_ ?_ _ | refine kD_ ?_ | refine kA_ ?_ _)); exact BK478.out) NB478_473.out (by simp)); have n2_ := Aside0.mk (hb); have n3_ := Aside0.mk (hi); clear BK467; clear BK478; clear HB; clear HI473; have BK467 := n0_; have BK478 := n1_; have HB := n2_; have HI473 := n3_; clear n0_ n1_ n2_ n3_; (try clear hb); (try clear hb2); (try clear hk); (try clear hi); have hnb79 := NB467_473.out; have hnc79 := NB473_467.out; obtain ⟨_,_,_,_,_,_,_,_,_,_,_,_,_⟩ := cell13 BK467.out; obtain ⟨_,_,_,_,_,_,_,_,_,_,_,_,_⟩ := froz13 BK467.out))
      refine bodyPost_ret (results_ct rfl _ _ gb467 27 #[.int .i64 0, .int .i64 0, .int .i64 0, .string (⟨#[]⟩ : ByteArray), .string (⟨#[]⟩ : ByteArray), .string (⟨#[]⟩ : ByteArray), .int .i64 0, .string (⟨#[]⟩ : ByteArray), .int .i64 0, .int .i64 0, .int .i64 0, .bool false, .string (⟨#[]⟩ : ByteArray)] (0, 0) _ rfl (by (with_reducible repeat (first | refine kN_ ?_ _ | refine kD_ ?_ | refine kA_ ?_ _)); refine blk_p13_0_12 (show _ = some (Obj.cells #[.int .i64 0, .int .i64 0, .int .i64 0, .string (⟨#[]⟩ : ByteArray), .string (⟨#[]⟩ : ByteArray), .string (⟨#[]⟩ : ByteArray), .int .i64 0, .string (⟨#[]⟩ : ByteArray), .int .i64 0, .int .i64 0, .int .i64 0, .bool false, .string (⟨#[]⟩ : ByteArray)] _ (0, 0)) from ?_); (with_reducible repeat (first | refine kN_ ?_ _ | refine kD_ ?_ | refine kA_ ?_ _)); exact BK467.out) Tryd.underlying27 rfl (by kernel_rfl)) rfl ?_
      exact ⟨by first | rfl | (simp [errW_none, errW_some] <;> rfl) | (simp [*, errW_none, errW_some] <;> rfl), by repeat (first | (with_reducible first | exact HB.out | apply bA_ | apply bN_ | apply bD_ | refine bS_ ?_ (J6.ge HI473.out) | refine bS_ ?_ GE467.out | refine bS_ ?_ GE478.out) | exact HB.out)⟩
    ·rw [if_neg c12] at H
     exact absurd H (by simp)
end Go.Proofs.YtipenplplmdclaaDoor.Px
end
section
namespace Go.Proofs.YtipenplplmdclaaDoor.Px
open Go.RowKit Go.Proofs.YtipenplplmdclaaDoorW.PrintWords Go.Proofs.YtipenplplmdclaaDoorW.PrintLast Go.Proofs.YtipenplplmdclaaDoorW.PrintMore
attribute [local go_sem] max2_int min2_int max_two min_two max_three min_three max_four min_four
set_option linter.unusedVariables false
set_option linter.unusedSimpArgs false
attribute [local go_sem high] eqA27
def gongref23_Acked.j0 : Nat → ByteArray → ByteArray → Bool → Option (Int × Int)
  | 0, _, _, _ => none
  | k + 1, x0, x4, x20 => if x20 = true then (some (0, 230)) else (if 1 ≤ (x4.size : Int) then ((gongref01_New.f (x4.extract 1 x4.size)).bind fun bt505 => ((uR_Groups.f k bt505.1 bt505.2.1 bt505.2.2 1152921504606846976).bind fun bt509 => ((gongref23_Ack.f k bt509.1).bind fun bt513 => (if bt513.2 = 0 then (if bt513.1.toList = x0.toList then ((uR_Done.f bt509.2.1 bt509.2.2.1 bt509.2.2.2).bind fun bt515 => (if bt515.1 = 0 then (some (bt509.1, 0)) else (some (0, 230)))) else (some (0, 230))) else (some (0, 230)))))) else (none))
def gongref23_Acked.f (k : Nat) (a0 : ByteArray) : Option (Int × Int) := (gongref02_Open.f k a0).bind fun bt503 => (if bt503.2 = true then (gongref23_Acked.j0 k a0 bt503.1 (bt503.1.toList == ([] : List UInt8))) else (gongref23_Acked.j0 k a0 bt503.1 true))
set_option maxHeartbeats 8000000 in
set_option maxRecDepth 100000 in
theorem gongref23_Acked.calls (k : Nat) (a0 : ByteArray) (r1 : Int) (r2 : Int) (w : World) (h : gongref23_Acked.f k a0 = some (r1, r2)) :
  Calls Tryd.prog 20 #[.string a0] w fun e w' => e = .returned (.tuple #[.int .i64 r1, .int .i64 r2]) ∧ Below w.heap.size w w' := by
 have hu66 := Tryd.underlying66
 have HB := Aside0.mk (Below.refl w.heap.size w)
 have H : ((gongref02_Open.f k a0).bind fun bt503 => (if bt503.2 = true then (gongref23_Acked.j0 k a0 bt503.1 (bt503.1.toList == ([] : List UInt8))) else (gongref23_Acked.j0 k a0 bt503.1 true))) = some (r1, r2) := h
 clear h
 replace H := Option.bind_eq_some_iff.mp H
 obtain ⟨⟨t503, t504⟩, A20, H⟩ := H
 try dsimp only at H
 have A2 := Aside0.mk A20
 clear A20
 have HC3 := Aside0.mk H
 clear H
 go_enter Tryd.func20, Tryd.ntmps20
 go_upto_region 2 with (first | ((with_reducible refine gC_ (f := 40) rfl ?_); refine goesL_ (some 12) rfl rfl Tryd.func40 (by kernel_rfl) rfl #[.string a0] rfl (by (try simp only [List.map_toArray, List.map_cons, List.map_nil]); first | done | rfl | (simp only [List.length_drop, List.length_take]; rfl)) ?_; (with_reducible refine (gongref02_Open.calls k a0 t503 t504 _ A2.out).mono ?_); rintro e w4 ⟨rfl, hb⟩; refine ⟨_, rfl, ?_⟩; have n0_ := Aside0.mk (bT_ (by repeat (first | (with_reducible first | exact HB.out | apply bA_ | apply bN_ | apply bD_) | exact HB.out)) hb); clear HB; have HB := n0_; clear n0_; (try clear hb); (try clear hb2); (try clear hk); (try clear hi)))
 (try simp only [Act.put, List.setIfInBounds_toArray, List.set_cons_zero, List.set_cons_succ])
 go_cut [20] (fun v20 wc => ∃ (kq : Nat) (x20_2 : Bool), v20 = .bool x20_2 ∧ Aside0 (gongref23_Acked.j0 kq a0 t503 x20_2 = some (r1, r2)) ∧ Aside0 (kq ≤ k) ∧ Aside0 (Below w.heap.size w wc))
 case first =>
  have H := HC3.out
  clear HC3
  by_cases c5 : t504 = true
  ·subst c5
   have H1 : (gongref23_Acked.j0 k a0 t503 (t503.toList == ([] : List UInt8))) = some (r1, r2) := by rw [if_pos rfl] at H; exact H
   clear H
   have H := H1
   clear H1
   have H' := Aside0.mk H
   clear H
   go_wp2
   go_meet
   case rel => exact ⟨_, ((t503.toList == ([] : List UInt8))), (by first | rfl | (simp; done) | (simp [*]; done)), H', ⟨by first | omega | exact Nat.le_refl _⟩, ⟨by repeat (first | (with_reducible first | exact HB.out | apply bA_ | apply bN_ | apply bD_) | exact HB.out)⟩⟩
  ·replace c5 := Bool.eq_false_iff.mpr c5
   subst c5
   have H1 : (gongref23_Acked.j0 k a0 t503 true) = some (r1, r2) := by rw [if_neg (show ¬ (false = true) by decide)] at H; exact H
   clear H
   have H := H1
   clear H1
   have H' := Aside0.mk H
   clear H
   go_wp2
   go_meet
   case rel => exact ⟨_, (true), (by first | rfl | (simp; done) | (simp [*]; done)), H', ⟨by first | omega | exact Nat.le_refl _⟩, ⟨by repeat (first | (with_reducible first | exact HB.out | apply bA_ | apply bN_ | apply bD_) | exact HB.out)⟩⟩
 case rest =>
  clear HC3
  try clear c2
  try clear p2
  try clear c4
  try clear c5
  obtain ⟨kq, x20_2, rfl, HA, HJ2, HB⟩ := hcut
  cases kq with
  | zero => exact absurd HA.out (by simp [gongref23_Acked.j0])
  | succ kj2 =>
   have H := HA.out
   clear HA
   simp only [gongref23_Acked.j0] at H
   by_cases c6 : x20_2 = true
   ·subst c6
    have H1 : (some (0, 230)) = some (r1, r2) := by rw [if_pos rfl] at H; exact H
    clear H
    have H := H1
    clear H1
    simp only [Option.some.injEq, Prod.mk.injEq] at H
    obtain ⟨rfl, rfl⟩ := H
    go_wp2
    go_ret2
    exact ⟨by first | rfl | (simp [errW_none, errW_some] <;> rfl) | (simp [*, errW_none, errW_some] <;> rfl), by repeat (first | (with_reducible first | exact HB.out | apply bA_ | apply bN_ | apply bD_) | exact HB.out)⟩
   ·replace c6 := Bool.eq_false_iff.mpr c6
    subst c6
    have H1 : (if 1 ≤ (t503.size : Int) then ((gongref01_New.f (t503.extract 1 t503.size)).bind fun bt505 => ((uR_Groups.f kj2 bt505.1 bt505.2.1 bt505.2.2 1152921504606846976).bind fun bt509 => ((gongref23_Ack.f kj2 bt509.1).bind fun bt513 => (if bt513.2 = 0 then (if bt513.1.toList = a0.toList then ((uR_Done.f bt509.2.1 bt509.2.2.1 bt509.2.2.2).bind fun bt515 => (if bt515.1 = 0 then (some (bt509.1, 0)) else (some (0, 230)))) else (some (0, 230))) else (some (0, 230)))))) else (none)) = some (r1, r2) := by rw [if_neg (show ¬ (false = true) by decide)] at H; exact H
    clear H
    have H := H1
    clear H1
    by_cases c7 : 1 ≤ (t503.size : Int)
    ·rw [if_pos c7] at H
     have c7b0 := eq_true c7
     have c7b1 : decide (1 ≤ (t503.size : Int)) = true := decide_eq_true c7
     clear c7
     replace H := Option.bind_eq_some_iff.mp H
     obtain ⟨⟨t505, t506, t507⟩, A80, H⟩ := H
     try dsimp only at H
     have A8 := Aside0.mk A80
     clear A80
     replace H := Option.bind_eq_some_iff.mp H
     obtain ⟨⟨t509, t510, t511, t512⟩, A90, H⟩ := H
     try dsimp only at H
     have A9 := Aside0.mk A90
     clear A90
     replace H := Option.bind_eq_some_iff.mp H
     obtain ⟨⟨t513, t514⟩, A100, H⟩ := H
     try dsimp only at H
     have A10 := Aside0.mk A100
     clear A100
     by_cases c11 : t514 = 0
     ·rw [if_pos c11] at H
      have c11b0 : (t514 == 0) = true := beq_iff_eq.mpr c11
      have c11b1 : (t514 != 0) = false := bne_eq_false_iff_eq.mpr c11
      clear c11
      by_cases c12 : t513.toList = a0.toList
      ·rw [if_pos c12] at H
       have c12b0 : (t513.toList == a0.toList) = true := beq_iff_eq.mpr c12
       have c12b1 : (t513.toList != a0.toList) = false := bne_eq_false_iff_eq.mpr c12
       clear c12
       replace H := Option.bind_eq_some_iff.mp H
       obtain ⟨⟨t515, t516, t517, t518⟩, A130, H⟩ := H
       try dsimp only at H
       have A13 := Aside0.mk A130
       clear A130
       by_cases c14 : t515 = 0
       ·rw [if_pos c14] at H
        have c14b0 : (t515 == 0) = true := beq_iff_eq.mpr c14
        have c14b1 : (t515 != 0) = false := bne_eq_false_iff_eq.mpr c14
        clear c14
        simp only [Option.some.injEq, Prod.mk.injEq] at H
        obtain ⟨rfl, rfl⟩ := H
        go_wp2_with (first | ((with_reducible refine gD_ (N := 24) rfl ?_); refine gB_ ?hg (N := 24) ?hd (cs := #[.string (t503.extract 1 t503.size), .int .i64 0, .int .i64 0]) (t := 66) ?hr ?_; (case hd => rfl); (case hg => rfl); (case hr => first | (go_simp; done) | (go_simp; rfl)); intro g508 hg w15 hbox hb2; have hb := bT_ (by repeat (first | (with_reducible first | exact HB.out | apply bA_ | apply bN_ | apply bD_) | exact HB.out)) hb2; have hi : J6 w w15 g508 t505 t506 t507 := (by have q_ := A8.out; simp only [gongref01_New.f, Option.some.injEq, Prod.mk.injEq] at q_; rw [← q_.1, ← q_.2.1, ← q_.2.2]; exact ⟨hbox, by rw [hg]; exact bZ_ (by repeat (first | (with_reducible first | exact HB.out | apply bA_ | apply bN_ | apply bD_) | exact HB.out))⟩); clear hbox hg; have n0_ := Aside0.mk (hb); have n1_ := Aside0.mk (hi); clear HB; have HB := n0_; have HI508 := n1_; clear n0_ n1_; (try clear hb); (try clear hb2); (try clear hk); (try clear hi)) | ((with_reducible refine gC_ (f := 41) rfl ?_); refine goesL_ (some 26) rfl rfl Tryd.func41 (by kernel_rfl) rfl #[.pointer (some ⟨g508, 0, none⟩), .int .i64 1152921504606846976] rfl (by (try simp only [List.map_toArray, List.map_cons, List.map_nil]); first | done | rfl | (simp only [List.length_drop, List.length_take]; rfl)) ?_; (with_reducible refine (uR_Groups.calls kj2 g508 t505 t506 t507 1152921504606846976 t509 t510 t511 t512 w _ ?side1 ?side2 A9.out).mono ?_); (case side1 => repeat (first | (with_reducible first | exact HI508.out | apply J6.alloc | apply J6.drewN | apply J6.drew | apply J6.set_0 | apply J6.set_1 | apply J6.set_2) | exact HI508.out)); (case side2 => repeat (first | (with_reducible first | exact HB.out | apply bA_ | apply bN_ | apply bD_ | refine bS_ ?_ (J6.ge HI508.out)) | exact HB.out)); rintro e w16 ⟨rfl, hi, hb, hk⟩; refine ⟨_, rfl, ?_⟩; have n0_ := Aside0.mk (hb); have n1_ := Aside0.mk (hi); clear HB; clear HI508; have HB := n0_; have HI508 := n1_; clear n0_ n1_; (try clear hb); (try clear hb2); (try clear hk); (try clear hi)) | ((with_reducible refine gC_ (f := 14) rfl ?_); refine goesL_ (some 29) rfl rfl Tryd.func14 (by kernel_rfl) rfl #[.int .i64 t509] rfl (by (try simp only [List.map_toArray, List.map_cons, List.map_nil]); first | done | rfl | (simp only [List.length_drop, List.length_take]; rfl)) ?_; (with_reducible refine (gongref23_Ack.calls kj2 t509 t513 t514 _ A10.out).mono ?_); rintro e w17 ⟨rfl, hb⟩; refine ⟨_, rfl, ?_⟩; have n0_ := Aside0.mk (J6.below (by repeat (first | (with_reducible first | exact HI508.out | apply J6.alloc | apply J6.drewN | apply J6.drew | apply J6.set_0 | apply J6.set_1 | apply J6.set_2) | exact HI508.out)) hb); have n1_ := Aside0.mk (bT_ (by repeat (first | (with_reducible first | exact HB.out | apply bA_ | apply bN_ | apply bD_ | refine bS_ ?_ (J6.ge HI508.out)) | exact HB.out)) hb); clear HI508; clear HB; have HI508 := n0_; have HB := n1_; clear n0_ n1_; (try clear hb); (try clear hb2); (try clear hk); (try clear hi)) | (go_at_call 44; (with_reducible refine (uR_Done.calls g508 t510 t511 t512 t515 t516 t517 t518 w _ ?side1 ?side2 A13.out).mono ?_); (case side1 => repeat (first | (with_reducible first | exact HI508.out | apply J6.alloc | apply J6.drewN | apply J6.drew | apply J6.set_0 | apply J6.set_1 | apply J6.set_2) | exact HI508.out)); (case side2 => repeat (first | (with_reducible first | exact HB.out | apply bA_ | apply bN_ | apply bD_ | refine bS_ ?_ (J6.ge HI508.out)) | exact HB.out)); rintro e w18 ⟨rfl, hi, hb, hk⟩; have n0_ := Aside0.mk (hb); have n1_ := Aside0.mk (hi); clear HB; clear HI508; have HB := n0_; have HI508 := n1_; clear n0_ n1_; (try clear hb); (try clear hb2); (try clear hk); (try clear hi)))
        go_ret2
        exact ⟨by first | rfl | (simp [errW_none, errW_some] <;> rfl) | (simp [*, errW_none, errW_some] <;> rfl), by repeat (first | (with_reducible first | exact HB.out | apply bA_ | apply bN_ | apply bD_ | refine bS_ ?_ (J6.ge HI508.out)) | exact HB.out)⟩
       ·rw [if_neg c14] at H
        have c14b0 : (t515 == 0) = false := beq_eq_false_iff_ne.mpr c14
        have c14b1 : (t515 != 0) = true := bne_iff_ne.mpr c14
        simp only [Option.some.injEq, Prod.mk.injEq] at H
        obtain ⟨rfl, rfl⟩ := H
        go_wp2_with (first | ((with_reducible refine gD_ (N := 24) rfl ?_); refine gB_ ?hg (N := 24) ?hd (cs := #[.string (t503.extract 1 t503.size), .int .i64 0, .int .i64 0]) (t := 66) ?hr ?_; (case hd => rfl); (case hg => rfl); (case hr => first | (go_simp; done) | (go_simp; rfl)); intro g508 hg w19 hbox hb2; have hb := bT_ (by repeat (first | (with_reducible first | exact HB.out | apply bA_ | apply bN_ | apply bD_) | exact HB.out)) hb2; have hi : J6 w w19 g508 t505 t506 t507 := (by have q_ := A8.out; simp only [gongref01_New.f, Option.some.injEq, Prod.mk.injEq] at q_; rw [← q_.1, ← q_.2.1, ← q_.2.2]; exact ⟨hbox, by rw [hg]; exact bZ_ (by repeat (first | (with_reducible first | exact HB.out | apply bA_ | apply bN_ | apply bD_) | exact HB.out))⟩); clear hbox hg; have n0_ := Aside0.mk (hb); have n1_ := Aside0.mk (hi); clear HB; have HB := n0_; have HI508 := n1_; clear n0_ n1_; (try clear hb); (try clear hb2); (try clear hk); (try clear hi)) | ((with_reducible refine gC_ (f := 41) rfl ?_); refine goesL_ (some 26) rfl rfl Tryd.func41 (by kernel_rfl) rfl #[.pointer (some ⟨g508, 0, none⟩), .int .i64 1152921504606846976] rfl (by (try simp only [List.map_toArray, List.map_cons, List.map_nil]); first | done | rfl | (simp only [List.length_drop, List.length_take]; rfl)) ?_; (with_reducible refine (uR_Groups.calls kj2 g508 t505 t506 t507 1152921504606846976 t509 t510 t511 t512 w _ ?side1 ?side2 A9.out).mono ?_); (case side1 => repeat (first | (with_reducible first | exact HI508.out | apply J6.alloc | apply J6.drewN | apply J6.drew | apply J6.set_0 | apply J6.set_1 | apply J6.set_2) | exact HI508.out)); (case side2 => repeat (first | (with_reducible first | exact HB.out | apply bA_ | apply bN_ | apply bD_ | refine bS_ ?_ (J6.ge HI508.out)) | exact HB.out)); rintro e w20 ⟨rfl, hi, hb, hk⟩; refine ⟨_, rfl, ?_⟩; have n0_ := Aside0.mk (hb); have n1_ := Aside0.mk (hi); clear HB; clear HI508; have HB := n0_; have HI508 := n1_; clear n0_ n1_; (try clear hb); (try clear hb2); (try clear hk); (try clear hi)) | ((with_reducible refine gC_ (f := 14) rfl ?_); refine goesL_ (some 29) rfl rfl Tryd.func14 (by kernel_rfl) rfl #[.int .i64 t509] rfl (by (try simp only [List.map_toArray, List.map_cons, List.map_nil]); first | done | rfl | (simp only [List.length_drop, List.length_take]; rfl)) ?_; (with_reducible refine (gongref23_Ack.calls kj2 t509 t513 t514 _ A10.out).mono ?_); rintro e w21 ⟨rfl, hb⟩; refine ⟨_, rfl, ?_⟩; have n0_ := Aside0.mk (J6.below (by repeat (first | (with_reducible first | exact HI508.out | apply J6.alloc | apply J6.drewN | apply J6.drew | apply J6.set_0 | apply J6.set_1 | apply J6.set_2) | exact HI508.out)) hb); have n1_ := Aside0.mk (bT_ (by repeat (first | (with_reducible first | exact HB.out | apply bA_ | apply bN_ | apply bD_ | refine bS_ ?_ (J6.ge HI508.out)) | exact HB.out)) hb); clear HI508; clear HB; have HI508 := n0_; have HB := n1_; clear n0_ n1_; (try clear hb); (try clear hb2); (try clear hk); (try clear hi)) | (go_at_call 44; (with_reducible refine (uR_Done.calls g508 t510 t511 t512 t515 t516 t517 t518 w _ ?side1 ?side2 A13.out).mono ?_); (case side1 => repeat (first | (with_reducible first | exact HI508.out | apply J6.alloc | apply J6.drewN | apply J6.drew | apply J6.set_0 | apply J6.set_1 | apply J6.set_2) | exact HI508.out)); (case side2 => repeat (first | (with_reducible first | exact HB.out | apply bA_ | apply bN_ | apply bD_ | refine bS_ ?_ (J6.ge HI508.out)) | exact HB.out)); rintro e w22 ⟨rfl, hi, hb, hk⟩; have n0_ := Aside0.mk (hb); have n1_ := Aside0.mk (hi); clear HB; clear HI508; have HB := n0_; have HI508 := n1_; clear n0_ n1_; (try clear hb); (try clear hb2); (try clear hk); (try clear hi)))
        go_ret2
        exact ⟨by first | rfl | (simp [errW_none, errW_some] <;> rfl) | (simp [*, errW_none, errW_some] <;> rfl), by repeat (first | (with_reducible first | exact HB.out | apply bA_ | apply bN_ | apply bD_ | refine bS_ ?_ (J6.ge HI508.out)) | exact HB.out)⟩
      ·rw [if_neg c12] at H
       have c12b0 : (t513.toList == a0.toList) = false := beq_eq_false_iff_ne.mpr c12
       have c12b1 : (t513.toList != a0.toList) = true := bne_iff_ne.mpr c12
       simp only [Option.some.injEq, Prod.mk.injEq] at H
       obtain ⟨rfl, rfl⟩ := H
       go_wp2_with (first | ((with_reducible refine gD_ (N := 24) rfl ?_); refine gB_ ?hg (N := 24) ?hd (cs := #[.string (t503.extract 1 t503.size), .int .i64 0, .int .i64 0]) (t := 66) ?hr ?_; (case hd => rfl); (case hg => rfl); (case hr => first | (go_simp; done) | (go_simp; rfl)); intro g508 hg w23 hbox hb2; have hb := bT_ (by repeat (first | (with_reducible first | exact HB.out | apply bA_ | apply bN_ | apply bD_) | exact HB.out)) hb2; have hi : J6 w w23 g508 t505 t506 t507 := (by have q_ := A8.out; simp only [gongref01_New.f, Option.some.injEq, Prod.mk.injEq] at q_; rw [← q_.1, ← q_.2.1, ← q_.2.2]; exact ⟨hbox, by rw [hg]; exact bZ_ (by repeat (first | (with_reducible first | exact HB.out | apply bA_ | apply bN_ | apply bD_) | exact HB.out))⟩); clear hbox hg; have n0_ := Aside0.mk (hb); have n1_ := Aside0.mk (hi); clear HB; have HB := n0_; have HI508 := n1_; clear n0_ n1_; (try clear hb); (try clear hb2); (try clear hk); (try clear hi)) | ((with_reducible refine gC_ (f := 41) rfl ?_); refine goesL_ (some 26) rfl rfl Tryd.func41 (by kernel_rfl) rfl #[.pointer (some ⟨g508, 0, none⟩), .int .i64 1152921504606846976] rfl (by (try simp only [List.map_toArray, List.map_cons, List.map_nil]); first | done | rfl | (simp only [List.length_drop, List.length_take]; rfl)) ?_; (with_reducible refine (uR_Groups.calls kj2 g508 t505 t506 t507 1152921504606846976 t509 t510 t511 t512 w _ ?side1 ?side2 A9.out).mono ?_); (case side1 => repeat (first | (with_reducible first | exact HI508.out | apply J6.alloc | apply J6.drewN | apply J6.drew | apply J6.set_0 | apply J6.set_1 | apply J6.set_2) | exact HI508.out)); (case side2 => repeat (first | (with_reducible first | exact HB.out | apply bA_ | apply bN_ | apply bD_ | refine bS_ ?_ (J6.ge HI508.out)) | exact HB.out)); rintro e w24 ⟨rfl, hi, hb, hk⟩; refine ⟨_, rfl, ?_⟩; have n0_ := Aside0.mk (hb); have n1_ := Aside0.mk (hi); clear HB; clear HI508; have HB := n0_; have HI508 := n1_; clear n0_ n1_; (try clear hb); (try clear hb2); (try clear hk); (try clear hi)) | ((with_reducible refine gC_ (f := 14) rfl ?_); refine goesL_ (some 29) rfl rfl Tryd.func14 (by kernel_rfl) rfl #[.int .i64 t509] rfl (by (try simp only [List.map_toArray, List.map_cons, List.map_nil]); first | done | rfl | (simp only [List.length_drop, List.length_take]; rfl)) ?_; (with_reducible refine (gongref23_Ack.calls kj2 t509 t513 t514 _ A10.out).mono ?_); rintro e w25 ⟨rfl, hb⟩; refine ⟨_, rfl, ?_⟩; have n0_ := Aside0.mk (J6.below (by repeat (first | (with_reducible first | exact HI508.out | apply J6.alloc | apply J6.drewN | apply J6.drew | apply J6.set_0 | apply J6.set_1 | apply J6.set_2) | exact HI508.out)) hb); have n1_ := Aside0.mk (bT_ (by repeat (first | (with_reducible first | exact HB.out | apply bA_ | apply bN_ | apply bD_ | refine bS_ ?_ (J6.ge HI508.out)) | exact HB.out)) hb); clear HI508; clear HB; have HI508 := n0_; have HB := n1_; clear n0_ n1_; (try clear hb); (try clear hb2); (try clear hk); (try clear hi)))
       go_ret2
       exact ⟨by first | rfl | (simp [errW_none, errW_some] <;> rfl) | (simp [*, errW_none, errW_some] <;> rfl), by repeat (first | (with_reducible first | exact HB.out | apply bA_ | apply bN_ | apply bD_ | refine bS_ ?_ (J6.ge HI508.out)) | exact HB.out)⟩
     ·rw [if_neg c11] at H
      have c11b0 : (t514 == 0) = false := beq_eq_false_iff_ne.mpr c11
      have c11b1 : (t514 != 0) = true := bne_iff_ne.mpr c11
      simp only [Option.some.injEq, Prod.mk.injEq] at H
      obtain ⟨rfl, rfl⟩ := H
      go_wp2_with (first | ((with_reducible refine gD_ (N := 24) rfl ?_); refine gB_ ?hg (N := 24) ?hd (cs := #[.string (t503.extract 1 t503.size), .int .i64 0, .int .i64 0]) (t := 66) ?hr ?_; (case hd => rfl); (case hg => rfl); (case hr => first | (go_simp; done) | (go_simp; rfl)); intro g508 hg w26 hbox hb2; have hb := bT_ (by repeat (first | (with_reducible first | exact HB.out | apply bA_ | apply bN_ | apply bD_) | exact HB.out)) hb2; have hi : J6 w w26 g508 t505 t506 t507 := (by have q_ := A8.out; simp only [gongref01_New.f, Option.some.injEq, Prod.mk.injEq] at q_; rw [← q_.1, ← q_.2.1, ← q_.2.2]; exact ⟨hbox, by rw [hg]; exact bZ_ (by repeat (first | (with_reducible first | exact HB.out | apply bA_ | apply bN_ | apply bD_) | exact HB.out))⟩); clear hbox hg; have n0_ := Aside0.mk (hb); have n1_ := Aside0.mk (hi); clear HB; have HB := n0_; have HI508 := n1_; clear n0_ n1_; (try clear hb); (try clear hb2); (try clear hk); (try clear hi)) | ((with_reducible refine gC_ (f := 41) rfl ?_); refine goesL_ (some 26) rfl rfl Tryd.func41 (by kernel_rfl) rfl #[.pointer (some ⟨g508, 0, none⟩), .int .i64 1152921504606846976] rfl (by (try simp only [List.map_toArray, List.map_cons, List.map_nil]); first | done | rfl | (simp only [List.length_drop, List.length_take]; rfl)) ?_; (with_reducible refine (uR_Groups.calls kj2 g508 t505 t506 t507 1152921504606846976 t509 t510 t511 t512 w _ ?side1 ?side2 A9.out).mono ?_); (case side1 => repeat (first | (with_reducible first | exact HI508.out | apply J6.alloc | apply J6.drewN | apply J6.drew | apply J6.set_0 | apply J6.set_1 | apply J6.set_2) | exact HI508.out)); (case side2 => repeat (first | (with_reducible first | exact HB.out | apply bA_ | apply bN_ | apply bD_ | refine bS_ ?_ (J6.ge HI508.out)) | exact HB.out)); rintro e w27 ⟨rfl, hi, hb, hk⟩; refine ⟨_, rfl, ?_⟩; have n0_ := Aside0.mk (hb); have n1_ := Aside0.mk (hi); clear HB; clear HI508; have HB := n0_; have HI508 := n1_; clear n0_ n1_; (try clear hb); (try clear hb2); (try clear hk); (try clear hi)) | ((with_reducible refine gC_ (f := 14) rfl ?_); refine goesL_ (some 29) rfl rfl Tryd.func14 (by kernel_rfl) rfl #[.int .i64 t509] rfl (by (try simp only [List.map_toArray, List.map_cons, List.map_nil]); first | done | rfl | (simp only [List.length_drop, List.length_take]; rfl)) ?_; (with_reducible refine (gongref23_Ack.calls kj2 t509 t513 t514 _ A10.out).mono ?_); rintro e w28 ⟨rfl, hb⟩; refine ⟨_, rfl, ?_⟩; have n0_ := Aside0.mk (J6.below (by repeat (first | (with_reducible first | exact HI508.out | apply J6.alloc | apply J6.drewN | apply J6.drew | apply J6.set_0 | apply J6.set_1 | apply J6.set_2) | exact HI508.out)) hb); have n1_ := Aside0.mk (bT_ (by repeat (first | (with_reducible first | exact HB.out | apply bA_ | apply bN_ | apply bD_ | refine bS_ ?_ (J6.ge HI508.out)) | exact HB.out)) hb); clear HI508; clear HB; have HI508 := n0_; have HB := n1_; clear n0_ n1_; (try clear hb); (try clear hb2); (try clear hk); (try clear hi)))
      go_ret2
      exact ⟨by first | rfl | (simp [errW_none, errW_some] <;> rfl) | (simp [*, errW_none, errW_some] <;> rfl), by repeat (first | (with_reducible first | exact HB.out | apply bA_ | apply bN_ | apply bD_ | refine bS_ ?_ (J6.ge HI508.out)) | exact HB.out)⟩
    ·rw [if_neg c7] at H
     exact absurd H (by simp)
def gonglaw23_TicketReads.f (k : Nat) (a0 : ByteArray) : Option (Bool) := if (a0.size : Int) > 4000 then ((gonglaw23_works.f k).bind fun t519 => (some t519)) else ((ticket_Decode.f k a0).bind fun bt520 => ((gongref23_Decode.f k a0).bind fun bt535 => ((ticket_Acked.f k a0).bind fun bt550 => ((gongref23_Acked.f k a0).bind fun bt552 => (if (bt520.1 == bt535.1 && (bt520.2.1 == bt535.2.1 && ((bt520.2.2.1 == bt535.2.2.1 && ((bt520.2.2.2.1.toList == bt535.2.2.2.1.toList && (bt520.2.2.2.2.1.toList == bt535.2.2.2.2.1.toList && (bt520.2.2.2.2.2.1.toList == bt535.2.2.2.2.2.1.toList && (bt520.2.2.2.2.2.2.1 == bt535.2.2.2.2.2.2.1 && (bt520.2.2.2.2.2.2.2.1.toList == bt535.2.2.2.2.2.2.2.1.toList))))) && (bt520.2.2.2.2.2.2.2.2.1 == bt535.2.2.2.2.2.2.2.2.1 && (bt520.2.2.2.2.2.2.2.2.2.1 == bt535.2.2.2.2.2.2.2.2.2.1 && (bt520.2.2.2.2.2.2.2.2.2.2.1 == bt535.2.2.2.2.2.2.2.2.2.2.1 && (bt520.2.2.2.2.2.2.2.2.2.2.2.1 == bt535.2.2.2.2.2.2.2.2.2.2.2.1 && (bt520.2.2.2.2.2.2.2.2.2.2.2.2.1.toList == bt535.2.2.2.2.2.2.2.2.2.2.2.2.1.toList)))))))))) = true then (if bt520.2.2.2.2.2.2.2.2.2.2.2.2.2 = bt535.2.2.2.2.2.2.2.2.2.2.2.2.2 then (if bt550.1 = bt552.1 then (if bt550.2 = bt552.2 then ((gonglaw23_works.f k).bind fun t554 => (some t554)) else (some false)) else (some false)) else (some false)) else (some false))))))
set_option maxHeartbeats 8000000 in
set_option maxRecDepth 100000 in
theorem gonglaw23_TicketReads.calls (k : Nat) (a0 : ByteArray) (r : Bool) (w : World) (HT : Aside0 (TabW w)) (h : gonglaw23_TicketReads.f k a0 = some r) (hr_ : r = true := by rfl) :
  Calls Tryd.prog 4 #[.string a0] w fun e w' => e = .returned (.bool r) ∧ Below w.heap.size w w' := by
 have hu27 := Tryd.underlying27
 have HB := Aside0.mk (Below.refl w.heap.size w)
 have H : (if (a0.size : Int) > 4000 then ((gonglaw23_works.f k).bind fun t519 => (some t519)) else ((ticket_Decode.f k a0).bind fun bt520 => ((gongref23_Decode.f k a0).bind fun bt535 => ((ticket_Acked.f k a0).bind fun bt550 => ((gongref23_Acked.f k a0).bind fun bt552 => (if (bt520.1 == bt535.1 && (bt520.2.1 == bt535.2.1 && ((bt520.2.2.1 == bt535.2.2.1 && ((bt520.2.2.2.1.toList == bt535.2.2.2.1.toList && (bt520.2.2.2.2.1.toList == bt535.2.2.2.2.1.toList && (bt520.2.2.2.2.2.1.toList == bt535.2.2.2.2.2.1.toList && (bt520.2.2.2.2.2.2.1 == bt535.2.2.2.2.2.2.1 && (bt520.2.2.2.2.2.2.2.1.toList == bt535.2.2.2.2.2.2.2.1.toList))))) && (bt520.2.2.2.2.2.2.2.2.1 == bt535.2.2.2.2.2.2.2.2.1 && (bt520.2.2.2.2.2.2.2.2.2.1 == bt535.2.2.2.2.2.2.2.2.2.1 && (bt520.2.2.2.2.2.2.2.2.2.2.1 == bt535.2.2.2.2.2.2.2.2.2.2.1 && (bt520.2.2.2.2.2.2.2.2.2.2.2.1 == bt535.2.2.2.2.2.2.2.2.2.2.2.1 && (bt520.2.2.2.2.2.2.2.2.2.2.2.2.1.toList == bt535.2.2.2.2.2.2.2.2.2.2.2.2.1.toList)))))))))) = true then (if bt520.2.2.2.2.2.2.2.2.2.2.2.2.2 = bt535.2.2.2.2.2.2.2.2.2.2.2.2.2 then (if bt550.1 = bt552.1 then (if bt550.2 = bt552.2 then ((gonglaw23_works.f k).bind fun t554 => (some t554)) else (some false)) else (some false)) else (some false)) else (some false))))))) = some r := h
 clear h
 by_cases c2 : (a0.size : Int) > 4000
 ·rw [if_pos c2] at H
  have c2b0 : decide (4000 < (a0.size : Int)) = true := decide_eq_true c2
  have c2b1 : decide (4000 < a0.size) = true := decide_eq_true (by omega)
  clear c2
  replace H := Option.bind_eq_some_iff.mp H
  obtain ⟨t519, A30, H⟩ := H
  try dsimp only at H
  have A3 := Aside0.mk A30
  clear A30
  obtain rfl := Option.some.inj H
  go_enter Tryd.func4, Tryd.ntmps4
  go_wp2_with (first | ((with_reducible refine gC_ (f := 8) rfl ?_); refine goesL_ (some 14) rfl rfl Tryd.func8 (by kernel_rfl) rfl #[] rfl (by (try simp only [List.map_toArray, List.map_cons, List.map_nil]); first | done | rfl | (simp only [List.length_drop, List.length_take]; rfl)) ?_; (with_reducible refine (gonglaw23_works.calls k  t519 _ ⟨TabW.now HT.out (by repeat (first | (with_reducible first | exact HB.out | apply bA_ | apply bN_ | apply bD_) | exact HB.out))⟩ A3.out).mono ?_); rintro e w4 ⟨rfl, hb⟩; refine ⟨_, rfl, ?_⟩; have n0_ := Aside0.mk (bT_ (by repeat (first | (with_reducible first | exact HB.out | apply bA_ | apply bN_ | apply bD_) | exact HB.out)) hb); clear HB; have HB := n0_; clear n0_; (try clear hb); (try clear hb2); (try clear hk); (try clear hi)))
  go_ret
  exact ⟨by first | rfl | (simp [errW_none, errW_some] <;> rfl) | (simp [*, errW_none, errW_some] <;> rfl), by repeat (first | (with_reducible first | exact HB.out | apply bA_ | apply bN_ | apply bD_) | exact HB.out)⟩
 ·rw [if_neg c2] at H
  have c2b0 : decide (4000 < (a0.size : Int)) = false := decide_eq_false c2
  have c2b1 : decide (4000 < a0.size) = false := decide_eq_false (by omega)
  clear c2
  replace H := Option.bind_eq_some_iff.mp H
  obtain ⟨⟨t520, t521, t522, t523, t524, t525, t526, t527, t528, t529, t530, t531, t532, t533⟩, A50, H⟩ := H
  try dsimp only at H
  have A5 := Aside0.mk A50
  clear A50
  replace H := Option.bind_eq_some_iff.mp H
  obtain ⟨⟨t535, t536, t537, t538, t539, t540, t541, t542, t543, t544, t545, t546, t547, t548⟩, A60, H⟩ := H
  try dsimp only at H
  have A6 := Aside0.mk A60
  clear A60
  replace H := Option.bind_eq_some_iff.mp H
  obtain ⟨⟨t550, t551⟩, A70, H⟩ := H
  try dsimp only at H
  have A7 := Aside0.mk A70
  clear A70
  replace H := Option.bind_eq_some_iff.mp H
  obtain ⟨⟨t552, t553⟩, A80, H⟩ := H
  try dsimp only at H
  have A8 := Aside0.mk A80
  clear A80
  by_cases c9 : (t520 == t535 && (t521 == t536 && ((t522 == t537 && ((t523.toList == t538.toList && (t524.toList == t539.toList && (t525.toList == t540.toList && (t526 == t541 && (t527.toList == t542.toList))))) && (t528 == t543 && (t529 == t544 && (t530 == t545 && (t531 == t546 && (t532.toList == t547.toList)))))))))) = true
  ·rw [if_pos c9] at H
   have c9b0 : (t520 == t535 && (t521 == t536 && ((t522 == t537 && ((t523.toList == t538.toList && (t524.toList == t539.toList && (t525.toList == t540.toList && (t526 == t541 && (t527.toList == t542.toList))))) && (t528 == t543 && (t529 == t544 && (t530 == t545 && (t531 == t546 && (t532.toList == t547.toList)))))))))) = true := c9
   (try (have c9b1 : decide (t520 = t535 && (t521 == t536 && ((t522 == t537 && ((t523.toList == t538.toList && (t524.toList == t539.toList && (t525.toList == t540.toList && (t526 == t541 && (t527.toList == t542.toList))))) && (t528 == t543 && (t529 == t544 && (t530 == t545 && (t531 == t546 && (t532.toList == t547.toList)))))))))) = true := by simpa using c9))
   (try (have c9b2 : (t520 == t535 && (t521 == t536 && ((t522 == t537 && ((t523.toList == t538.toList && (t524.toList == t539.toList && (t525.toList == t540.toList && (t526 == t541 && (t527.toList == t542.toList))))) && (t528 == t543 && (t529 == t544 && (t530 == t545 && (t531 == t546 && (t532.toList == t547.toList)))))))))) = true := by simpa using c9))
   clear c9
   by_cases c10 : t533 = t548
   ·rw [if_pos c10] at H
    have c10b0 : (t533 == t548) = true := beq_iff_eq.mpr c10
    have c10b1 : (t533 != t548) = false := bne_eq_false_iff_eq.mpr c10
    clear c10
    by_cases c11 : t550 = t552
    ·rw [if_pos c11] at H
     have c11b0 : (t550 == t552) = true := beq_iff_eq.mpr c11
     have c11b1 : (t550 != t552) = false := bne_eq_false_iff_eq.mpr c11
     clear c11
     by_cases c12 : t551 = t553
     ·rw [if_pos c12] at H
      have c12b0 : (t551 == t553) = true := beq_iff_eq.mpr c12
      have c12b1 : (t551 != t553) = false := bne_eq_false_iff_eq.mpr c12
      clear c12
      replace H := Option.bind_eq_some_iff.mp H
      obtain ⟨t554, A130, H⟩ := H
      try dsimp only at H
      have A13 := Aside0.mk A130
      clear A130
      obtain rfl := Option.some.inj H
      go_enter Tryd.func4, Tryd.ntmps4
      go_wp2_with (first | ((with_reducible refine gC_ (f := 17) rfl ?_); refine goesL_ (some 17) rfl rfl Tryd.func17 (by kernel_rfl) rfl #[.string a0] rfl (by (try simp only [List.map_toArray, List.map_cons, List.map_nil]); first | done | rfl | (simp only [List.length_drop, List.length_take]; rfl)) ?_; (with_reducible refine (ticket_Decode.calls k a0 t520 t521 t522 t523 t524 t525 t526 t527 t528 t529 t530 t531 t532 t533 _ ⟨TabW.now HT.out (by repeat (first | (with_reducible first | exact HB.out | apply bA_ | apply bN_ | apply bD_) | exact HB.out))⟩ A5.out).mono ?_); rintro e w14 ⟨rfl, hb⟩; refine ⟨_, rfl, ?_⟩; have n0_ := Aside0.mk (bT_ (by repeat (first | (with_reducible first | exact HB.out | apply bA_ | apply bN_ | apply bD_) | exact HB.out)) hb); clear HB; have HB := n0_; clear n0_; (try clear hb); (try clear hb2); (try clear hk); (try clear hi)) | ((with_reducible refine gD_ (N := 3) rfl ?_); refine gB_ ?hg (N := 3) ?hd (cs := #[.int .i64 0, .int .i64 0, .int .i64 0, .string (⟨#[]⟩ : ByteArray), .string (⟨#[]⟩ : ByteArray), .string (⟨#[]⟩ : ByteArray), .int .i64 0, .string (⟨#[]⟩ : ByteArray), .int .i64 0, .int .i64 0, .int .i64 0, .bool false, .string (⟨#[]⟩ : ByteArray)]) (t := 27) ?hr ?_; (case hd => rfl); (case hg => rfl); (case hr => first | (go_simp; done) | (go_simp; rfl)); intro gb534 hg w15 hbox hb; have n0_ := Aside0.mk (bT_ (by repeat (first | (with_reducible first | exact HB.out | apply bA_ | apply bN_ | apply bD_) | exact HB.out)) hb); have n1_ := Aside0.mk (hbox); have n2_ := Aside0.mk ((by rw [hg]; exact (bZ_ (by repeat (first | (with_reducible first | exact HB.out | apply bA_ | apply bN_ | apply bD_) | exact HB.out))) : w.heap.size ≤ gb534)); have n3_ := Aside0.mk ((by rw [hg]; exact (bZ_ (by repeat (first | (with_reducible first | exact HB.out | apply bA_ | apply bN_ | apply bD_) | exact HB.out))) : w.heap.size ≤ gb534)); clear HB; have HB := n0_; have BK534 := n1_; have GW534 := n2_; have GE534 := n3_; clear n0_ n1_ n2_ n3_; clear hb hbox hg; obtain ⟨_,_,_,_,_,_,_,_,_,_,_,_,_⟩ := cell13 BK534.out; obtain ⟨_,_,_,_,_,_,_,_,_,_,_,_,_⟩ := froz13 BK534.out) | ((with_reducible refine gC_ (f := 18) rfl ?_); refine goesL_ (some 22) rfl rfl Tryd.func18 (by kernel_rfl) rfl #[.string a0] rfl (by (try simp only [List.map_toArray, List.map_cons, List.map_nil]); first | done | rfl | (simp only [List.length_drop, List.length_take]; rfl)) ?_; (with_reducible refine (gongref23_Decode.calls k a0 t535 t536 t537 t538 t539 t540 t541 t542 t543 t544 t545 t546 t547 t548 _ A6.out).mono ?_); rintro e w17 ⟨rfl, hb⟩; refine ⟨_, rfl, ?_⟩; have n0_ := Aside0.mk (kB_ (g := gb534) (o := .cells #[.int .i64 t520, .int .i64 t521, .int .i64 t522, .string t523, .string t524, .string t525, .int .i64 t526, .string t527, .int .i64 t528, .int .i64 t529, .int .i64 t530, .bool t531, .string t532] 27 (0, 0)) (by (with_reducible repeat (first | refine kN_ ?_ _ | refine kD_ ?_ | refine kA_ ?_ _)); refine blk_p13_0_12 (show _ = some (Obj.cells #[.int .i64 0, .int .i64 0, .int .i64 0, .string (⟨#[]⟩ : ByteArray), .string (⟨#[]⟩ : ByteArray), .string (⟨#[]⟩ : ByteArray), .int .i64 0, .string (⟨#[]⟩ : ByteArray), .int .i64 0, .int .i64 0, .int .i64 0, .bool false, .string (⟨#[]⟩ : ByteArray)] _ (0, 0)) from ?_); (with_reducible repeat (first | refine kN_ ?_ _ | refine kD_ ?_ | refine kA_ ?_ _)); exact BK534.out) hb); have n1_ := Aside0.mk (bT_ (by repeat (first | (with_reducible first | exact HB.out | apply bA_ | apply bN_ | apply bD_ | refine bS_ ?_ GE534.out) | exact HB.out)) hb); clear BK534; clear HB; have BK534 := n0_; have HB := n1_; clear n0_ n1_; (try clear hb); (try clear hb2); (try clear hk); (try clear hi)) | ((with_reducible refine gD_ (N := 5) rfl ?_); refine gB_ ?hg (N := 5) ?hd (cs := #[.int .i64 0, .int .i64 0, .int .i64 0, .string (⟨#[]⟩ : ByteArray), .string (⟨#[]⟩ : ByteArray), .string (⟨#[]⟩ : ByteArray), .int .i64 0, .string (⟨#[]⟩ : ByteArray), .int .i64 0, .int .i64 0, .int .i64 0, .bool false, .string (⟨#[]⟩ : ByteArray)]) (t := 27) ?hr ?_; (case hd => rfl); (case hg => rfl); (case hr => first | (go_simp; done) | (go_simp; rfl)); intro gb549 hg w18 hbox hb; have n0_ := Aside0.mk (kB_ (g := gb534) (o := .cells #[.int .i64 t520, .int .i64 t521, .int .i64 t522, .string t523, .string t524, .string t525, .int .i64 t526, .string t527, .int .i64 t528, .int .i64 t529, .int .i64 t530, .bool t531, .string t532] 27 (0, 0)) (by (with_reducible repeat (first | refine kN_ ?_ _ | refine kD_ ?_ | refine kA_ ?_ _)); exact BK534.out) hb); have n1_ := Aside0.mk (bT_ (by repeat (first | (with_reducible first | exact HB.out | apply bA_ | apply bN_ | apply bD_ | refine bS_ ?_ GE534.out) | exact HB.out)) hb); have n2_ := Aside0.mk (hbox); have n3_ := Aside0.mk ((by rw [hg]; exact (bZ_ (by repeat (first | (with_reducible first | exact HB.out | apply bA_ | apply bN_ | apply bD_ | refine bS_ ?_ GE534.out) | exact HB.out))) : w.heap.size ≤ gb549)); have n4_ := Aside0.mk ((by rw [hg]; exact (bZ_ (by repeat (first | (with_reducible first | exact HB.out | apply bA_ | apply bN_ | apply bD_ | refine bS_ ?_ GE534.out) | exact HB.out))) : w.heap.size ≤ gb549)); have n5_ := Aside0.mk ((by rw [hg]; exact Nat.ne_of_lt (blk_lt (g := gb534) (o := .cells #[.int .i64 t520, .int .i64 t521, .int .i64 t522, .string t523, .string t524, .string t525, .int .i64 t526, .string t527, .int .i64 t528, .int .i64 t529, .int .i64 t530, .bool t531, .string t532] 27 (0, 0)) (by (with_reducible repeat (first | refine kN_ ?_ _ | refine kD_ ?_ | refine kA_ ?_ _)); exact BK534.out)) : gb534 ≠ gb549)); have n6_ := Aside0.mk ((by rw [hg]; exact Nat.ne_of_gt (blk_lt (g := gb534) (o := .cells #[.int .i64 t520, .int .i64 t521, .int .i64 t522, .string t523, .string t524, .string t525, .int .i64 t526, .string t527, .int .i64 t528, .int .i64 t529, .int .i64 t530, .bool t531, .string t532] 27 (0, 0)) (by (with_reducible repeat (first | refine kN_ ?_ _ | refine kD_ ?_ | refine kA_ ?_ _)); exact BK534.out)) : gb549 ≠ gb534)); clear BK534; clear HB; have BK534 := n0_; have HB := n1_; have BK549 := n2_; have GW549 := n3_; have GE549 := n4_; have NB534_549 := n5_; have NB549_534 := n6_; clear n0_ n1_ n2_ n3_ n4_ n5_ n6_; clear hb hbox hg; have hnb19 := NB549_534.out; have hnc19 := NB534_549.out; obtain ⟨_,_,_,_,_,_,_,_,_,_,_,_,_⟩ := cell13 BK549.out; obtain ⟨_,_,_,_,_,_,_,_,_,_,_,_,_⟩ := froz13 BK549.out) | ((with_reducible refine gC_ (f := 19) rfl ?_); refine goesL_ (some 27) rfl rfl Tryd.func19 (by kernel_rfl) rfl #[.string a0] rfl (by (try simp only [List.map_toArray, List.map_cons, List.map_nil]); first | done | rfl | (simp only [List.length_drop, List.length_take]; rfl)) ?_; (with_reducible refine (ticket_Acked.calls k a0 t550 t551 _ ⟨TabW.now HT.out (by repeat (first | (with_reducible first | exact HB.out | apply bA_ | apply bN_ | apply bD_ | refine bS_ ?_ GE534.out | refine bS_ ?_ GE549.out) | exact HB.out))⟩ A7.out).mono ?_); rintro e w21 ⟨rfl, hb⟩; refine ⟨_, rfl, ?_⟩; have n0_ := Aside0.mk (kB_ (g := gb534) (o := .cells #[.int .i64 t520, .int .i64 t521, .int .i64 t522, .string t523, .string t524, .string t525, .int .i64 t526, .string t527, .int .i64 t528, .int .i64 t529, .int .i64 t530, .bool t531, .string t532] 27 (0, 0)) (by (with_reducible repeat (first | refine kN_ ?_ _ | refine kD_ ?_ | refine kA_ ?_ _)); refine kF_ ?_ NB534_549.out _; (with_reducible repeat (first | refine kN_ ?_ _ | refine kD_ ?_ | refine kA_ ?_ _)); refine kF_ ?_ NB534_549.out _; (with_reducible repeat (first | refine kN_ ?_ _ | refine kD_ ?_ | refine kA_ ?_ _)); refine kF_ ?_ NB534_549.out _; (with_reducible repeat (first | refine kN_ ?_ _ | refine kD_ ?_ | refine kA_ ?_ _)); refine kF_ ?_ NB534_549.out _; (with_reducible repeat (first | refine kN_ ?_ _ | refine kD_ ?_ | refine kA_ ?_ _)); refine kF_ ?_ NB534_549.out _; (with_reducible repeat (first | refine kN_ ?_ _ | refine kD_ ?_ | refine kA_ ?_ _)); refine kF_ ?_ NB534_549.out _; (with_reducible repeat (first | refine kN_ ?_ _ | refine kD_ ?_ | refine kA_ ?_ _)); refine kF_ ?_ NB534_549.out _; (with_reducible repeat (first | refine kN_ ?_ _ | refine kD_ ?_ | refine kA_ ?_ _)); refine kF_ ?_ NB534_549.out _; (with_reducible repeat (first | refine kN_ ?_ _ | refine kD_ ?_ | refine kA_ ?_ _)); refine kF_ ?_ NB534_549.out _; (with_reducible repeat (first | refine kN_ ?_ _ | refine kD_ ?_ | refine kA_ ?_ _)); refine kF_ ?_ NB534_549.out _; (with_reducible repeat (first | refine kN_ ?_ _ | refine kD_ ?_ | refine kA_ ?_ _)); refine kF_ ?_ NB534_549.out _; (with_reducible repeat (first | refine kN_ ?_ _ | refine kD_ ?_ | refine kA_ ?_ _)); refine kF_ ?_ NB534_549.out _; (with_reducible repeat (first | refine kN_ ?_ _ | refine kD_ ?_ | refine kA_ ?_ _)); refine kF_ ?_ NB534_549.out _; (with_reducible repeat (first | refine kN_ ?_ _ | refine kD_ ?_ | refine kA_ ?_ _)); exact BK534.out) hb); have n1_ := Aside0.mk (kB_ (g := gb549) (o := .cells #[.int .i64 t535, .int .i64 t536, .int .i64 t537, .string t538, .string t539, .string t540, .int .i64 t541, .string t542, .int .i64 t543, .int .i64 t544, .int .i64 t545, .bool t546, .string t547] 27 (0, 0)) (by (with_reducible repeat (first | refine kN_ ?_ _ | refine kD_ ?_ | refine kA_ ?_ _)); refine blk_p13_0_12 (show _ = some (Obj.cells #[.int .i64 0, .int .i64 0, .int .i64 0, .string (⟨#[]⟩ : ByteArray), .string (⟨#[]⟩ : ByteArray), .string (⟨#[]⟩ : ByteArray), .int .i64 0, .string (⟨#[]⟩ : ByteArray), .int .i64 0, .int .i64 0, .int .i64 0, .bool false, .string (⟨#[]⟩ : ByteArray)] _ (0, 0)) from ?_); (with_reducible repeat (first | refine kN_ ?_ _ | refine kD_ ?_ | refine kA_ ?_ _)); exact BK549.out) hb); have n2_ := Aside0.mk (bT_ (by repeat (first | (with_reducible first | exact HB.out | apply bA_ | apply bN_ | apply bD_ | refine bS_ ?_ GE534.out | refine bS_ ?_ GE549.out) | exact HB.out)) hb); clear BK534; clear BK549; clear HB; have BK534 := n0_; have BK549 := n1_; have HB := n2_; clear n0_ n1_ n2_; (try clear hb); (try clear hb2); (try clear hk); (try clear hi)) | ((with_reducible refine gC_ (f := 20) rfl ?_); refine goesL_ (some 32) rfl rfl Tryd.func20 (by kernel_rfl) rfl #[.string a0] rfl (by (try simp only [List.map_toArray, List.map_cons, List.map_nil]); first | done | rfl | (simp only [List.length_drop, List.length_take]; rfl)) ?_; (with_reducible refine (gongref23_Acked.calls k a0 t552 t553 _ A8.out).mono ?_); rintro e w22 ⟨rfl, hb⟩; refine ⟨_, rfl, ?_⟩; have n0_ := Aside0.mk (kB_ (g := gb534) (o := .cells #[.int .i64 t520, .int .i64 t521, .int .i64 t522, .string t523, .string t524, .string t525, .int .i64 t526, .string t527, .int .i64 t528, .int .i64 t529, .int .i64 t530, .bool t531, .string t532] 27 (0, 0)) (by (with_reducible repeat (first | refine kN_ ?_ _ | refine kD_ ?_ | refine kA_ ?_ _)); exact BK534.out) hb); have n1_ := Aside0.mk (kB_ (g := gb549) (o := .cells #[.int .i64 t535, .int .i64 t536, .int .i64 t537, .string t538, .string t539, .string t540, .int .i64 t541, .string t542, .int .i64 t543, .int .i64 t544, .int .i64 t545, .bool t546, .string t547] 27 (0, 0)) (by (with_reducible repeat (first | refine kN_ ?_ _ | refine kD_ ?_ | refine kA_ ?_ _)); exact BK549.out) hb); have n2_ := Aside0.mk (bT_ (by repeat (first | (with_reducible first | exact HB.out | apply bA_ | apply bN_ | apply bD_ | refine bS_ ?_ GE534.out | refine bS_ ?_ GE549.out) | exact HB.out)) hb); clear BK534; clear BK549; clear HB; have BK534 := n0_; have BK549 := n1_; have HB := n2_; clear n0_ n1_ n2_; (try clear hb); (try clear hb2); (try clear hk); (try clear hi); obtain ⟨_,_,_,_,_,_,_,_,_,_,_,_,_⟩ := cell13 BK534.out; obtain ⟨_,_,_,_,_,_,_,_,_,_,_,_,_⟩ := froz13 BK534.out; obtain ⟨_,_,_,_,_,_,_,_,_,_,_,_,_⟩ := cell13 BK549.out; obtain ⟨_,_,_,_,_,_,_,_,_,_,_,_,_⟩ := froz13 BK549.out) | (go_at_call 8; (with_reducible refine (gonglaw23_works.calls k  t554 _ ⟨TabW.now HT.out (by repeat (first | (with_reducible first | exact HB.out | apply bA_ | apply bN_ | apply bD_ | refine bS_ ?_ GE534.out | refine bS_ ?_ GE549.out) | exact HB.out))⟩ A13.out).mono ?_); rintro e w25 ⟨rfl, hb⟩; have n0_ := Aside0.mk (kB_ (g := gb534) (o := .cells #[.int .i64 t520, .int .i64 t521, .int .i64 t522, .string t523, .string t524, .string t525, .int .i64 t526, .string t527, .int .i64 t528, .int .i64 t529, .int .i64 t530, .bool t531, .string t532] 27 (0, 0)) (by (with_reducible repeat (first | refine kN_ ?_ _ | refine kD_ ?_ | refine kA_ ?_ _)); exact BK534.out) hb); have n1_ := Aside0.mk (kB_ (g := gb549) (o := .cells #[.int .i64 t535, .int .i64 t536, .int .i64 t537, .string t538, .string t539, .string t540, .int .i64 t541, .string t542, .int .i64 t543, .int .i64 t544, .int .i64 t545, .bool t546, .string t547] 27 (0, 0)) (by (with_reducible repeat (first | refine kN_ ?_ _ | refine kD_ ?_ | refine kA_ ?_ _)); exact BK549.out) hb); have n2_ := Aside0.mk (bT_ (by repeat (first | (with_reducible first | exact HB.out | apply bA_ | apply bN_ | apply bD_ | refine bS_ ?_ GE534.out | refine bS_ ?_ GE549.out) | exact HB.out)) hb); clear BK534; clear BK549; clear HB; have BK534 := n0_; have BK549 := n1_; have HB := n2_; clear n0_ n1_ n2_; (try clear hb); (try clear hb2); (try clear hk); (try clear hi)))
      go_ret
      exact ⟨by first | rfl | (simp [errW_none, errW_some] <;> rfl) | (simp [*, errW_none, errW_some] <;> rfl), by repeat (first | (with_reducible first | exact HB.out | apply bA_ | apply bN_ | apply bD_ | refine bS_ ?_ GE534.out | refine bS_ ?_ GE549.out) | exact HB.out)⟩
     ·rw [if_neg c12] at H
      exact absurd (Option.some.inj H) (by rw [hr_]; decide)
    ·rw [if_neg c11] at H
     exact absurd (Option.some.inj H) (by rw [hr_]; decide)
   ·rw [if_neg c10] at H
    exact absurd (Option.some.inj H) (by rw [hr_]; decide)
  ·rw [if_neg c9] at H
   exact absurd (Option.some.inj H) (by rw [hr_]; decide)
end Go.Proofs.YtipenplplmdclaaDoor.Px
end
section
namespace Go.Proofs.YtipenplplmdclaaDoor.Str
open Go Go.Proofs.YtipenplplmdclaaDoorW.PrintWords
theorem ext {s t : ByteArray} (h : s.data.toList = t.data.toList) : s = t := by
  cases s; cases t
  simp only at h
  congr
  exact Array.ext' h
theorem size_L (s : ByteArray) : s.size = s.data.toList.length := by simp
theorem toList_L (s : ByteArray) : s.toList = s.data.toList := ByteArray.toList_eq s
theorem app_L (s t : ByteArray) : (s ++ t).data.toList = s.data.toList ++ t.data.toList := by simp
theorem extract_L (s : ByteArray) (a b : Nat) : (s.extract a b).data.toList = (s.data.toList.take b).drop a := by
  simp [List.drop_take]
theorem pre_L (s : ByteArray) (b : Nat) : (s.extract 0 b).data.toList = s.data.toList.take b := by rw [extract_L]; simp
theorem post_L (s : ByteArray) (a : Nat) : (s.extract a s.size).data.toList = s.data.toList.drop a := by
  rw [extract_L, List.take_of_length_le (by simp)]
theorem nums_L (xs : List Int) : (strOfNums xs).data.toList = xs.map fun n => UInt8.ofNat n.toNat := strOfNums_data xs
theorem nums_size (xs : List Int) : (strOfNums xs).size = xs.length := strOfNums_size xs
def ofL (l : List UInt8) : ByteArray := ⟨l.toArray⟩
@[simp] theorem ofL_L (l : List UInt8) : (ofL l).data.toList = l := rfl
@[simp] theorem ofL_size (l : List UInt8) : (ofL l).size = l.length := by simp [size_L]
theorem ofL_of (s : ByteArray) : ofL s.data.toList = s := ext rfl
theorem bt_L {s : ByteArray} {i : Nat} (h : i < s.size) : bt s (i : Int) = ((s.data.toList.getD i 0).toNat : Int) := by
  unfold bt
  rw [dif_pos (by simpa using h)]
  simp [List.getD, h]
  rfl
theorem wrap64_id {x : Int} (h0 : -9223372036854775808 ≤ x) (h1 : x < 9223372036854775808) : Go.RowKit.wrap64 x = x := by
  unfold Go.RowKit.wrap64
  omega
theorem u8_nat (b : UInt8) : UInt8.ofNat ((b.toNat : Int)).toNat = b := by
  apply UInt8.toNat_inj.1
  have := b.toNat_lt
  simp
theorem map_u8 (l : List UInt8) : (l.map fun b => (b.toNat : Int)).map (fun n => UInt8.ofNat n.toNat) = l := by
  rw [List.map_map]
  conv => rhs; rw [← List.map_id l]
  apply List.map_congr_left
  intro b _
  exact u8_nat b
end Go.Proofs.YtipenplplmdclaaDoor.Str
end
section
namespace Go.Proofs.YtipenplplmdclaaDoor.Utf
open Go
def isC (c : Nat) : Prop := c ≤ 1114111 ∧ (c < 55296 ∨ 57343 < c)
instance (c : Nat) : Decidable (isC c) := by unfold isC; infer_instance
def encN (c : Nat) : List Nat :=
  if c < 128 then [c] else if c < 2048 then [192 + c / 64, 128 + c % 64]
  else if c < 65536 then [224 + c / 4096, 128 + c / 64 % 64, 128 + c % 64]
  else [240 + c / 262144, 128 + c / 4096 % 64, 128 + c / 64 % 64, 128 + c % 64]
def enc (c : Nat) : List UInt8 := (encN c).map UInt8.ofNat
def decN : List Nat → Option (Nat × Nat)
  | [] => none
  | a :: l =>
    if a < 128 then some (a, 1)
    else if a / 32 = 6 then (match l with
      | b :: _ => if b / 64 = 2 ∧ 128 ≤ a % 32 * 64 + b % 64 then some (a % 32 * 64 + b % 64, 2) else none
      | _ => none)
    else if a / 16 = 14 then (match l with
      | b :: c :: _ => if b / 64 = 2 ∧ c / 64 = 2 ∧ 2048 ≤ (a % 16 * 64 + b % 64) * 64 + c % 64 ∧ isC ((a % 16 * 64 + b % 64) * 64 + c % 64) then some ((a % 16 * 64 + b % 64) * 64 + c % 64, 3) else none
      | _ => none)
    else if a / 8 = 30 then (match l with
      | b :: c :: d :: _ => if b / 64 = 2 ∧ c / 64 = 2 ∧ d / 64 = 2 ∧ 65536 ≤ ((a % 8 * 64 + b % 64) * 64 + c % 64) * 64 + d % 64 ∧ isC (((a % 8 * 64 + b % 64) * 64 + c % 64) * 64 + d % 64) then some (((a % 8 * 64 + b % 64) * 64 + c % 64) * 64 + d % 64, 4) else none
      | _ => none)
    else none
def nat (l : List UInt8) : List Nat := l.map UInt8.toNat
def dec (l : List UInt8) : Option (Nat × Nat) := decN (nat l)
theorem nat_ofNat (l : List Nat) (h : ∀ x ∈ l, x < 256) : nat (l.map UInt8.ofNat) = l := by
  unfold nat
  rw [List.map_map]
  conv => rhs; rw [← List.map_id l]
  apply List.map_congr_left
  intro x hx
  have := h x hx
  simp
  omega
theorem encN_small (c : Nat) (h : isC c) : ∀ x ∈ encN c, x < 256 := by
  unfold isC at h
  unfold encN
  intro x hx
  split at hx
  · simp at hx; omega
  · split at hx
    · simp at hx; omega
    · split at hx
      · simp at hx; omega
      · simp at hx; omega
theorem nat_enc (c : Nat) (h : isC c) : nat (enc c) = encN c := nat_ofNat _ (encN_small c h)
theorem enc_length (c : Nat) : (enc c).length = (encN c).length := by simp [enc]
theorem encN_length (c : Nat) : 1 ≤ (encN c).length ∧ (encN c).length ≤ 4 := by
  unfold encN
  split
  · simp
  · split
    · simp
    · split <;> simp
theorem enc_len (c : Nat) : 1 ≤ (enc c).length ∧ (enc c).length ≤ 4 := by rw [enc_length]; exact encN_length c
theorem decN_enc (c : Nat) (h : isC c) (r : List Nat) : decN (encN c ++ r) = some (c, (encN c).length) := by
  have h' := h
  unfold isC at h'
  unfold encN
  by_cases h1 : c < 128
  · rw [if_pos h1]
    simp only [List.cons_append, decN, if_pos h1, List.length_cons, List.length_nil]
  · rw [if_neg h1]
    by_cases h2 : c < 2048
    · rw [if_pos h2]
      have e : (192 + c / 64) % 32 * 64 + (128 + c % 64) % 64 = c := by omega
      simp only [List.cons_append, List.nil_append, decN, List.length_cons, List.length_nil, e]
      rw [if_neg (by omega), if_pos (by omega), if_pos (by omega)]
    · rw [if_neg h2]
      by_cases h3 : c < 65536
      · rw [if_pos h3]
        have e : ((224 + c / 4096) % 16 * 64 + (128 + c / 64 % 64) % 64) * 64 + (128 + c % 64) % 64 = c := by omega
        simp only [List.cons_append, List.nil_append, decN, List.length_cons, List.length_nil, e]
        rw [if_neg (by omega), if_neg (by omega), if_pos (by omega), if_pos ⟨by omega, by omega, by omega, h⟩]
      · rw [if_neg h3]
        have e : (((240 + c / 262144) % 8 * 64 + (128 + c / 4096 % 64) % 64) * 64 + (128 + c / 64 % 64) % 64) * 64 + (128 + c % 64) % 64 = c := by omega
        simp only [List.cons_append, List.nil_append, decN, List.length_cons, List.length_nil, e]
        rw [if_neg (by omega), if_neg (by omega), if_neg (by omega), if_pos (by omega), if_pos ⟨by omega, by omega, by omega, by omega, h⟩]
theorem decN_inv (l : List Nat) (hl : ∀ x ∈ l, x < 256) {c n : Nat} (h : decN l = some (c, n)) : isC c ∧ n = (encN c).length ∧ l.take n = encN c := by
  cases l with
  | nil => cases h
  | cons a l =>
    have ha := hl a (by simp)
    simp only [decN] at h
    by_cases h1 : a < 128
    · rw [if_pos h1] at h
      cases h
      refine ⟨⟨by omega, by omega⟩, ?_, ?_⟩
      · unfold encN; rw [if_pos h1]; rfl
      · unfold encN; rw [if_pos h1]; rfl
    · rw [if_neg h1] at h
      by_cases h2 : a / 32 = 6
      · rw [if_pos h2] at h
        cases l with
        | nil => cases h
        | cons b l =>
          have hb := hl b (by simp)
          simp only at h
          split at h
          · rename_i hc
            cases h
            have e : encN (a % 32 * 64 + b % 64) = [a, b] := by
              unfold encN
              rw [if_neg (by omega), if_pos (by omega)]
              congr 1
              · omega
              · congr 1; omega
            rw [e]
            exact ⟨⟨by omega, by omega⟩, rfl, rfl⟩
          · cases h
      · rw [if_neg h2] at h
        by_cases h3 : a / 16 = 14
        · rw [if_pos h3] at h
          match l, h with
          | b :: d :: l, h =>
            have hb := hl b (by simp)
            have hd := hl d (by simp)
            simp only at h
            split at h
            · rename_i hc
              cases h
              have e : encN ((a % 16 * 64 + b % 64) * 64 + d % 64) = [a, b, d] := by
                unfold encN
                rw [if_neg (by omega), if_neg (by omega), if_pos (by omega)]
                congr 1
                · omega
                · congr 1
                  · omega
                  · congr 1; omega
              rw [e]
              exact ⟨hc.2.2.2, rfl, rfl⟩
            · cases h
        · rw [if_neg h3] at h
          by_cases h4 : a / 8 = 30
          · rw [if_pos h4] at h
            match l, h with
            | b :: d :: f :: l, h =>
              have hb := hl b (by simp)
              have hd := hl d (by simp)
              have hf := hl f (by simp)
              simp only at h
              split at h
              · rename_i hc
                cases h
                have e : encN (((a % 8 * 64 + b % 64) * 64 + d % 64) * 64 + f % 64) = [a, b, d, f] := by
                  unfold encN
                  rw [if_neg (by omega), if_neg (by omega), if_neg (by omega)]
                  congr 1
                  · omega
                  · congr 1
                    · omega
                    · congr 1
                      · omega
                      · congr 1; omega
                rw [e]
                exact ⟨hc.2.2.2.2, rfl, rfl⟩
              · cases h
          · rw [if_neg h4] at h
            cases h
theorem nat_small (l : List UInt8) : ∀ x ∈ nat l, x < 256 := by
  intro x hx
  unfold nat at hx
  rw [List.mem_map] at hx
  obtain ⟨b, _, rfl⟩ := hx
  exact b.toNat_lt
theorem nat_app (a b : List UInt8) : nat (a ++ b) = nat a ++ nat b := by simp [nat]
theorem nat_inj {a b : List UInt8} (h : nat a = nat b) : a = b := by
  unfold nat at h
  exact (List.map_inj_right (fun _ _ => UInt8.toNat_inj.1)).1 h
theorem dec_enc (c : Nat) (h : isC c) (r : List UInt8) : dec (enc c ++ r) = some (c, (enc c).length) := by
  unfold dec
  rw [nat_app, nat_enc c h, decN_enc c h, enc_length]
theorem dec_inv {l : List UInt8} {c n : Nat} (h : dec l = some (c, n)) : isC c ∧ n = (enc c).length ∧ l = enc c ++ l.drop n := by
  obtain ⟨h1, h2, h3⟩ := decN_inv (nat l) (nat_small l) h
  refine ⟨h1, by rw [enc_length]; exact h2, ?_⟩
  have e : l.take n = enc c := by
    apply nat_inj
    rw [nat_enc c h1, ← h3]
    simp [nat, List.map_take]
  rw [← e, List.take_append_drop]
theorem dec_le {l : List UInt8} {c n : Nat} (h : dec l = some (c, n)) : 1 ≤ n ∧ n ≤ 4 ∧ n ≤ l.length := by
  obtain ⟨_, h2, h3⟩ := dec_inv h
  have := enc_len c
  have h4 := congrArg List.length h3
  rw [List.length_append] at h4
  omega
def chs (l : List UInt8) : Option (List Nat) :=
  match h : dec l with
  | none => if l = [] then some [] else none
  | some (c, n) => (chs (l.drop n)).map (c :: ·)
termination_by l.length
decreasing_by
  have := dec_le h
  rw [List.length_drop]
  omega
theorem chs_nil : chs [] = some [] := by
  rw [chs]
  split
  · rfl
  · rename_i h
    cases h
theorem chs_none {l : List UInt8} (h : dec l = none) (hl : l ≠ []) : chs l = none := by
  rw [chs]
  split
  · rw [if_neg hl]
  · rename_i h'
    rw [h] at h'
    cases h'
theorem chs_some {l : List UInt8} {c n : Nat} (h : dec l = some (c, n)) : chs l = (chs (l.drop n)).map (c :: ·) := by
  rw [chs]
  split
  · rename_i h'
    rw [h] at h'
    cases h'
  · rename_i c' n' h'
    rw [h] at h'
    cases h'
    rfl
def encs (cs : List Nat) : List UInt8 := cs.flatMap enc
theorem encs_cons (c : Nat) (cs : List Nat) : encs (c :: cs) = enc c ++ encs cs := by simp [encs]
theorem chs_cons (c : Nat) (h : isC c) (r : List UInt8) : chs (enc c ++ r) = (chs r).map (c :: ·) := by
  rw [chs_some (dec_enc c h r), List.drop_left]
theorem chs_encs (cs : List Nat) (h : ∀ c ∈ cs, isC c) (r : List UInt8) : chs (encs cs ++ r) = (chs r).map (cs ++ ·) := by
  induction cs with
  | nil => cases hr : chs r <;> simp [encs, hr]
  | cons c cs ih =>
    rw [encs_cons, List.append_assoc, chs_cons c (h c (by simp)), ih (fun x hx => h x (by simp [hx]))]
    cases chs r <;> simp
theorem chs_all (cs : List Nat) (h : ∀ c ∈ cs, isC c) : chs (encs cs) = some cs := by
  have := chs_encs cs h []
  rw [List.append_nil, chs_nil] at this
  simpa using this
theorem chs_inv (n : Nat) : ∀ (l : List UInt8) (cs : List Nat), l.length ≤ n → chs l = some cs → (∀ c ∈ cs, isC c) ∧ l = encs cs := by
  induction n with
  | zero =>
    intro l cs hl h
    obtain rfl : l = [] := List.length_eq_zero_iff.mp (by omega)
    rw [chs_nil] at h
    cases h
    exact ⟨by simp, rfl⟩
  | succ n ih =>
    intro l cs hl h
    cases hd : dec l with
    | none =>
      by_cases h0 : l = []
      · subst h0
        rw [chs_nil] at h
        cases h
        exact ⟨by simp, rfl⟩
      · rw [chs_none hd h0] at h
        cases h
    | some x =>
      obtain ⟨c, k⟩ := x
      have hk := dec_le hd
      obtain ⟨i1, i2, i3⟩ := dec_inv hd
      rw [chs_some hd] at h
      cases hr : chs (l.drop k) with
      | none => rw [hr] at h; cases h
      | some ds =>
        rw [hr] at h
        cases h
        obtain ⟨j1, j2⟩ := ih (l.drop k) ds (by rw [List.length_drop]; omega) hr
        refine ⟨fun x hx => ?_, ?_⟩
        · rw [List.mem_cons] at hx
          rcases hx with rfl | hx
          · exact i1
          · exact j1 x hx
        · rw [encs_cons, ← j2]
          exact i3
theorem chs_iff {l : List UInt8} {cs : List Nat} : chs l = some cs ↔ (∀ c ∈ cs, isC c) ∧ l = encs cs :=
  ⟨chs_inv l.length l cs (Nat.le_refl _), fun ⟨h, e⟩ => by rw [e]; exact chs_all cs h⟩
theorem chs_length {l : List UInt8} {cs : List Nat} (h : chs l = some cs) : cs.length ≤ l.length := by
  obtain ⟨h1, e⟩ := chs_iff.1 h
  rw [e]
  clear h e h1
  induction cs with
  | nil => simp [encs]
  | cons c cs ih => rw [encs_cons, List.length_append]; have := enc_len c; simp; omega
def cont (b : UInt8) : Prop := b.toNat / 64 = 2
instance (b : UInt8) : Decidable (cont b) := by unfold cont; infer_instance
end Go.Proofs.YtipenplplmdclaaDoor.Utf
end
section
namespace Go.Proofs.YtipenplplmdclaaDoor.Utf
open Go
theorem enc_ascii (c : Nat) (h : c < 128) : enc c = [UInt8.ofNat c] := by
  unfold enc encN
  rw [if_pos h]
  rfl
theorem enc_u8 (b : UInt8) (h : b.toNat < 128) : enc b.toNat = [b] := by
  rw [enc_ascii _ h]
  congr 1
  simp
def calm (c : Nat) : Prop := 32 ≤ c ∧ c ≠ 127
instance (c : Nat) : Decidable (calm c) := by unfold calm; infer_instance
end Go.Proofs.YtipenplplmdclaaDoor.Utf
end
section
namespace Go.Proofs.YtipenplplmdclaaDoor.Utf
open Go Go.RowKit Go.Proofs.YtipenplplmdclaaDoor.Px Go.Proofs.YtipenplplmdclaaDoorW.PrintWords Go.Proofs.YtipenplplmdclaaDoor.Str
theorem is_f (c : Nat) : utf_is.f (c : Int) = some (decide (isC c)) := by
  unfold utf_is.f
  rw [if_pos (by omega)]
  by_cases h1 : c ≤ 1114111
  · rw [if_pos (by omega)]
    by_cases h2 : c < 55296
    · rw [if_pos (by omega), decide_eq_true (show isC c from ⟨h1, .inl h2⟩)]
    · rw [if_neg (by omega)]
      congr 1
      rw [Bool.eq_iff_iff, decide_eq_true_eq, decide_eq_true_eq]
      unfold isC
      omega
  · rw [if_neg (by omega), decide_eq_false (fun z : isC c => h1 z.1)]
theorem f63 : ∀ b : Fin 256, Go.bits .and .u8 (b.val : Int) 63 = ((b.val % 64 : Nat) : Int) := by decide +kernel
theorem f31 : ∀ b : Fin 256, Go.bits .and .u8 (b.val : Int) 31 = ((b.val % 32 : Nat) : Int) := by decide +kernel
theorem f15 : ∀ b : Fin 256, Go.bits .and .u8 (b.val : Int) 15 = ((b.val % 16 : Nat) : Int) := by decide +kernel
theorem f7 : ∀ b : Fin 256, Go.bits .and .u8 (b.val : Int) 7 = ((b.val % 8 : Nat) : Int) := by decide +kernel
theorem or_i64 (x y : Nat) (hx : x % 64 = 0) (hx1 : x < 4611686018427387904) (hy : y < 64) : Go.bits .or .i64 (x : Int) (y : Int) = ((x + y : Nat) : Int) := by
  rw [bits_join .i64 63 (by decide) (fun n h0 h1 => by rw [IntKind.wrap_i64]; omega) 6 (x : Int) (y : Int) (by omega) (by omega) (by omega) (by omega) (by omega) (by omega)]
  omega
def at_ (s : ByteArray) (i : Nat) : Nat := (s.data.toList.getD i 0).toNat
theorem at_lt (s : ByteArray) (i : Nat) : at_ s i < 256 := (s.data.toList.getD i 0).toNat_lt
theorem bt_at {s : ByteArray} {i : Nat} (h : i < s.size) : bt s (i : Int) = (at_ s i : Int) := bt_L h
theorem first_step (s : ByteArray) (k c n i : Nat) (hc : c < 2097152) (hi : i < n) (hs : i < s.size) (hi8 : i < 8) :
    utf_First.l0 (k + 1) s (c : Int) (n : Int) (i : Int) = if at_ s i / 64 = 2 then utf_First.l0 k s ((c * 64 + at_ s i % 64 : Nat) : Int) (n : Int) ((i + 1 : Nat) : Int) else some (0, 0, 40) := by
  have hb := at_lt s i
  simp only [utf_First.l0]
  rw [if_pos (by omega), if_pos (by omega), if_pos (by omega), bt_at hs]
  have e := f63 ⟨at_ s i, hb⟩
  simp only at e
  rw [e, wrap64_id (x := (c : Int) * 64) (by omega) (by omega), wrap64_id (x := ((at_ s i % 64 : Nat) : Int)) (by omega) (by omega), show (c : Int) * 64 = ((c * 64 : Nat) : Int) by omega,
    or_i64 (c * 64) (at_ s i % 64) (by omega) (by omega) (by omega), wrap64_id (by omega) (by omega)]
  by_cases h : at_ s i / 64 = 2
  · rw [if_pos (by omega), if_pos h]
    rfl
  · rw [if_neg (by omega), if_neg h]
def lst (n : Nat) : Nat := if n = 2 then 128 else if n = 3 then 2048 else if n = 4 then 65536 else 0
theorem first_end (s : ByteArray) (k c n : Nat) : utf_First.l0 (k + 1) s (c : Int) (n : Int) (n : Int) = some (if isC c ∧ lst n ≤ c then ((c : Int), (n : Int), (0 : Int)) else (0, 0, 40)) := by
  simp only [utf_First.l0]
  rw [if_neg (by omega), is_f]
  simp only [Option.bind_some, decide_eq_true_eq]
  by_cases h : isC c
  · rw [if_pos h]
    have hl : utf_least.f (n : Int) = some ((lst n : Nat) : Int) := by
      unfold utf_least.f lst
      by_cases h2 : n = 2
      · rw [if_pos (by omega), if_pos h2]; rfl
      · rw [if_neg (by omega), if_neg h2]
        by_cases h3 : n = 3
        · rw [if_pos (by omega), if_pos h3]; rfl
        · rw [if_neg (by omega), if_neg h3]
          by_cases h4 : n = 4
          · rw [if_pos (by omega), if_pos h4]; rfl
          · rw [if_neg (by omega), if_neg h4]; rfl
    rw [hl]
    simp only [Option.bind_some]
    by_cases hc : lst n ≤ c
    · rw [if_neg (by omega), if_pos ⟨h, hc⟩]
    · rw [if_pos (by omega), if_neg (fun z => hc z.2)]
  · rw [if_neg h, if_neg (fun z => h z.1)]
def decR (l : List UInt8) : Int × Int × Int := match dec l with | some (c, n) => ((c : Int), (n : Int), 0) | none => (0, 0, 40)
theorem decR_some {l : List UInt8} {c n : Nat} (h : dec l = some (c, n)) : decR l = ((c : Int), (n : Int), 0) := by unfold decR; rw [h]
theorem decR_none {l : List UInt8} (h : dec l = none) : decR l = (0, 0, 40) := by unfold decR; rw [h]
theorem first_k (s : ByteArray) (k : Nat) : utf_First.f (k + 5) s = some (decR s.data.toList) := by
  unfold utf_First.f
  rw [toList_L]
  cases hl : s.data.toList with
  | nil => rw [if_pos rfl]; rfl
  | cons a l =>
    have hsz : s.size = l.length + 1 := by rw [size_L, hl]; rfl
    have ha : at_ s 0 = a.toNat := by unfold at_; rw [hl]; rfl
    have hal := a.toNat_lt
    have hb0 : bt s 0 = (a.toNat : Int) := by
      have := bt_at (s := s) (i := 0) (by omega)
      rw [ha] at this
      exact this
    rw [if_neg (by simp), if_pos (by omega), hb0]
    unfold utf_long.f
    have gen : ∀ (n c : Nat), n ≠ 0 → (if (n : Int) = 0 then utf_First.j0 (k + 5) s (c : Int) (n : Int) true else utf_First.j0 (k + 5) s (c : Int) (n : Int) (decide ((n : Int) > (s.size : Int)))) = if n ≤ s.size then utf_First.l0 (k + 4) s (c : Int) (n : Int) ((1 : Nat) : Int) else some (0, 0, 40) := by
      intro n c h0
      rw [if_neg (by omega)]
      simp only [utf_First.j0, decide_eq_true_eq]
      by_cases h : n ≤ s.size
      · rw [if_neg (by omega), if_pos h]; rfl
      · rw [if_pos (by omega), if_neg h]
    have fl : ∀ m : Nat, m < 256 → wrap64 (m : Int) = (m : Int) := fun m hm => wrap64_id (by omega) (by omega)
    have na : nat (a :: l) = a.toNat :: nat l := rfl
    by_cases h1 : a.toNat < 128
    · rw [if_pos (by omega), fl _ hal]
      simp only [Option.bind_some]
      have g := gen 1 a.toNat (by decide)
      rw [show ((1 : Nat) : Int) = 1 from rfl] at g
      rw [g, if_pos (by omega)]
      have e := first_end s (k + 3) a.toNat 1
      rw [show ((1 : Nat) : Int) = 1 from rfl] at e
      rw [e, if_pos ⟨⟨by omega, by omega⟩, by show 0 ≤ _; omega⟩]
      unfold decR dec
      rw [na]
      simp only [decN, if_pos h1]
      rfl
    · rw [if_neg (by omega)]
      by_cases h2 : a.toNat / 32 = 6
      · have e31 := f31 ⟨a.toNat, hal⟩
        simp only at e31
        rw [if_pos (by omega), e31, fl _ (by omega)]
        simp only [Option.bind_some]
        have g := gen 2 (a.toNat % 32) (by decide)
        rw [show ((2 : Nat) : Int) = 2 from rfl] at g
        rw [g]
        cases l with
        | nil =>
          rw [if_neg (by simp at hsz; omega)]
          unfold decR dec
          rw [na]
          simp only [decN, if_neg h1, if_pos h2, nat, List.map_nil]
        | cons b l =>
          have hb : at_ s 1 = b.toNat := by unfold at_; rw [hl]; rfl
          have hbl := b.toNat_lt
          have st := first_step s (k + 3) (a.toNat % 32) 2 1 (by omega) (by decide) (by simp at hsz; omega) (by decide)
          have en := first_end s (k + 2) (a.toNat % 32 * 64 + b.toNat % 64) 2
          rw [show ((2 : Nat) : Int) = 2 from rfl] at st en
          rw [if_pos (by simp at hsz; omega), st, hb]
          unfold decR dec
          rw [na]
          simp only [decN, if_neg h1, if_pos h2, nat, List.map_cons]
          by_cases c1 : b.toNat / 64 = 2
          · rw [if_pos c1, en]
            by_cases c2 : lst 2 ≤ a.toNat % 32 * 64 + b.toNat % 64
            · rw [if_pos ⟨⟨by omega, by omega⟩, c2⟩, if_pos ⟨c1, c2⟩]
              rfl
            · rw [if_neg (fun z => c2 z.2), if_neg (fun z => c2 z.2)]
          · rw [if_neg c1, if_neg (fun z => c1 z.1)]
      · rw [if_neg (by omega)]
        by_cases h3 : a.toNat / 16 = 14
        · have e15 := f15 ⟨a.toNat, hal⟩
          simp only at e15
          rw [if_pos (by omega), e15, fl _ (by omega)]
          simp only [Option.bind_some]
          have g := gen 3 (a.toNat % 16) (by decide)
          rw [show ((3 : Nat) : Int) = 3 from rfl] at g
          rw [g]
          match l, hl, hsz, na with
          | [], hl, hsz, na =>
            rw [if_neg (by simp at hsz; omega)]
            unfold decR dec
            rw [na]
            simp only [decN, if_neg h1, if_neg h2, if_pos h3, nat, List.map_nil]
          | [b], hl, hsz, na =>
            rw [if_neg (by simp at hsz; omega)]
            unfold decR dec
            rw [na]
            simp only [decN, if_neg h1, if_neg h2, if_pos h3, nat, List.map_cons, List.map_nil]
          | b :: d :: l, hl, hsz, na =>
            have hb : at_ s 1 = b.toNat := by unfold at_; rw [hl]; rfl
            have hd : at_ s 2 = d.toNat := by unfold at_; rw [hl]; rfl
            have hbl := b.toNat_lt
            have hdl := d.toNat_lt
            simp only [List.length_cons] at hsz
            have s1 := first_step s (k + 3) (a.toNat % 16) 3 1 (by omega) (by decide) (by omega) (by decide)
            have s2 := first_step s (k + 2) (a.toNat % 16 * 64 + b.toNat % 64) 3 2 (by omega) (by decide) (by omega) (by decide)
            have en := first_end s (k + 1) ((a.toNat % 16 * 64 + b.toNat % 64) * 64 + d.toNat % 64) 3
            rw [show ((3 : Nat) : Int) = 3 from rfl] at s1 s2 en
            rw [if_pos (by omega), s1, hb]
            unfold decR dec
            rw [na]
            simp only [decN, if_neg h1, if_neg h2, if_pos h3, nat, List.map_cons]
            by_cases c1 : b.toNat / 64 = 2
            · rw [if_pos c1, show (1 + 1 : Nat) = 2 from rfl, s2, hd]
              by_cases c2 : d.toNat / 64 = 2
              · rw [if_pos c2, en]
                by_cases c3 : isC ((a.toNat % 16 * 64 + b.toNat % 64) * 64 + d.toNat % 64) ∧ lst 3 ≤ (a.toNat % 16 * 64 + b.toNat % 64) * 64 + d.toNat % 64
                · rw [if_pos c3, if_pos ⟨c1, c2, c3.2, c3.1⟩]
                  rfl
                · rw [if_neg c3, if_neg (fun z => c3 ⟨z.2.2.2, z.2.2.1⟩)]
              · rw [if_neg c2, if_neg (fun z => c2 z.2.1)]
            · rw [if_neg c1, if_neg (fun z => c1 z.1)]
        · rw [if_neg (by omega)]
          by_cases h4 : a.toNat / 8 = 30
          · have e7 := f7 ⟨a.toNat, hal⟩
            simp only at e7
            rw [if_pos (by omega), e7, fl _ (by omega)]
            simp only [Option.bind_some]
            have g := gen 4 (a.toNat % 8) (by decide)
            rw [show ((4 : Nat) : Int) = 4 from rfl] at g
            rw [g]
            match l, hl, hsz, na with
            | [], hl, hsz, na =>
              rw [if_neg (by simp at hsz; omega)]
              unfold decR dec
              rw [na]
              simp only [decN, if_neg h1, if_neg h2, if_neg h3, if_pos h4, nat, List.map_nil]
            | [b], hl, hsz, na =>
              rw [if_neg (by simp at hsz; omega)]
              unfold decR dec
              rw [na]
              simp only [decN, if_neg h1, if_neg h2, if_neg h3, if_pos h4, nat, List.map_cons, List.map_nil]
            | [b, d], hl, hsz, na =>
              rw [if_neg (by simp at hsz; omega)]
              unfold decR dec
              rw [na]
              simp only [decN, if_neg h1, if_neg h2, if_neg h3, if_pos h4, nat, List.map_cons, List.map_nil]
            | b :: d :: f :: l, hl, hsz, na =>
              have hb : at_ s 1 = b.toNat := by unfold at_; rw [hl]; rfl
              have hd : at_ s 2 = d.toNat := by unfold at_; rw [hl]; rfl
              have hf : at_ s 3 = f.toNat := by unfold at_; rw [hl]; rfl
              have hbl := b.toNat_lt
              have hdl := d.toNat_lt
              have hfl := f.toNat_lt
              simp only [List.length_cons] at hsz
              have s1 := first_step s (k + 3) (a.toNat % 8) 4 1 (by omega) (by decide) (by omega) (by decide)
              have s2 := first_step s (k + 2) (a.toNat % 8 * 64 + b.toNat % 64) 4 2 (by omega) (by decide) (by omega) (by decide)
              have s3 := first_step s (k + 1) ((a.toNat % 8 * 64 + b.toNat % 64) * 64 + d.toNat % 64) 4 3 (by omega) (by decide) (by omega) (by decide)
              have en := first_end s k (((a.toNat % 8 * 64 + b.toNat % 64) * 64 + d.toNat % 64) * 64 + f.toNat % 64) 4
              rw [show ((4 : Nat) : Int) = 4 from rfl] at s1 s2 s3 en
              rw [if_pos (by omega), s1, hb]
              unfold decR dec
              rw [na]
              simp only [decN, if_neg h1, if_neg h2, if_neg h3, if_pos h4, nat, List.map_cons]
              by_cases c1 : b.toNat / 64 = 2
              · rw [if_pos c1, show (1 + 1 : Nat) = 2 from rfl, s2, hd]
                by_cases c2 : d.toNat / 64 = 2
                · rw [if_pos c2, show (2 + 1 : Nat) = 3 from rfl, s3, hf]
                  by_cases c4 : f.toNat / 64 = 2
                  · rw [if_pos c4, en]
                    by_cases c3 : isC (((a.toNat % 8 * 64 + b.toNat % 64) * 64 + d.toNat % 64) * 64 + f.toNat % 64) ∧ lst 4 ≤ ((a.toNat % 8 * 64 + b.toNat % 64) * 64 + d.toNat % 64) * 64 + f.toNat % 64
                    · rw [if_pos c3, if_pos ⟨c1, c2, c4, c3.2, c3.1⟩]
                      rfl
                    · rw [if_neg c3, if_neg (fun z => c3 ⟨z.2.2.2.2, z.2.2.2.1⟩)]
                  · rw [if_neg c4, if_neg (fun z => c4 z.2.2.1)]
                · rw [if_neg c2, if_neg (fun z => c2 z.2.1)]
              · rw [if_neg c1, if_neg (fun z => c1 z.1)]
          · rw [if_neg (by omega)]
            simp only [Option.bind_some, if_true, utf_First.j0]
            unfold decR dec
            rw [na]
            simp only [decN, if_neg h1, if_neg h2, if_neg h3, if_neg h4]
theorem first_ev (s : ByteArray) : Ev (fun k => utf_First.f k s) (decR s.data.toList) :=
  ⟨5, fun k hk => by obtain ⟨j, rfl⟩ : ∃ j, k = j + 5 := ⟨k - 5, by omega⟩; exact first_k s j⟩
def ints (cs : List Nat) : List Int := cs.map fun c : Nat => (c : Int)
def chsR (acc : List Int) (l : List UInt8) : List Int × Int := match chs l with | some cs => (acc ++ ints cs, 0) | none => ([], 40)
theorem chsR_some {acc : List Int} {l : List UInt8} {cs : List Nat} (h : chs l = some cs) : chsR acc l = (acc ++ ints cs, 0) := by unfold chsR; rw [h]
theorem chsR_none {acc : List Int} {l : List UInt8} (h : chs l = none) : chsR acc l = ([], 40) := by unfold chsR; rw [h]
theorem chsR_step {acc : List Int} {l : List UInt8} {c n : Nat} (h : dec l = some (c, n)) : chsR acc l = chsR (acc ++ [(c : Int)]) (l.drop n) := by
  cases hr : chs (l.drop n) with
  | none => rw [chsR_none hr, chsR_none (by rw [chs_some h, hr]; rfl)]
  | some cs => rw [chsR_some hr, chsR_some (cs := c :: cs) (by rw [chs_some h, hr]; rfl)]; simp [ints]
theorem chars_l0 (n : Nat) : ∀ (s : ByteArray) (acc : List Int), s.size ≤ n → acc.length + s.size ≤ 1073741824 → Ev (fun k => utf_Chars.l0 k s acc) (chsR acc s.data.toList) := by
  induction n with
  | zero =>
    intro s acc hs _
    have h0 : s.data.toList = [] := List.length_eq_zero_iff.mp (by rw [← size_L]; omega)
    rw [h0, chsR_some chs_nil]
    refine Ev.step (f := fun _ => some _) (fun k => ?_) (Ev.now _)
    simp only [utf_Chars.l0]
    rw [if_pos (by rw [toList_L, h0])]
    simp [ints]
  | succ n ih =>
    intro s acc hs ha
    by_cases h0 : s.data.toList = []
    · rw [h0, chsR_some chs_nil]
      refine Ev.step (f := fun _ => some _) (fun k => ?_) (Ev.now _)
      simp only [utf_Chars.l0]
      rw [if_pos (by rw [toList_L, h0])]
      simp [ints]
    · cases hd : dec s.data.toList with
      | none =>
        rw [chsR_none (chs_none hd h0)]
        refine Ev.step (f := fun k => (utf_First.f k s).bind fun _ => some (([] : List Int), (40 : Int))) (fun k => ?_) (Ev.bind (first_ev s) (Ev.now _))
        simp only [utf_Chars.l0]
        rw [if_neg (by rw [toList_L]; exact h0)]
        cases hf : utf_First.f k s with
        | none => rfl
        | some x =>
          have h5 := at_rounds (g := fun k => utf_First.f k s) (fun k => utf_First.mono s k) (show k ≤ k + 5 by omega) hf
          rw [first_k, decR_none hd] at h5
          cases h5
          rfl
      | some x =>
        obtain ⟨c, m⟩ := x
        have hm := dec_le hd
        rw [← size_L] at hm
        rw [chsR_step hd]
        have h := ih (s.extract m s.size) (acc ++ [(c : Int)]) (by rw [size_L, post_L, List.length_drop, ← size_L]; omega) (by rw [size_L, post_L, List.length_drop, ← size_L, List.length_append]; simp; omega)
        rw [post_L] at h
        refine Ev.step (f := fun k => (utf_First.f k s).bind fun b => if b.2.2 = 0 then (if acc.length < 17592186044416 then (if 0 ≤ b.2.1 then (if b.2.1 ≤ (s.size : Int) then (utf_Chars.l0 k (s.extract (b.2.1 : Int).toNat s.size) (acc ++ [b.1])) else none) else none) else none) else some (([] : List Int), b.2.2)) (fun k => ?_) ?_
        · simp only [utf_Chars.l0]
          rw [if_neg (by rw [toList_L]; exact h0)]
        · refine Ev.bind (first_ev s) ?_
          rw [decR_some hd]
          refine Ev.congr (fun k => ?_) h
          simp only [if_true]
          rw [if_pos (by omega), if_pos (by omega), if_pos (by omega), Int.toNat_natCast]
theorem chars_ev (s : ByteArray) (hs : s.size ≤ 1073741824) : Ev (fun k => utf_Chars.f k s) (chsR [] s.data.toList) := by
  unfold utf_Chars.f
  exact chars_l0 s.size s [] (Nat.le_refl _) (by simpa using hs)
end Go.Proofs.YtipenplplmdclaaDoor.Utf
end
