/- The statement OctetWrites over whole numbers and lists alone: groups, wide numbers and long texts are the document's. -/
import Derived.Test.YtbeegnajghkhoaaPx11
import Derived.Test.YtbeegnajghkhoaaPx3
import Derived.Test.YtbeegnajghkhoaaPx5
import Derived.Test.YtbeegnajghkhoaaPx8
import Derived.Test.YtbeegnajghkhoaaPx10
import Derived.Test.YtbeegnajghkhoaaOctR
namespace Go.Proofs.Ytbeegnajghkhoaa.OctF
open Go Go.RowKit Go.Proofs.Ytbeegnajghkhoaa.Px Go.Proofs.YtbeegnajghkhoaaW.PrintWords Go.Proofs.Ytbeegnajghkhoaa.Str

theorem works_f : gonglaw01_works.f = some true := by
  unfold gonglaw01_works.f
  rw [show (300 : Int) = ((300 : Nat) : Int) from rfl, show (3 : Int) = ((3 : Nat) : Int) from rfl, groups_ok 300 (by decide), wide_ok 300 3 (by decide) (by decide) (by decide)]
  simp only [Option.bind_some, toList_L, ofL_L]
  have e1 : grp 300 = [130, 44] := by
    unfold grp
    rw [hi_pos (by decide), show 300 / 128 / 128 = 0 by decide, hi_zero]
    decide
  have e2 : be 3 300 = [0, 1, 44] := by decide
  rw [if_pos (show 300 < 256 ^ 3 by decide)]
  simp only [ofL_L, e1, e2]
  rfl
theorem ref_Groups_ev (x : Int) (h : x ≤ 9223372036854775807) : ∃ r, octet_Groups.f x = some r ∧ Ev (fun k => gongref01_Groups.f k x) r := by
  unfold gongref01_Groups.f
  by_cases h0 : x < 0
  · exact ⟨_, groups_no x h0, Ev.congr (fun k => by rw [if_pos h0]) (Ev.now _)⟩
  · obtain ⟨n, rfl⟩ : ∃ n : Nat, x = n := ⟨x.toNat, by omega⟩
    refine ⟨_, groups_ok n (by omega), Ev.congr (f := fun k => (gongref01_Grouped.f k (n : Int)).bind fun t => some (t, 0)) (fun k => by rw [if_neg h0]) ?_⟩
    exact Ev.bind (ref_Grouped_ev n (by omega)) (Ev.now _)
theorem ref_Wide_ev (x y : Int) (h : x ≤ 9223372036854775807) : ∃ r, octet_Wide.f x y = some r ∧ Ev (fun k => gongref01_Wide.f k x y) r := by
  have hno : Ev (fun k => gongref01_Wide.j0 k x y true) ((⟨#[]⟩ : ByteArray), (1 : Int)) := Ev.step (f := fun _ => some _) (fun k => by simp only [gongref01_Wide.j0]; rw [if_pos trivial]) (Ev.now _)
  unfold gongref01_Wide.f
  by_cases h1 : y < 1
  · refine ⟨(⟨#[]⟩, 1), ?_, Ev.congr (fun k => by rw [if_pos h1]) hno⟩
    unfold octet_Wide.f
    rw [if_pos h1]
  by_cases h2 : y > 8
  · refine ⟨(⟨#[]⟩, 1), ?_, Ev.congr (fun k => by rw [if_neg h1, if_pos h2]) hno⟩
    unfold octet_Wide.f
    rw [if_neg h1, if_pos (by omega)]
  by_cases h3 : x < 0
  · refine ⟨(⟨#[]⟩, 1), ?_, Ev.congr (fun k => by rw [if_neg h1, if_neg h2, decide_eq_true h3]) hno⟩
    unfold octet_Wide.f
    rw [if_neg h1, if_neg (by omega), if_pos h3]
  obtain ⟨n, rfl⟩ : ∃ n : Nat, x = n := ⟨x.toNat, by omega⟩
  obtain ⟨w, rfl⟩ : ∃ w : Nat, y = w := ⟨y.toNat, by omega⟩
  refine ⟨_, wide_ok n w (by omega) (by omega) (by omega), Ev.congr (f := fun k => gongref01_Wide.j0 k (n : Int) (w : Int) false) (fun k => by rw [if_neg h1, if_neg h2, decide_eq_false h3]) ?_⟩
  refine Ev.step (f := fun k => (gongref01_Padded.f k (n : Int) (w : Int)).bind fun t => (gongref01_Number.f k t).bind fun q => if q.1 = (n : Int) then some (t, 0) else some (⟨#[]⟩, 1)) (fun k => ?_) ?_
  · simp only [gongref01_Wide.j0]
    rw [if_neg (by decide)]
  · refine Ev.bind (ref_Padded_ev n w (by omega) (by omega)) ?_
    refine Ev.bind (ref_Number_ev (ofL (be w n)) (by rw [ofL_size, be_length]; omega)) ?_
    rw [ofL_L, val_be]
    have hm : n % 256 ^ w ≤ n := Nat.mod_le _ _
    have hlt : n % 256 ^ w < 9223372036854775808 := by omega
    simp only [if_pos hlt]
    refine Ev.congr (f := fun _ => some _) (fun k => ?_) (Ev.now _)
    by_cases hb : n < 256 ^ w
    · rw [if_pos hb, if_pos (by rw [Nat.mod_eq_of_lt hb])]
    · have : n % 256 ^ w < 256 ^ w := Nat.mod_lt _ (Nat.pow_pos (by decide))
      rw [if_neg hb, if_neg (by omega)]
theorem ref_Text_ev (s : ByteArray) (h : s.size ≤ 1073741824) : Ev (fun k => gongref01_Text.f k s) (ofL (grp s.size ++ s.data.toList)) := by
  unfold gongref01_Text.f
  refine Ev.bind (ref_Grouped_ev s.size (by omega)) ?_
  have := grp_length s.size (by omega)
  refine Ev.congr (f := fun _ => some _) (fun k => ?_) (Ev.now _)
  rw [ofL_size, if_pos (by omega)]
  congr 1
end Go.Proofs.Ytbeegnajghkhoaa.OctF
namespace Go.Proofs.Ytbeegnajghkhoaa.Pure
open Go Go.RowKit Go.Proofs.Ytbeegnajghkhoaa.Px Go.Proofs.YtbeegnajghkhoaaW.PrintWords Go.Proofs.Ytbeegnajghkhoaa.Str Go.Proofs.Ytbeegnajghkhoaa.OctF
theorem OctetWrites : gonglaw01_OctetWrites.Pure := by
  intro x y s hx _ hs
  have hx := wf_i64 hx
  apply Ev.rounds
  unfold gonglaw01_OctetWrites.f
  by_cases h7 : (s.size : Int) > 70000
  · refine Ev.congr (f := fun _ => some true) (fun k => ?_) (Ev.now _)
    rw [if_pos h7, works_f]
    rfl
  · simp only [if_neg h7]
    obtain ⟨r, hr, hr'⟩ := ref_Groups_ev x hx.2
    obtain ⟨q, hq, hq'⟩ := ref_Wide_ev x y hx.2
    rw [hr]
    simp only [Option.bind_some]
    refine Ev.bind hr' ?_
    rw [hq]
    simp only [Option.bind_some]
    refine Ev.bind hq' ?_
    rw [text_ok s (by omega)]
    simp only [if_true, Option.bind_some]
    refine Ev.bind (ref_Text_ev s (by omega)) ?_
    refine Ev.congr (f := fun _ => some true) (fun k => ?_) (Ev.now _)
    rw [works_f]
    simp
end Go.Proofs.Ytbeegnajghkhoaa.Pure
