/- The statement OctetOne over whole numbers and lists alone: what is read as groups is written as it stood, and no number's groups begin another's. -/
import Derived.Test.YtbeegnajghkhoaaPx18
import Derived.Test.YtbeegnajghkhoaaPureOctetWrites
import Derived.Test.YtbeegnajghkhoaaOctB
namespace Go.Proofs.Ytbeegnajghkhoaa.OctF
open Go Go.RowKit Go.Proofs.Ytbeegnajghkhoaa.Px Go.Proofs.YtbeegnajghkhoaaW.PrintWords Go.Proofs.Ytbeegnajghkhoaa.Str
theorem and63 (x : Int) : Go.bits .and .i64 x 9223372036854775807 = x % 9223372036854775808 := by
  unfold Go.bits
  rw [IntKind.wrap_i64]
  have h : (BitVec.ofInt IntKind.i64.bits x &&& BitVec.ofInt IntKind.i64.bits 9223372036854775807).toNat = (x % 9223372036854775808).toNat := by
    rw [BitVec.toNat_and]
    show (BitVec.ofInt 64 x).toNat &&& (2 ^ 63 - 1) = (x % 9223372036854775808).toNat
    rw [Nat.and_two_pow_sub_one_eq_mod, BitVec.toNat_ofInt]
    omega
  show (((BitVec.ofInt IntKind.i64.bits x &&& BitVec.ofInt IntKind.i64.bits 9223372036854775807).toNat : Int) + 9223372036854775808) % 18446744073709551616 - 9223372036854775808 = _
  rw [h]
  omega
theorem and63_nat (x : Int) : ∃ n : Nat, Go.bits .and .i64 x 9223372036854775807 = (n : Int) ∧ n < 9223372036854775808 :=
  ⟨(x % 9223372036854775808).toNat, by rw [and63]; omega, by omega⟩
theorem rGroups_ev (s : ByteArray) (c most : Int) : Ev (fun k => octet_Reader_Groups.f k s c most) (if c = 0 then ((rdG most s.data.toList).1, ofL (s.data.toList.drop (rdG most s.data.toList).2.1.toNat), (rdG most s.data.toList).2.2) else (0, s, c)) :=
  ⟨19, fun k hk => rGroups s c most k hk⟩
/-- Neither begins the other. -/
theorem begins (x y : Int) : ((octet_Groups.f (Go.bits .and .i64 x 9223372036854775807)).bind fun b => (octet_Groups.f (Go.bits .and .i64 y 9223372036854775807)).bind fun c =>
    if (b.1.size : Int) ≤ (c.1.size : Int) then (if 0 ≤ (b.1.size : Int) then (if b.2 = 0 then (if c.2 = 0 then some (((c.1.extract 0 ((b.1.size : Int) : Int).toNat).toList == b.1.toList) == ((Go.bits .and .i64 x 9223372036854775807) == (Go.bits .and .i64 y 9223372036854775807))) else some false) else some false) else none)
    else (if b.2 = 0 then (if c.2 = 0 then some (false == ((Go.bits .and .i64 x 9223372036854775807) == (Go.bits .and .i64 y 9223372036854775807))) else some false) else some false)) = some true := by
  obtain ⟨n, hn, hn2⟩ := and63_nat x
  obtain ⟨m, hm, hm2⟩ := and63_nat y
  rw [hn, hm, groups_ok n hn2, groups_ok m hm2]
  simp only [Option.bind_some, ofL_size, if_true, Int.toNat_natCast, toList_L, pre_L, ofL_L]
  have hp := grp_prefix hn2 hm2
  by_cases hl : ((grp n).length : Int) ≤ ((grp m).length : Int)
  · rw [if_pos hl, if_pos (by omega)]
    congr 1
    by_cases e : n = m
    · rw [hp.2 e, e]
      simp
    · have h1 : ¬ (grp m).take (grp n).length = grp n := fun z => e (hp.1 z)
      have h2 : ¬ (n : Int) = (m : Int) := by omega
      rw [beq_eq_false_iff_ne.2 h1, beq_eq_false_iff_ne.2 h2]
      rfl
  · rw [if_neg hl]
    have h2 : ¬ (n : Int) = (m : Int) := by
      intro z
      have : n = m := by omega
      subst this
      omega
    rw [beq_eq_false_iff_ne.2 h2]
    rfl
end Go.Proofs.Ytbeegnajghkhoaa.OctF
namespace Go.Proofs.Ytbeegnajghkhoaa.Pure
open Go Go.RowKit Go.Proofs.Ytbeegnajghkhoaa.Px Go.Proofs.YtbeegnajghkhoaaW.PrintWords Go.Proofs.Ytbeegnajghkhoaa.Str Go.Proofs.Ytbeegnajghkhoaa.OctF
theorem OctetOne : gonglaw01_OctetOne.Pure := by
  intro s x y hs _ _
  apply Ev.rounds
  have hw : ∀ b, b = true → Ev (fun k => gonglaw01_OctetOne.j0 k s x y b) true := by
    rintro b rfl
    exact Ev.step (f := fun _ => some true) (fun k => by simp only [gonglaw01_OctetOne.j0]; rw [if_pos trivial, works_f]; rfl) (Ev.now _)
  have h1 : Ev (fun k => gonglaw01_OctetOne.j1 k x y false) true :=
    Ev.step (f := fun _ => some true) (fun k => by simp only [gonglaw01_OctetOne.j1]; rw [if_neg (by decide)]; exact begins x y) (Ev.now _)
  have h2 : Ev (fun k => gonglaw01_OctetOne.j2 k x y false) true :=
    Ev.step (f := fun _ => some true) (fun k => by simp only [gonglaw01_OctetOne.j2]; rw [if_neg (by decide)]; exact begins x y) (Ev.now _)
  refine Ev.congr (f := fun k => gonglaw01_OctetOne.j0 k s x y (decide ((s.size : Int) > 1000))) (fun k => by unfold gonglaw01_OctetOne.f; rw [works_f]; rfl) ?_
  by_cases hb : (s.size : Int) > 1000
  · exact hw _ (decide_eq_true hb)
  · rw [decide_eq_false hb]
    refine Ev.step (f := fun k => (octet_Reader_Groups.f k s 0 9223372036854775807).bind fun bt144 => (octet_Reader_Code.f bt144.2.1 bt144.2.2).bind fun bt147 => (if bt147.1 = 0 then ((octet_Groups.f bt144.1).bind fun bt150 => (if bt150.2 = 0 then ((octet_Reader_Left.f bt147.2.1 bt147.2.2).bind fun bt152 => (if 0 ≤ (wrap64 ((s.size : Int) - bt152.1)) then (if (wrap64 ((s.size : Int) - bt152.1)) ≤ (s.size : Int) then (gonglaw01_OctetOne.j1 k x y (bt150.1.toList != (s.extract 0 ((wrap64 ((s.size : Int) - bt152.1)) : Int).toNat).toList)) else (none)) else (none))) else (gonglaw01_OctetOne.j1 k x y true))) else (if bt144.1 = 0 then ((octet_Reader_Left.f bt147.2.1 bt147.2.2).bind fun bt159 => (gonglaw01_OctetOne.j2 k x y (bt159.1 != (s.size : Int)))) else (gonglaw01_OctetOne.j2 k x y true)))) (fun k => ?_) ?_
    · simp only [gonglaw01_OctetOne.j0]
      rw [if_neg (by decide)]
      rfl
    · refine Ev.bind (rGroups_ev s 0 9223372036854775807) ?_
      rw [if_pos rfl]
      simp only [octet_Reader_Code.f, octet_Reader_Left.f, Option.bind_some, ofL_size, List.length_drop]
      by_cases hc : (rdG 9223372036854775807 s.data.toList).2.2 = 0
      · simp only [if_pos hc]
        obtain ⟨m, j, e1, e2, e3, e4⟩ := rdG_inv _ _ hc
        have hm := (rdG_most 9223372036854775807 9 0 s.data.toList 0 (by decide) (by decide) (by decide)).2
        have hm' : (rdG 9223372036854775807 s.data.toList).1 < 9223372036854775808 := hm
        rw [e1] at hm'
        rw [e1, e2, groups_ok m (by omega)]
        simp only [Option.bind_some, if_true, Int.toNat_natCast]
        have hsz : s.data.toList.length = s.size := by simp
        rw [hsz] at e3 ⊢
        rw [wrap64_id (by omega) (by omega)]
        have c1 : 0 ≤ (s.size : Int) - ((s.size - j : Nat) : Int) := by omega
        have c2 : (s.size : Int) - ((s.size - j : Nat) : Int) ≤ (s.size : Int) := by omega
        simp only [if_pos c1, if_pos c2]
        have c3 : ((s.size : Int) - ((s.size - j : Nat) : Int)).toNat = j := by omega
        rw [c3, toList_L, toList_L, ofL_L, pre_L, e4, bne_self_eq_false]
        exact h1
      · obtain ⟨_, _, hl, _, _⟩ := rdG_long 9223372036854775807 s.data.toList
        obtain ⟨l1, l2⟩ := hl hc
        simp only [if_neg hc, l1, l2, if_true, Int.toNat_zero, Nat.sub_zero]
        have hsz : s.data.toList.length = s.size := by simp
        rw [hsz, bne_self_eq_false]
        exact h2
end Go.Proofs.Ytbeegnajghkhoaa.Pure
