/- UnitBack, as its pure statement. No conditions. -/
import Derived.Test.YtfpfilmdlconhaaGreatDoorXA25
import Derived.Test.YtfpfilmdlconhaaGreatDoorPAwake7
import Derived.Test.YtfpfilmdlconhaaGreatDoorPSort
namespace Go.Proofs.YtfpfilmdlconhaaGreatDoor.Pure
open Go.RowKit Go.Proofs.YtfpfilmdlconhaaGreatDoorW.PrintWords Go.Proofs.YtfpfilmdlconhaaGreatDoorW.PrintLast Go.Proofs.YtfpfilmdlconhaaGreatDoor.XA Go.Proofs.YtfpfilmdlconhaaGreatDoor.PInts
set_option linter.unusedVariables false
set_option linter.unusedSimpArgs false
theorem UnitBack : transposallaw07_UnitBack.Pure := by
  intro l0 a1 a2 h1 _ h2 h3 h4
  obtain ⟨u, S, ub, ul, _, u5⟩ := makeU_eq h1 h2
  obtain ⟨b1, b2⟩ := u16_wf h3
  obtain ⟨b3, b4⟩ := u16_wf h4
  obtain ⟨K, hK⟩ : ∃ K : Nat, 60000 + l0.length ≤ K := ⟨60000 + l0.length, Nat.le_refl _⟩
  refine ⟨K, ?_⟩
  obtain ⟨n, hn, n1, n2⟩ : ∃ n, n = IntKind.u16.wrap (10 + (Int.tmod a1 900)) ∧ 10 ≤ n ∧ n ≤ 909 := by
    refine ⟨_, rfl, ?_⟩
    rw [Int.tmod_eq_emod_of_nonneg b1]
    show 10 ≤ (10 + a1 % 900) % 65536 ∧ (10 + a1 % 900) % 65536 ≤ 909
    omega
  obtain ⟨m, hm, m1, m2⟩ : ∃ m, m = IntKind.u16.wrap (1 + (Int.tmod a2 900)) ∧ 1 ≤ m ∧ m ≤ 900 := by
    refine ⟨_, rfl, ?_⟩
    rw [Int.tmod_eq_emod_of_nonneg b3]
    show 1 ≤ (1 + a2 % 900) % 65536 ∧ (1 + a2 % 900) % 65536 ≤ 900
    omega
  unfold transposallaw07_UnitBack.f
  rw [awake7 K (by omega), ← hn, ← hm]
  simp only [Option.bind_some, if_true]
  obtain ⟨a, A, am, _, al, _, af⟩ := With_eq S n (by omega)
  obtain ⟨b, B, bm, _, bl, _, bf⟩ := With_eq S m (by omega)
  obtain ⟨c, C, cm, _, cl, _, cf⟩ := With_eq B m (by omega)
  obtain ⟨d, D, dm, _, dl, _, df⟩ := With_eq A m (by omega)
  obtain ⟨e, E, em, _, el, _, ef⟩ := With_eq B n (by omega)
  have h1 : a.filter (fun x => x != n) = u := SI.ext (A.filter _) S (fun x => by
    rw [List.mem_filter, am]
    constructor
    · rintro ⟨rfl | h, hx⟩
      · simp at hx
      · exact h
    · intro h
      have := ub x h
      refine ⟨.inr h, ?_⟩
      simp
      omega)
  have h2 : c = b := SI.ext C B (fun x => by
    rw [cm, bm]
    constructor
    · rintro (h | h)
      · exact .inl h
      · exact h
    · exact .inr)
  have h3 : d = e := SI.ext D E (fun x => by
    rw [dm, em, am, bm]
    constructor
    · rintro (h | h | h)
      · exact .inr (.inl h)
      · exact .inl h
      · exact .inr (.inr h)
    · rintro (h | h | h)
      · exact .inr (.inl h)
      · exact .inl h
      · exact .inr (.inr h))
  rw [u5 K (by omega)]
  simp only [Option.bind_some]
  rw [af K (by omega)]
  simp only [Option.bind_some]
  rw [WithoutU a n (by omega), h1]
  simp only [Option.bind_some]
  rw [eqU_eq _ _ (by omega) K (by omega), decide_eq_true rfl]
  simp only [Option.bind_some, if_true]
  rw [bf K (by omega)]
  simp only [Option.bind_some]
  rw [cf K (by omega), h2]
  simp only [Option.bind_some]
  rw [eqU_eq _ _ (by omega) K (by omega), decide_eq_true rfl]
  simp only [Option.bind_some, if_true]
  rw [checkU_ok B (by omega) (fun x hx => by
    rcases (bm x).1 hx with h | h
    · omega
    · have := ub x h
      omega) K (by omega)]
  simp only [Option.bind_some, if_true]
  rw [df K (by omega)]
  simp only [Option.bind_some]
  rw [ef K (by omega)]
  simp only [Option.bind_some]
  rw [eqU_eq _ _ (by omega) K (by omega), decide_eq_true h3]
  rfl
end Go.Proofs.YtfpfilmdlconhaaGreatDoor.Pure
