/- EntryChecks' statement without Go. No conditions. -/
import Derived.Test.YtddaogebacigbaaGreatDoorXA15
import Derived.Test.YtddaogebacigbaaGreatDoorPCheck9
namespace Go.Proofs.YtddaogebacigbaaGreatDoor.Pure
open Go.RowKit Go.Proofs.YtddaogebacigbaaGreatDoorW.PrintWords Go.Proofs.YtddaogebacigbaaGreatDoorW.PrintLast Go.Proofs.YtddaogebacigbaaGreatDoor.XA Go.Proofs.YtddaogebacigbaaGreatDoor.PInts Go.Proofs.YtddaogebacigbaaGreatDoor.PCal Go.Proofs.YtddaogebacigbaaGreatDoor.PLine Go.Proofs.YtddaogebacigbaaGreatDoor.PWide Go.Proofs.YtddaogebacigbaaGreatDoor.PCheck9
set_option linter.unusedVariables false
set_option linter.unusedSimpArgs false
theorem u16_of {n : Int} (h : 0 ≤ n ∧ n ≤ 65535) : (Lit.int .u16 n).wf = true := by
  simp [Lit.wf, IntKind.min, IntKind.max, IntKind.bits, IntKind.signed]
  omega
theorem u16_in {n : Int} (h : (Lit.int .u16 n).wf = true) : 0 ≤ n ∧ n ≤ 65535 := by
  simp [Lit.wf, IntKind.min, IntKind.max, IntKind.bits, IntKind.signed] at h
  exact h
theorem i64_wrap (n : Int) : (Lit.int .i64 (wrap64 n)).wf = true := by
  simp [Lit.wf, IntKind.min, IntKind.max, IntKind.bits, IntKind.signed]
  unfold wrap64
  omega
theorem wf_set {l : List TL} {i : Nat} {x : TL} (h : WfL l) (hx : (Lit.int .u16 x.f1).wf = true ∧ (Lit.int .i64 x.f3).wf = true) : WfL (l.set i x) := by
  intro y hy
  rcases List.mem_or_eq_of_mem_set hy with h1 | rfl
  · exact h y h1
  · exact hx
theorem wf_snoc {l : List TL} {x : TL} (h : WfL l) (hx : (Lit.int .u16 x.f1).wf = true ∧ (Lit.int .i64 x.f3).wf = true) : WfL (l ++ [x]) := by
  intro y hy
  rcases List.mem_append.1 hy with h1 | h1
  · exact h y h1
  · obtain rfl := List.mem_singleton.1 h1
    exact hx
theorem wf_rd {l : List TL} (h : WfL l) {i : Nat} (hi : i < l.length) : (Lit.int .u16 (rd_T28 l (i : Int)).f1).wf = true ∧ (Lit.int .i64 (rd_T28 l (i : Int)).f3).wf = true := by
  rw [rdl_get hi]
  exact h _ (List.getElem_mem hi)
theorem both (d : Int) (l : List TL) (hd : -2147483648 ≤ d ∧ d ≤ 2147483647) (hl : WfL l) (k : Nat) (hk : 30000 ≤ k) : ((entry_Journal_Check.f k d l).bind fun t => (transposallaw09_Check.f k d l).bind fun u => some (t == u)) = some true := by
  obtain ⟨p, h1, h2⟩ := checks_alike d l hd hl k hk
  rw [h1, h2]
  simp
theorem ec_j2 (d : Int) (l : List TL) (by_ : Int) (b : Bool) (hd : -2147483648 ≤ d ∧ d ≤ 2147483647) (hl : WfL l) (hb : b = true → 0 < l.length) (k : Nat) (hk : 30001 ≤ k) : transposallaw09_EntryChecks.j2 k d l by_ b = some true := by
  obtain ⟨k, rfl⟩ : ∃ k', k = k' + 1 := ⟨k - 1, by omega⟩
  simp only [transposallaw09_EntryChecks.j2]
  have hd2 : -2147483648 ≤ Int.tmod d 100000 ∧ Int.tmod d 100000 ≤ 2147483647 := by
    have := Int.tmod_lt_of_pos d (show (0 : Int) < 100000 by decide)
    have := Int.lt_tmod_of_pos d (show (0 : Int) < 100000 by decide)
    omega
  cases b with
  | false =>
    rw [if_neg (by decide)]
    exact both _ l hd2 hl k (by omega)
  | true =>
    have h0 := hb rfl
    rw [if_pos rfl, if_pos (by omega)]
    simp only [Option.bind_some]
    refine both _ _ hd2 ?_ k (by omega)
    exact wf_set hl ⟨(wf_rd hl (i := 0) h0).1, i64_wrap _⟩
theorem ec_l1 (d : Int) (by_ : Int) (m : List TL) (hd : -2147483648 ≤ d ∧ d ≤ 2147483647) (hm : WfL m) (hml : m.length ≤ 1000) : ∀ (q i : Nat) (l : List TL), q + i = m.length → WfL l → l.length ≤ 1000 + i → ∀ k, 30002 + q < k → transposallaw09_EntryChecks.l1 k d l by_ m (m.length : Int) (i : Int) = some true
  | 0, i, l, h, hl, hll, k, hk => by
    obtain ⟨k, rfl⟩ : ∃ k', k = k' + 1 := ⟨k - 1, by omega⟩
    simp only [transposallaw09_EntryChecks.l1]
    rw [if_neg (by omega)]
    by_cases h0 : (l.length : Int) > 0
    · rw [if_pos h0]
      exact ec_j2 d l by_ _ hd hl (fun _ => by omega) k (by omega)
    · rw [if_neg h0]
      exact ec_j2 d l by_ _ hd hl (fun h => absurd h Bool.false_ne_true) k (by omega)
  | q + 1, i, l, h, hl, hll, k, hk => by
    obtain ⟨k, rfl⟩ : ∃ k', k = k' + 1 := ⟨k - 1, by omega⟩
    have h1 : i < m.length := by omega
    simp only [transposallaw09_EntryChecks.l1]
    rw [if_pos (by omega), if_pos (by omega), if_pos (by omega), if_pos (by omega), w64 (x := (i : Int) + 1) (by omega) (by omega), show ((i : Int) + 1) = ((i + 1 : Nat) : Int) by omega]
    refine ec_l1 d by_ m hd hm hml q (i + 1) _ (by omega) ?_ (by rw [List.length_append]; simp; omega) k (by omega)
    exact wf_snoc hl ⟨(wf_rd hm h1).1, i64_wrap _⟩
theorem ec_l0 (d : Int) (even few : Bool) (by_ : Int) (hd : -2147483648 ≤ d ∧ d ≤ 2147483647) : ∀ (q i : Nat) (l : List TL), q + i = l.length → WfL l → l.length ≤ 1000 → ∀ k, 32004 + q < k → transposallaw09_EntryChecks.l0 k d l even few by_ (l.length : Int) (i : Int) = some true
  | 0, i, l, h, hl, hll, k, hk => by
    obtain ⟨k, rfl⟩ : ∃ k', k = k' + 1 := ⟨k - 1, by omega⟩
    simp only [transposallaw09_EntryChecks.l0]
    rw [if_neg (by omega)]
    cases even with
    | true =>
      rw [if_pos rfl, show entry_Line_14.f l = some l from if_pos (by omega)]
      simp only [Option.bind_some]
      exact ec_l1 d by_ l hd hl hll l.length 0 l (by omega) hl (by omega) k (by omega)
    | false =>
      rw [if_neg (by decide)]
      exact both d l hd hl k (by omega)
  | q + 1, i, l, h, hl, hll, k, hk => by
    obtain ⟨k, rfl⟩ : ∃ k', k = k' + 1 := ⟨k - 1, by omega⟩
    have h1 : i < l.length := by omega
    simp only [transposallaw09_EntryChecks.l0]
    rw [if_pos (by omega)]
    cases few with
    | true =>
      rw [if_pos rfl, if_pos (by omega), if_pos (by omega), w64 (x := (i : Int) + 1) (by omega) (by omega), show ((i : Int) + 1) = ((i + 1 : Nat) : Int) by omega]
      have hr := wf_rd hl h1
      have hw : WfL (l.set (i : Int).toNat (⟨(rd_T28 l (i : Int)).f0, Int.tmod ((rd_T28 l (i : Int)).f1) 2, (rd_T28 l (i : Int)).f2, (rd_T28 l (i : Int)).f3⟩ : S28)) := by
        refine wf_set hl ⟨u16_of ?_, hr.2⟩
        have := u16_in hr.1
        have := Int.tmod_nonneg 2 this.1
        have := Int.tmod_lt_of_pos (rd_T28 l (i : Int)).f1 (show (0 : Int) < 2 by decide)
        dsimp only
        omega
      have ih := ec_l0 d even true by_ hd q (i + 1) (l.set (i : Int).toNat (⟨(rd_T28 l (i : Int)).f0, Int.tmod ((rd_T28 l (i : Int)).f1) 2, (rd_T28 l (i : Int)).f2, (rd_T28 l (i : Int)).f3⟩ : S28)) (by rw [List.length_set]; omega) hw (by rw [List.length_set]; omega) k (by omega)
      rw [List.length_set] at ih
      exact ih
    | false =>
      rw [if_neg (by decide), w64 (x := (i : Int) + 1) (by omega) (by omega), show ((i : Int) + 1) = ((i + 1 : Nat) : Int) by omega]
      exact ec_l0 d even false by_ hd q (i + 1) l (by omega) hl hll k (by omega)
theorem EntryChecks : transposallaw09_EntryChecks.Pure := by
  intro d l even few by_ hd hl0 hw hby
  have hd2 : -2147483648 ≤ d ∧ d ≤ 2147483647 := by
    simp [Lit.wf, IntKind.min, IntKind.max, IntKind.bits, IntKind.signed] at hd
    exact hd
  have hwf : WfL l := fun x hx => ⟨(hw x hx).2.1, (hw x hx).2.2.2⟩
  obtain ⟨K, hK⟩ : ∃ K : Nat, 60000 ≤ K := ⟨60000, Nat.le_refl _⟩
  refine ⟨K, ?_⟩
  unfold transposallaw09_EntryChecks.f
  rw [awake9 K (by omega) (awake8 K (by omega) (awake7 K (by omega)))]
  simp only [Option.bind_some, if_true]
  by_cases h31 : (l.length : Int) > 31
  · rw [if_pos h31]
  · rw [if_neg h31, show entry_Line_14.f l = some l from if_pos (by omega)]
    simp only [Option.bind_some]
    exact ec_l0 d even few by_ hd2 l.length 0 l (by omega) hwf (by omega) K (by omega)
end Go.Proofs.YtddaogebacigbaaGreatDoor.Pure
