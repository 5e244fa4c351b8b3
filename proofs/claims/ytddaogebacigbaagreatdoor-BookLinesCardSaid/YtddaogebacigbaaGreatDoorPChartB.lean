/- Membership, Within, the law's charts: made so that each is good. -/
import Derived.Test.YtddaogebacigbaaGreatDoorXA0
import Derived.Test.YtddaogebacigbaaGreatDoorXA2
import Derived.Test.YtddaogebacigbaaGreatDoorXA3
import Derived.Test.YtddaogebacigbaaGreatDoorPChartA
namespace Go.Proofs.YtddaogebacigbaaGreatDoor.PChart
open Go.RowKit Go.Proofs.YtddaogebacigbaaGreatDoorW.PrintWords Go.Proofs.YtddaogebacigbaaGreatDoorW.PrintLast Go.Proofs.YtddaogebacigbaaGreatDoor.XA Go.Proofs.YtddaogebacigbaaGreatDoor.ChartMath
set_option linter.unusedVariables false
set_option linter.unusedSimpArgs false
abbrev Src := S139
abbrev rdS := rd_T139
abbrev zS := z139
theorem rdS_get {l : List Src} {i : Nat} (h : i < l.length) : rdS l (i : Int) = l[i] := by
  show l.getD (i : Int).toNat zS = _
  rw [Int.toNat_natCast, List.getD_eq_getElem?_getD, List.getElem?_eq_getElem h]
  rfl
/-! ### the law's charts -/
def NameOk (b : ByteArray) : Prop := ∃ i : Fin 5, b = ([(⟨#[67, 97, 115, 104]⟩ : ByteArray), (⟨#[97]⟩ : ByteArray), (⟨#[66, 97, 110, 107, 32, 49]⟩ : ByteArray), (⟨#[76, 111, 115, 115, 46, 120]⟩ : ByteArray), (⟨#[49, 50, 51, 52, 53, 54, 55, 56, 57, 48, 49, 50, 51, 52, 53, 54, 55, 56, 57, 48, 49, 50, 51, 52, 53, 54, 55, 56, 57, 48]⟩ : ByteArray)] : List ByteArray)[i]
theorem name_ok {a : Int} (h : 0 ≤ a) : ∃ b, transposallaw06_Name.f a = some b ∧ NameOk b := by
  unfold transposallaw06_Name.f
  simp only [Option.bind_some]
  rw [Int.tmod_eq_emod_of_nonneg h, if_pos (by omega), if_pos (by show a % 5 < 5; omega)]
  refine ⟨_, rfl, ⟨⟨(a % 5).toNat, by omega⟩, ?_⟩⟩
  have : a % 5 = 0 ∨ a % 5 = 1 ∨ a % 5 = 2 ∨ a % 5 = 3 ∨ a % 5 = 4 := by omega
  rcases this with e | e | e | e | e <;> simp only [e] <;> rfl
/-- What a made chart is, beside good: kinds and names are right, codes small. -/
structure Made (c : List Acc) : Prop where
  good : ChartMath.Good c
  len : c.length ≤ 40
  names : ∀ a ∈ c, NameOk a.f1
  kinds : ∀ a ∈ c, 0 ≤ a.f2 ∧ a.f2 ≤ 4
  small : ∀ a ∈ c, a.f0 ≤ 160
  nonneg : ∀ a ∈ c, 0 ≤ a.f3
theorem Made.nil : Made [] := ⟨ChartMath.Good.nil, by simp, by simp, by simp, by simp, by simp⟩
theorem Made.snoc {c : List Acc} (M : Made c) {x : Acc} (hl : c.length < 40) (hpos : 1 ≤ x.f0) (hgt : ∀ a ∈ c, a.f0 < x.f0)
    (hp : x.f3 = 0 ∨ ∃ p ∈ c, p.f0 = x.f3 ∧ p.f2 = x.f2 ∧ (way c 13 p.f0).length ≤ 11) (hn : NameOk x.f1) (hk : 0 ≤ x.f2 ∧ x.f2 ≤ 4) (hs : x.f0 ≤ 160) : Made (c ++ [x]) := by
  refine ⟨M.good.snoc hpos hgt hp, by simp; omega, ?_, ?_, ?_, ?_⟩ <;> intro a ha <;> rcases List.mem_append.1 ha with ha | ha
  · exact M.names a ha
  · rw [List.mem_singleton.1 ha]; exact hn
  · exact M.kinds a ha
  · rw [List.mem_singleton.1 ha]; exact hk
  · exact M.small a ha
  · rw [List.mem_singleton.1 ha]; exact hs
  · exact M.nonneg a ha
  · rw [List.mem_singleton.1 ha]
    rcases hp with h | ⟨p, hpc, e, _⟩
    · omega
    · have := M.good.pos p hpc
      omega
theorem make_go (l : List Src) (hl : ∀ y ∈ l, 0 ≤ y.f0 ∧ 0 ≤ y.f1 ∧ 0 ≤ y.f2 ∧ y.f2 ≤ 255 ∧ 0 ≤ y.f3) (hm : l.length ≤ maxLen) : ∀ (d : Nat) (i : Nat) (c : List Acc) (code : Int), d + i = 41 → c.length = i → Made c → 0 ≤ code → code ≤ 4 * i → (∀ a ∈ c, a.f0 ≤ code) →
    ∃ r, (Made r ∧ (l.length ≤ r.length ∨ 40 ≤ r.length)) ∧ ∀ k, 400 + 2 * d < k → transposallaw06_Make.l0 k c code l (l.length : Int) (i : Int) = some r := by
  intro d
  induction d with
  | zero =>
    intro i c code h1 h2 M
    have := M.len
    omega
  | succ d ih =>
    intro i c code h1 h2 M c0 c1 hca
    by_cases hil : i < l.length
    · by_cases h40 : i = 40
      · refine ⟨c, ⟨M, .inr (by omega)⟩, fun k hk => ?_⟩
        obtain ⟨k, rfl⟩ : ∃ k', k = k' + 1 := ⟨k - 1, by omega⟩
        simp only [transposallaw06_Make.l0]
        rw [if_pos (by omega), if_pos (by omega), if_pos (by omega), if_pos (by omega)]
      · obtain ⟨y0, y1, y2, y2', y3⟩ := hl l[i] (List.getElem_mem hil)
        obtain ⟨b, hb, bok⟩ := name_ok y3
        have e := rdS_get hil
        unfold rdS at e
        obtain ⟨cd, hcd, d1, d2⟩ : ∃ cd, cd = (code + (1 + l[i].f0.tmod 4)) % 4294967296 ∧ code + 1 ≤ cd ∧ cd ≤ code + 4 := by
          rw [Int.tmod_eq_emod_of_nonneg y0]
          exact ⟨_, rfl, by omega, by omega⟩
        obtain ⟨kd, hkd, e1, e2⟩ : ∃ kd, kd = l[i].f1.tmod 5 ∧ 0 ≤ kd ∧ kd ≤ 4 := by
          rw [Int.tmod_eq_emod_of_nonneg y1]
          exact ⟨_, rfl, by omega, by omega⟩
        have hgt : ∀ a ∈ c, a.f0 < cd := fun a ha => by have := hca a ha; omega
        have step : ∀ (x : Acc), x.f0 = cd → Made (c ++ [x]) → ∃ r, (Made r ∧ (l.length ≤ r.length ∨ 40 ≤ r.length)) ∧ ∀ k, 400 + 2 * d < k → transposallaw06_Make.l0 k (c ++ [x]) cd l (l.length : Int) (wrap64 ((i : Int) + 1)) = some r := by
          intro x hx M'
          rw [w64 (by omega) (by omega)]
          exact ih (i + 1) (c ++ [x]) cd (by omega) (by simp [h2]) M' (by omega) (by omega) (fun a ha => by
            rcases List.mem_append.1 ha with ha | ha
            · have := hca a ha
              omega
            · rw [List.mem_singleton.1 ha, hx]; exact Int.le_refl _)
        have M0 : Made (c ++ [(⟨cd, b, kd, 0⟩ : Acc)]) := M.snoc (by omega) (show 1 ≤ cd by omega) hgt (.inl rfl) bok ⟨e1, e2⟩ (show cd ≤ 160 by omega)
        obtain ⟨r0, R0, hr0⟩ := step ⟨cd, b, kd, 0⟩ rfl M0
        have false_go : ∀ k, 400 + 2 * (d + 1) < k + 1 → transposallaw06_Make.j1 k c cd l (l.length : Int) (i : Int) false l[i].f0 l[i].f1 l[i].f2 l[i].f3 cd b kd 0 = some r0 := by
          intro k hk
          obtain ⟨k, rfl⟩ : ∃ k', k = k' + 1 := ⟨k - 1, by omega⟩
          simp only [transposallaw06_Make.j1]
          rw [if_neg (by simp), if_pos (by omega)]
          exact hr0 k (by omega)
        by_cases hpz : (c.length : Int) > 0 ∧ (l[i].f2.tmod 3) > 0
        · obtain ⟨hp1, hp2⟩ := hpz
          obtain ⟨q, hq, q1, q2⟩ : ∃ q : Nat, (q : Int) = Int.tmod (wrap64 l[i].f2) (c.length : Int) ∧ q < c.length ∧ 0 ≤ q := by
            rw [w64 (by omega) (by omega), Int.tmod_eq_emod_of_nonneg y2]
            have a1 := Int.emod_nonneg l[i].f2 (show (c.length : Int) ≠ 0 by omega)
            have a2 := Int.emod_lt_of_pos l[i].f2 hp1
            exact ⟨(l[i].f2 % (c.length : Int)).toNat, by omega, by omega, by omega⟩
          have eq2 := rdA_get q1
          unfold rdA at eq2
          by_cases hdp : ((way c 13 c[q].f0).length : Int) < 11
          · have M1 : Made (c ++ [(⟨cd, b, c[q].f2, c[q].f0⟩ : Acc)]) := M.snoc (by omega) (show 1 ≤ cd by omega) hgt (.inr ⟨c[q], List.getElem_mem q1, rfl, rfl, by omega⟩) bok (M.kinds c[q] (List.getElem_mem q1)) (show cd ≤ 160 by omega)
            obtain ⟨r1, R1, hr1⟩ := step ⟨cd, b, c[q].f2, c[q].f0⟩ rfl M1
            refine ⟨r1, R1, fun k hk => ?_⟩
            obtain ⟨k, rfl⟩ : ∃ k', k = k' + 1 + 1 := ⟨k - 2, by omega⟩
            simp only [transposallaw06_Make.l0]
            rw [if_pos (by omega), if_pos (by omega), if_pos (by omega), if_neg (by omega), e, hb]
            simp only [Option.bind_some]
            rw [if_pos hp1, ← hcd, ← hkd]
            simp only [transposallaw06_Make.j1]
            rw [if_pos (by simpa using hp2), if_neg (by omega), ← hq, if_pos (by omega), if_pos (by omega), eq2, deep_eq _ (by omega) k (by omega)]
            simp only [Option.bind_some]
            rw [if_pos hdp, if_pos (by omega)]
            exact hr1 k (by omega)
          · refine ⟨r0, R0, fun k hk => ?_⟩
            obtain ⟨k, rfl⟩ : ∃ k', k = k' + 1 + 1 := ⟨k - 2, by omega⟩
            simp only [transposallaw06_Make.l0]
            rw [if_pos (by omega), if_pos (by omega), if_pos (by omega), if_neg (by omega), e, hb]
            simp only [Option.bind_some]
            rw [if_pos hp1, ← hcd, ← hkd]
            simp only [transposallaw06_Make.j1]
            rw [if_pos (by simpa using hp2), if_neg (by omega), ← hq, if_pos (by omega), if_pos (by omega), eq2, deep_eq _ (by omega) k (by omega)]
            simp only [Option.bind_some]
            rw [if_neg hdp, if_pos (by omega)]
            exact hr0 k (by omega)
        · refine ⟨r0, R0, fun k hk => ?_⟩
          obtain ⟨k, rfl⟩ : ∃ k', k = k' + 1 := ⟨k - 1, by omega⟩
          simp only [transposallaw06_Make.l0]
          rw [if_pos (by omega), if_pos (by omega), if_pos (by omega), if_neg (by omega), e, hb]
          simp only [Option.bind_some]
          rw [← hcd, ← hkd]
          split
          · rename_i hp1
            have : decide (l[i].f2.tmod 3 > 0) = false := by
              rw [decide_eq_false_iff_not]
              exact fun h => hpz ⟨hp1, h⟩
            rw [this]
            exact false_go k (by omega)
          · exact false_go k (by omega)
    · refine ⟨c, ⟨M, .inl (by omega)⟩, fun k hk => ?_⟩
      obtain ⟨k, rfl⟩ : ∃ k', k = k' + 1 := ⟨k - 1, by omega⟩
      simp only [transposallaw06_Make.l0]
      rw [if_neg (by omega)]
def SrcWf (l : List Src) : Prop := ∀ y, y ∈ l → ((Lit.int .u8 y.f0).wf = true ∧ (Lit.int .u8 y.f1).wf = true ∧ (Lit.int .u8 y.f2).wf = true ∧ (Lit.int .u8 y.f3).wf = true)
theorem u8_wf {x : Int} (h : (Lit.int .u8 x).wf = true) : 0 ≤ x ∧ x ≤ 255 := by
  simp [Lit.wf, show IntKind.u8.min = 0 from rfl, show IntKind.u8.max = 255 from rfl] at h
  exact h
theorem make_len {l : List Src} (hm : l.length ≤ maxLen) (h : SrcWf l) : ∃ c, (Made c ∧ (l.length ≤ c.length ∨ 40 ≤ c.length)) ∧ ∀ k, 500 ≤ k → transposallaw06_Make.f k l = some c := by
  obtain ⟨c, M, hc⟩ := make_go l (fun y hy => by
    obtain ⟨a, b, d, e⟩ := h y hy
    exact ⟨(u8_wf a).1, (u8_wf b).1, (u8_wf d).1, (u8_wf d).2, (u8_wf e).1⟩) hm 41 0 [] 0 rfl rfl Made.nil (by omega) (by omega) (by simp)
  refine ⟨c, M, fun k hk => ?_⟩
  unfold transposallaw06_Make.f
  exact hc k (by omega)
theorem make_eq {l : List Src} (hm : l.length ≤ maxLen) (h : SrcWf l) : ∃ c, Made c ∧ ∀ k, 500 ≤ k → transposallaw06_Make.f k l = some c := by
  obtain ⟨c, M, hc⟩ := make_len hm h
  exact ⟨c, M.1, hc⟩
end Go.Proofs.YtddaogebacigbaaGreatDoor.PChart
