/- Calendars: in which period a day is; may days be one? -/
import Derived.Test.YtddaogebacigbaaGreatDoorXA0
import Derived.Test.YtddaogebacigbaaGreatDoorXA5
import Derived.Test.YtddaogebacigbaaGreatDoorPInts
import Derived.Test.YtddaogebacigbaaGreatDoorPDayB
namespace Go.Proofs.YtddaogebacigbaaGreatDoor.PCal
open Go.RowKit Go.Proofs.YtddaogebacigbaaGreatDoorW.PrintWords Go.Proofs.YtddaogebacigbaaGreatDoorW.PrintLast Go.Proofs.YtddaogebacigbaaGreatDoor.XA Go.Proofs.YtddaogebacigbaaGreatDoor.PInts
set_option linter.unusedVariables false
set_option linter.unusedSimpArgs false
theorem w32 {x : Int} (h1 : -2147483648 ≤ x) (h2 : x ≤ 2147483647) : wrap32 x = x := by unfold wrap32; omega
/-- So many begin at a day or ahead of it. -/
def AtC (s : List Int) (d : Int) (c : Nat) : Prop := c ≤ s.length ∧ (∀ (j : Nat) (h : j < s.length), j < c → s[j] ≤ d) ∧ (∀ (j : Nat) (h : j < s.length), c ≤ j → d < s[j])
theorem AtC.one {s : List Int} {d : Int} {a b : Nat} (h : AtC s d a) (h' : AtC s d b) : a = b := by
  obtain ⟨a1, a2, a3⟩ := h
  obtain ⟨b1, b2, b3⟩ := h'
  rcases Nat.lt_trichotomy a b with hlt | e | hlt
  · have x1 := a3 a (by omega) (Nat.le_refl _)
    have x2 := b2 a (by omega) hlt
    omega
  · exact e
  · have x1 := b3 b (by omega) (Nat.le_refl _)
    have x2 := a2 b (by omega) hlt
    omega
def inPeriod (c : Nat) (e d : Int) : Int × Bool := if c = 0 ∨ e ≤ d then (0, false) else ((c : Int) - 1, true)
/-! ### the law's calendars -/
structure MadeC (a : Int) (s : List Int) (e : Int) : Prop where
  si : SI s
  len : 1 ≤ s.length ∧ s.length ≤ 13
  first : s[0]? = some a
  low : ∀ x ∈ s, a ≤ x ∧ x ≤ a + 480 ∧ x + 31 ≤ e
  end_ : e ≤ a + 511
theorem makeC_go {a : Int} {l : List Int} (ha : -100000 ≤ a ∧ a ≤ 100000) (hl : l.length ≤ maxLen) (hw : ∀ x ∈ l, 0 ≤ x ∧ x ≤ 255) : ∀ (q i : Nat) (s : List Int) (d z : Int), q + i = 12 → s.length = i + 1 → SI s → s[0]? = some a → (∀ x ∈ s, a ≤ x ∧ x ≤ d) → a ≤ d → d ≤ a + 40 * (i : Int) →
    ∃ r e, (MadeC a r e ∧ e = d + 31 + (e - d - 31)) ∧ ∀ k, q < k → transposallaw08_Make.l0 k d l (l.length : Int) (i : Int) s z = some (r, e) := by
  intro q
  induction q with
  | zero =>
    intro i s d z h hs S h0 hb h1 h2
    obtain rfl : i = 12 := by omega
    refine ⟨s, d + 31, ⟨⟨S, by omega, h0, fun x hx => by have := hb x hx; omega, by omega⟩, by omega⟩, fun k hk => ?_⟩
    obtain ⟨k, rfl⟩ : ∃ k', k = k' + 1 := ⟨k - 1, by omega⟩
    simp only [transposallaw08_Make.l0]
    rw [w32 (x := d + 31) (by omega) (by omega)]
    by_cases h12 : ((12 : Nat) : Int) < (l.length : Int)
    · rw [if_pos h12, if_pos (by omega), if_pos h12, if_pos (by omega)]
    · rw [if_neg h12]
  | succ q ih =>
    intro i s d z h hs S h0 hb h1 h2
    by_cases hi : i < l.length
    · obtain ⟨x0, x1⟩ := hw l[i] (List.getElem_mem hi)
      obtain ⟨d', hd', e1, e2⟩ : ∃ d', d' = d + (1 + l[i] % 40) ∧ d + 1 ≤ d' ∧ d' ≤ d + 40 := ⟨_, rfl, by omega, by omega⟩
      have hlm : l.length ≤ 9223372036854775807 := by simp only [maxLen] at hl; omega
      obtain ⟨r, e, ⟨R, _⟩, hr⟩ := ih (i + 1) (s ++ [d']) d' z (by omega) (by simp [hs]) (by
        unfold SI
        rw [List.pairwise_append]
        refine ⟨S, List.pairwise_singleton _ _, fun x hx y hy => ?_⟩
        rw [List.mem_singleton.1 hy]
        have := hb x hx
        omega) (by rw [List.getElem?_append_left (by omega)]; exact h0) (fun x hx => by
        rcases List.mem_append.1 hx with hx | hx
        · have := hb x hx
          omega
        · rw [List.mem_singleton.1 hx]
          omega) (by omega) (by omega)
      refine ⟨r, e, ⟨R, by omega⟩, fun k hk => ?_⟩
      obtain ⟨k, rfl⟩ : ∃ k', k = k' + 1 := ⟨k - 1, by omega⟩
      simp only [transposallaw08_Make.l0]
      rw [if_pos (by omega), if_pos (by omega), if_pos (by omega), if_neg (by omega), if_pos (by omega), rd_get hi, Int.tmod_eq_emod_of_nonneg x0, w32 (x := l[i] % 40) (by omega) (by omega), w32 (x := 1 + l[i] % 40) (by omega) (by omega), w32 (by omega) (by omega), w64 (by omega) (by omega), ← hd', show (i : Int) + 1 = ((i + 1 : Nat) : Int) by omega]
      exact hr k (by omega)
    · refine ⟨s, d + 31, ⟨⟨S, by omega, h0, fun x hx => by have := hb x hx; omega, by omega⟩, by omega⟩, fun k hk => ?_⟩
      obtain ⟨k, rfl⟩ : ∃ k', k = k' + 1 := ⟨k - 1, by omega⟩
      simp only [transposallaw08_Make.l0]
      rw [if_neg (by omega), w32 (by omega) (by omega)]
theorem i16_wf {x : Int} (h : (Lit.int .i16 x).wf = true) : -32768 ≤ x ∧ x ≤ 32767 := by
  simp [Lit.wf, show IntKind.i16.min = -32768 from rfl, show IntKind.i16.max = 32767 from rfl] at h
  exact h
theorem u8_wf {x : Int} (h : (Lit.int .u8 x).wf = true) : 0 ≤ x ∧ x ≤ 255 := by
  simp [Lit.wf, show IntKind.u8.min = 0 from rfl, show IntKind.u8.max = 255 from rfl] at h
  exact h
theorem makeC_eq {a : Int} {l : List Int} (ha : -100000 ≤ a ∧ a ≤ 100000) (hl : l.length ≤ maxLen) (hw : ∀ x ∈ l, (Lit.int .u8 x).wf = true) : ∃ s e, MadeC a s e ∧ ∀ k, 13 ≤ k → transposallaw08_Make.f k a l = some (s, e) := by
  obtain ⟨s, e, ⟨M, _⟩, h⟩ := makeC_go ha hl (fun x hx => u8_wf (hw x hx)) 12 0 [a] a 0 (by omega) rfl (List.pairwise_singleton _ _) rfl (fun x hx => by rw [List.mem_singleton.1 hx]; omega) (by omega) (by omega)
  refine ⟨s, e, M, fun k hk => ?_⟩
  unfold transposallaw08_Make.f
  rw [w32 (by omega) (by omega)]
  exact h k (by omega)
theorem MadeC.lt {a : Int} {s : List Int} {e : Int} (M : MadeC a s e) : ∀ x ∈ s, x < e := fun x hx => by have := M.low x hx; omega
theorem MadeC.head {a : Int} {s : List Int} {e : Int} (M : MadeC a s e) : rd s 0 = a := by
  have h0 : 0 < s.length := by have := M.len; omega
  have := M.first
  rw [List.getElem?_eq_getElem h0] at this
  rw [show (0 : Int) = ((0 : Nat) : Int) from rfl, rd_get h0]
  exact Option.some.inj this
/-! ### may days be a calendar? -/
def good (d : Int) : Prop := -719162 ≤ d ∧ d < 2932897
instance (d : Int) : Decidable (good d) := by unfold good; exact inferInstance
/-- What goes wrong first, from a place on. -/
def scanC (u : List Int) : Nat → Nat → Int
  | 0, _ => 0
  | d + 1, i => if good (rd u i) then (if 0 < i ∧ rd u ((i : Int) - 1) ≥ rd u i then 6 else scanC u d (i + 1)) else 13
theorem scanC_ok {u : List Int} (S : SI u) (hg : ∀ x ∈ u, good x) : ∀ (d i : Nat), d + i = u.length → scanC u d i = 0
  | 0, i, h => rfl
  | d + 1, i, h => by
    have hi : i < u.length := by omega
    rw [scanC, rd_get hi, if_pos (hg _ (List.getElem_mem hi)), if_neg]
    · exact scanC_ok S hg d (i + 1) (by omega)
    · rintro ⟨h0, h1⟩
      rw [show (i : Int) - 1 = ((i - 1 : Nat) : Int) by omega, rd_get (by omega)] at h1
      have := S.lt hi (show i - 1 < i by omega)
      omega
end Go.Proofs.YtddaogebacigbaaGreatDoor.PCal
