-- Written by a program of this session's (wip/xp) out of the translation; given functions by hand.
import Derived.Test.YtddaogebacigbaaGreatDoorRvW
import Derived.Test.YtddaogebacigbaaGreatDoorXA0
import Derived.Test.YtddaogebacigbaaGreatDoorXA1
namespace Go.Proofs.YtddaogebacigbaaGreatDoor.XA
open Go.RowKit Go.Proofs.YtddaogebacigbaaGreatDoorW.PrintWords Go.Proofs.YtddaogebacigbaaGreatDoorW.PrintLast Go.Proofs.YtddaogebacigbaaGreatDoorW.PrintMore
attribute [local go_sem] max2_int min2_int max_two min_two max_three min_three max_four min_four   -- for this text's walks alone
set_option linter.unusedVariables false
set_option linter.unusedSimpArgs false

/-! ### transposallaw10_Awake: function 22 -/
def transposallaw10_Awake.f (_k : Nat) : Option Bool := some true
theorem transposallaw10_Awake.mono : ∀ k, LeO (transposallaw10_Awake.f k) (transposallaw10_Awake.f (k + 1)) := fun _ => LeO.refl _
namespace Awk
open RV
def fnsL : List Nat := [13, 15, 18, 20, 22, 24, 25, 27, 28, 29, 31, 38, 39, 40, 41, 42, 43, 46, 49, 50, 51, 52, 53, 54, 55, 58, 63, 68, 69, 70, 71, 72, 73, 74, 77, 78, 79, 80, 81, 86, 87, 88, 89, 91, 92, 93, 95, 96, 97, 98, 99, 100, 101, 102, 114, 115, 116, 117, 118, 120, 121, 122, 123, 124, 125, 126, 127, 128, 129, 130, 131, 132, 133, 134, 135, 136, 137, 146, 147, 149, 150, 151, 152, 153, 154, 155, 156, 157, 158, 159, 164, 165, 166, 167, 168, 169, 172, 177, 178, 179, 180, 181, 182, 183, 184, 185, 186, 187, 188, 189, 190, 191, 192, 193, 194, 195, 196, 197, 198, 199, 200, 201, 203, 204, 205, 206, 207, 209, 210, 211, 212]
def modeL : List (Nat × Nat) := [(58, 5), (99, 2), (122, 2), (123, 2), (124, 2), (125, 2), (152, 2), (153, 2), (156, 2), (157, 2), (158, 2), (172, 2), (187, 2), (90, 3), (94, 3), (202, 3)]
def ownL : List (Nat × List Nat) := [(13, [1, 5]), (15, [5, 13]), (18, [4, 6, 27, 43]), (20, [2, 11]), (22, [1, 6]), (24, [2, 3, 15, 21, 22, 27, 28, 29]), (25, [4, 5, 31, 47, 48, 49]), (27, [5, 13]), (28, [2, 3, 6, 10, 23, 44, 49, 50, 52]), (31, [5, 10, 29, 66]), (40, [7, 10, 13]), (42, [4, 28]), (43, [2, 7]), (49, [6, 7, 8, 15, 32, 50, 57, 59, 60, 61]), (51, [4, 6, 13, 30, 33, 34, 37, 38, 39]), (52, [4, 16, 20]), (54, [8, 9, 19, 22, 25, 26, 30]), (68, [4, 7, 13, 18, 20]), (71, [4, 6, 7, 18, 53, 62]), (86, [6, 15]), (89, [6, 12, 25, 32]), (123, [0, 8, 12, 14, 15, 16]), (126, [0, 33, 35, 42, 46, 47, 48]), (127, [0, 33, 35, 44, 48, 49, 50]), (128, [0, 7, 17, 47, 49, 58, 62, 63, 64]), (130, [0, 14, 16, 21, 25, 26, 27]), (131, [0, 42, 44, 51, 55, 56, 57, 79, 81, 88, 92, 93, 94, 117, 119, 126, 130, 131, 132]), (133, [0, 11, 13, 18, 22, 23, 24, 65, 67, 72, 76, 77, 78]), (134, [0, 12, 14, 19, 23, 24, 25, 66, 68, 73, 77, 78, 79, 81, 83, 88, 92, 93, 94, 135, 137, 142, 146, 147, 148, 153, 155, 160, 164, 165, 166]), (152, [0, 7, 11, 12, 13]), (153, [0, 4, 13, 19, 20, 26, 27, 28, 29]), (154, [0, 53, 57, 66, 72, 73, 74]), (156, [0, 3, 10, 11, 12, 19, 20, 21, 28, 29]), (168, [0, 42, 45, 50, 52, 53, 54, 55, 58, 63, 65, 66, 67, 68, 71, 76, 78, 79, 80, 81, 84, 89, 91, 92, 93, 110, 113, 118, 120, 121, 122, 123, 126, 131, 133, 134, 135, 145, 148, 153, 155, 156, 157, 162, 165, 166]), (169, [12, 53, 54, 62, 63, 80, 81, 87, 88, 93]), (172, [3, 19, 22, 23]), (177, [10, 11, 46, 49, 59, 61, 68, 69, 70, 71, 98, 102, 103, 104, 106]), (186, [4, 5, 6, 11, 14, 21, 22]), (193, [4, 5, 10, 17, 18]), (197, [4, 46]), (211, [3, 9, 10])]
def dpL : List (Nat × List Nat) := [(15, [1, 7]), (18, [1, 7, 11, 16, 21]), (20, [1, 3, 6]), (24, [1, 4, 7, 10, 12]), (25, [2, 3, 6, 8, 11, 18, 20, 23, 29, 32, 36, 38, 42]), (27, [2, 3, 8, 10, 18, 20, 26, 30, 32]), (28, [1, 17]), (29, [1, 5, 9, 14, 16]), (31, [1, 12, 18, 22, 38, 50, 51, 67]), (39, [1, 6, 11, 16, 19]), (40, [1, 6, 9, 12]), (42, [2, 3, 7, 9, 12, 15, 20]), (54, [2, 3, 13, 43, 56, 59]), (55, [2, 9, 23]), (93, [13]), (100, [2, 6, 11]), (146, [1, 3, 7, 12]), (167, [10]), (185, [2, 7, 15, 22, 31]), (191, [11]), (192, [11]), (204, [10]), (205, [10]), (206, [15]), (207, [15]), (212, [5])]
def badL : List (Nat × List Nat) := [(49, [12])]
def lookL (l : List (Nat × List Nat)) (f : Nat) : List Nat := match l with | [] => [] | (g, x) :: r => if f = g then x else lookL r f
def lookN (l : List (Nat × Nat)) (f : Nat) : Nat := match l with | [] => 0 | (g, x) :: r => if f = g then x else lookN r f
def memN (l : List Nat) (n : Nat) : Bool := match l with | [] => false | x :: r => Nat.beq x n || memN r n
def monthsP : List PV := monthsL.map fun n => PV.lit (.int .i64 n)
def pow10P : List PV := Lib.pow10Tab.map fun n => PV.lit (.int .u64 n)
def itoaA : List PV → Option PV
  | [.lit (.int .i64 n)] => if -9223372036854775808 ≤ n ∧ n ≤ 9223372036854775807 then some (.lit (.string ⟨(Lib.itoa n).toArray⟩)) else none
  | _ => none
def indexA : List PV → Option PV
  | [.lit (.string s), .lit (.string ⟨⟨[c]⟩⟩)] => some (.lit (.int .i64 (Lib.indexByte s.data.toList c)))
  | _ => none
def withA : List PV → Option PV
  | [.dsl 1 [.lit (.int .u16 1), .lit (.int .u16 3)] _, .lit (.int .u16 2)] => some (.dsl 1 [.lit (.int .u16 1), .lit (.int .u16 2), .lit (.int .u16 3)] none)
  | _ => none
def specA (f : FuncId) (args : List PV) : Option PV :=
  match Nat.beq f 94 with
  | true => itoaA args
  | false => match Nat.beq f 202 with
    | true => indexA args
    | false => match Nat.beq f 90 with
      | true => withA args
      | false => none
def globA (g : Nat) : Option (List PV) :=
  match Nat.beq g 0 with
  | true => some monthsP
  | false => match Nat.beq g 4 with
    | true => some pow10P
    | false => none
def lowA : Nat := max (max 0 4) (max 7 8) + 1
theorem staysA (w w' : World) (G : Glob w) (h : ∀ b, b < lowA → w'.heap[b]? = w.heap[b]?) : Glob w' := by
  have hc : ∀ b o, b < lowA → w'.cell? ⟨b, o, none⟩ = w.cell? ⟨b, o, none⟩ := fun b o hb => World.cell?_of_block (h b hb)
  refine ⟨fun i hi => (hc _ _ (by decide)).trans (G.months i hi), ?_, ?_, ?_⟩
  · have := G.pow10
    unfold Lib.TabIs World.var? at this ⊢
    rw [globalPow10] at this ⊢
    simp only [Option.bind_some] at this ⊢
    rw [h _ (by decide)]
    exact this
  · obtain ⟨te, pe, h1⟩ := G.synErr
    exact ⟨te, pe, (hc _ _ (by decide)).trans h1⟩
  · obtain ⟨te, pe, h1⟩ := G.rngErr
    exact ⟨te, pe, (hc _ _ (by decide)).trans h1⟩
noncomputable def cfg : Cfg := { P := Tryz.prog, fns := memN fnsL, mode := lookN modeL, spec := specA, glob := globA, own := fun f t => memN (lookL ownL f) t, dp := fun f t => memN (lookL dpL f) t, bad := fun f t => memN (lookL badL f) t, gl := lowA, ginv := Glob, gst := staysA }
def allB (p : Nat → Bool) : List Nat → Bool
  | [] => true
  | x :: r => p x && allB p r
theorem allB_mem {p : Nat → Bool} : ∀ {l : List Nat}, allB p l = true → ∀ n, memN l n = true → p n = true
  | [], _, n, h => by cases h
  | x :: r, h, n, hn => by
    simp only [allB, Bool.and_eq_true] at h
    simp only [memN, Bool.or_eq_true] at hn
    rcases hn with hn | hn
    · rw [← Nat.eq_of_beq_eq_true hn]; exact h.1
    · exact allB_mem h.2 n hn
set_option maxRecDepth 100000 in
theorem okL : allB (fnOK cfg drawOK) fnsL = true := by kernel_rfl
theorem mode3 : ∀ {l : List (Nat × Nat)} {f : Nat}, lookN l f = 3 → (f, 3) ∈ l
  | [], f, h => by simp [lookN] at h
  | (g, x) :: r, f, h => by
    simp only [lookN] at h
    split at h
    · rename_i e; subst e; subst h; simp
    · exact List.mem_cons_of_mem _ (mode3 h)
theorem told3 (f : Nat) (h : lookN modeL f = 3) : f = 94 ∨ f = 202 ∨ f = 90 := by
  have := mode3 h
  simp [modeL] at this
  omega
set_option maxRecDepth 100000 in
theorem runA : callPure cfg (exec cfg 3000) 22 [] = some (.lit (.bool true)) := by kernel_rfl
theorem with_ok : unit_Units_With.f 100 [1, 3] 2 = some [1, 2, 3] := by decide +kernel
theorem cell_cells {w : World} {b o : Nat} {v : Value} (h : w.cell? ⟨b, o, none⟩ = some v) : ∃ cs t fz, w.heap[b]? = some (.cells cs t fz) ∧ cs[o]? = some v := by
  unfold World.cell? at h
  split at h
  · rename_i cs t fz hb
    exact ⟨cs, t, fz, hb, by simpa using h⟩
  · cases h
theorem baseA {w : World} (G : Glob w) (O : Nat → Prop) (hO : ∀ b, ¬ O b) : Base cfg O w where
  lt := fun b hb => (hO b hb).elim
  glob := by
    intro g l hg
    have hg : globA g = some l := hg
    unfold globA at hg
    split at hg
    · rename_i e
      cases hg
      rw [Nat.eq_of_beq_eq_true e]
      obtain ⟨cs, t, fz, hb, _⟩ := cell_cells (G.months 0 (by decide))
      refine V.dptr_iff.2 ⟨_, 0, monthsL.map (.int .i64), rfl, hO _, ⟨cs, t, fz, hb, fun i y hy => ?_⟩, ?_⟩
      · have hi : i < 12 := by have := (List.getElem?_eq_some_iff.1 hy).1; simpa [monthsL] using this
        obtain ⟨cs2, t2, fz2, hb2, h2⟩ := cell_cells (G.months i hi)
        rw [hb] at hb2
        cases hb2
        rw [Nat.zero_add, h2]
        rw [List.getElem?_map] at hy
        have hm : monthsL[i]? = some (monthsL.getD i 0) := by
          have : i < monthsL.length := hi
          simp [List.getD, this]
        rw [hm] at hy
        exact hy
      · have := VL.lits (w := w) (O := O) (ι := iota0) (monthsL.map (Value.int .i64))
        rw [List.map_map] at this
        exact this
    · split at hg
      · rename_i e
        cases hg
        rw [Nat.eq_of_beq_eq_true e]
        have hp := G.pow10
        unfold Lib.TabIs World.var? at hp
        rw [globalPow10] at hp
        simp only [Option.bind_some] at hp
        split at hp
        · rename_i cs t fz hb
          have hcs := Option.some.inj hp
          refine V.dptr_iff.2 ⟨_, 0, Lib.pow10Tab.map (.int .u64), rfl, hO _, ⟨cs, t, fz, hb, fun i y hy => ?_⟩, ?_⟩
          · rw [Nat.zero_add, hcs]
            simpa using hy
          · have := VL.lits (w := w) (O := O) (ι := iota0) (Lib.pow10Tab.map (Value.int .u64))
            rw [List.map_map] at this
            exact this
        · cases hp
      · cases hg
  low := fun b hb => by
    refine ⟨?_, hO b⟩
    obtain ⟨te, pe, h1⟩ := G.rngErr
    obtain ⟨cs, t, fz, h2, _⟩ := cell_cells h1
    have := (Array.getElem?_eq_some_iff.1 h2).1
    have hb : b < lowA := hb
    have hl : lowA ≤ 9 := by decide
    omega
  ginv := G
theorem args1 {w : World} {O : Nat → Prop} {ι : Iota} {p : PV} {vals : List Value} (h : VL w O ι [p] vals) : ∃ x, vals = [x] ∧ V w O ι p x := by
  obtain ⟨x, xs, rfl, hx, hs⟩ := VL.cons_iff.1 h
  rw [VL.nil_iff] at hs
  subst hs
  exact ⟨x, rfl, hx⟩
theorem args2 {w : World} {O : Nat → Prop} {ι : Iota} {p q : PV} {vals : List Value} (h : VL w O ι [p, q] vals) : ∃ x y, vals = [x, y] ∧ V w O ι p x ∧ V w O ι q y := by
  obtain ⟨x, xs, rfl, hx, hs⟩ := VL.cons_iff.1 h
  obtain ⟨y, rfl, hy⟩ := args1 hs
  exact ⟨x, y, rfl, hx, hy⟩
theorem told_itoa {w : World} {O : Nat → Prop} {args : List PV} {p : PV} {vals : List Value} (hB : Base cfg O w) (hv : VL w O iota0 args vals) (h : itoaA args = some p) :
    Calls Tryz.prog 94 vals.toArray w fun e w' => ∃ x, e = .returned x ∧ RV.Grown w w' ∧ V w' O iota0 p x := by
  unfold itoaA at h
  split at h
  · rename_i n
    split at h <;> cases h
    rename_i hn
    obtain ⟨x, rfl, hx⟩ := args1 hv
    obtain rfl := V.lit_iff.1 hx
    refine (strconv_Itoa.calls n _ w hB.ginv (by unfold strconv_Itoa.f; rw [if_pos hn])).mono ?_
    rintro e w' ⟨rfl, hb⟩
    exact ⟨_, rfl, .of_below hb, V.lit_iff.2 rfl⟩
  · cases h
theorem told_index {w : World} {O : Nat → Prop} {args : List PV} {p : PV} {vals : List Value} (hv : VL w O iota0 args vals) (h : indexA args = some p) :
    Calls Tryz.prog 202 vals.toArray w fun e w' => ∃ x, e = .returned x ∧ RV.Grown w w' ∧ V w' O iota0 p x := by
  unfold indexA at h
  split at h
  · rename_i s c
    cases h
    obtain ⟨x, y, rfl, hx, hy⟩ := args2 hv
    obtain rfl := V.lit_iff.1 hx
    obtain rfl := V.lit_iff.1 hy
    refine (Tryz.stringslite_Index_one s c w).mono ?_
    rintro e w' ⟨rfl, rfl⟩
    exact ⟨_, rfl, .refl, V.lit_iff.2 rfl⟩
  · cases h
theorem told_with {w : World} {O : Nat → Prop} {args : List PV} {p : PV} {vals : List Value} (hB : Base cfg O w) (hv : VL w O iota0 args vals) (h : withA args = some p) :
    Calls Tryz.prog 90 vals.toArray w fun e w' => ∃ x, e = .returned x ∧ RV.Grown w w' ∧ V w' O iota0 p x := by
  unfold withA at h
  split at h
  · rename_i cap
    cases h
    obtain ⟨x, y, rfl, hx, hy⟩ := args2 hv
    obtain rfl := V.lit_iff.1 hy
    obtain ⟨a, c, rfl, hc, _, hr⟩ := V.dsl_iff.1 hx
    rcases hr with hr | ⟨b, o, rfl, hOb, hVE⟩
    · cases hr
    have hC : Kd.C (Kd.int .u16) w (some ⟨b, o, none⟩) 2 [1, 3] := by
      refine ⟨rfl, by decide, fun _ => ⟨_, rfl, fun j q hq => ⟨[.int .u16 q], rfl, rfl, fun i u hu => ?_⟩⟩⟩
      have hl : ([.lit (.int .u16 1), .lit (.int .u16 3)] : List PV)[j]? = some (.lit (.int .u16 q)) := by
        rcases j with _ | _ | j <;> simp at hq <;> subst hq <;> simp
      obtain ⟨y, hy2, _, cs, t, fz, hb, hg⟩ := hVE.get j _ hl
      obtain rfl := V.lit_iff.1 hy2
      have hi : i = 0 := by have := (List.getElem?_eq_some_iff.1 hu).1; simpa using this
      subst hi
      have hu : Value.int .u16 q = u := by simpa using hu
      show w.cell? ((⟨b, o, none⟩ : Addr).add (j * 1 + 0)) = some u
      rw [Addr.add_mid, cell_of_row w b _ cs t fz hb, ← hu]
      have := hg 0 (.int .u16 q) rfl
      rw [← this]
      congr 1
    refine (unit_Units_With.calls 100 _ c [1, 3] 2 [1, 2, 3] w hC hc with_ok).mono ?_
    rintro e w' ⟨v, rfl, hR, hb⟩
    refine ⟨v, rfl, .of_below hb, ?_⟩
    obtain ⟨A, c2, rfl, hl, hC2⟩ := Kd.R_reads hR
    obtain ⟨_, inner, hown, _⟩ := hR
    rcases hown.2 with ⟨hv, _⟩ | ⟨g, cap2, cur, hv, hge, hheap, _⟩
    · cases hv
    cases hv
    obtain ⟨ad, had, hcell⟩ := hC2.2.2 (by decide)
    cases had
    refine V.dsl_iff.2 ⟨_, _, rfl, hl, fun k h => (by cases h), .inr ⟨g, 0, rfl, fun hh => absurd (hB.lt _ hh) (by omega), VE.of_get fun i q hq => ?_⟩⟩
    have hq2 : ∃ z, ([1, 2, 3] : List Int)[i]? = some z ∧ q = .lit (.int .u16 z) := by
      rcases i with _ | _ | _ | i <;> simp at hq <;> subst hq <;> simp
    obtain ⟨z, hz, rfl⟩ := hq2
    obtain ⟨cc, _, hcc, hget⟩ := hcell i z hz
    have hcc : cc = [Value.int .u16 z] := hcc
    have h0 : w'.cell? ((⟨g, 0, none⟩ : Addr).add (i * 1 + 0)) = some (.int .u16 z) := hget 0 _ (by rw [hcc]; rfl)
    rw [Addr.add_mid, cell_of_row w' g _ cur _ _ hheap] at h0
    refine ⟨.int .u16 z, V.lit_iff.2 rfl, rfl, cur, _, _, hheap, fun j y hy => ?_⟩
    have hj : j = 0 := by have := (List.getElem?_eq_some_iff.1 hy).1; simpa [Value.cells] using this
    subst hj
    have hy : Value.int .u16 z = y := by simpa [Value.cells] using hy
    rw [← hy, ← h0]
    congr 1
  · cases h
theorem cfgOK : CfgOK cfg drawOK where
  mixed := by kernel_rfl
  fn := fun f h => allB_mem okL f h
  told := fun f h => by
    rcases told3 f h with rfl | rfl | rfl
    · exact ⟨_, Tryz.func94, by decide, rfl⟩
    · exact ⟨_, Tryz.func202, by decide, rfl⟩
    · exact ⟨_, Tryz.func90, by decide, rfl⟩
  spec := fun f args p hm h w O vals hB hv => by
    rcases told3 f hm with rfl | rfl | rfl
    · exact told_itoa hB hv h
    · exact told_index hv h
    · exact told_with hB hv h
theorem callsA (w : World) (hG : Glob w) : Calls Tryz.prog 22 #[] w fun e w' => e = .returned (.bool true) ∧ Below w.heap.size w w' := by
  refine (callPure_sound (O := fun _ => False) cfgOK (exec_sound cfgOK 3000) (baseA hG _ fun _ h => h) (ι := iota0) (VL.nil_iff.2 rfl) runA).mono ?_
  rintro e w' ⟨x, rfl, hg, hv⟩
  obtain rfl := V.lit_iff.1 hv
  exact ⟨rfl, hg.below⟩
end Awk
theorem transposallaw10_Awake.calls (k : Nat) (r : Bool) (w : World) (hG : Glob w) (h : transposallaw10_Awake.f k = some r) :
    Calls Tryz.prog 22 #[] w fun e w' => e = .returned (.bool r) ∧ Below w.heap.size w w' := by
  obtain rfl := Option.some.inj (show some true = some r from h)
  exact Awk.callsA w hG

/-! ### transposallaw10_B_Light: function 23 -/
def transposallaw10_B_Light.l0 : Nat → List (S103) → Int → Int → List (S139) → List Int → Int → List Int → List (S103) → Option (Bool)
 | 0, _, _, _, _, _, _, _, _ => none
 | k + 1, x6, x7, x8, x110000, x110001, x110002, x110003, x110004 => if x8 < x7 then (if 0 ≤ x8 then (if x8 < (x6.length : Int) then (if (((rd_T103 x6 x8).f1).length : Int) > 8 then (some false) else (transposallaw10_B_Light.l0 k x6 x7 (wrap64 (x8 + 1)) x110000 x110001 x110002 x110003 x110004)) else (none)) else (none)) else (if (x110000.length : Int) ≤ 20 then (if (x110001.length : Int) ≤ 8 then (if (x110003.length : Int) ≤ 8 then (some (decide ((x110004.length : Int) ≤ 12))) else (some false)) else (some false)) else (some false))
def transposallaw10_B_Light.f (k : Nat) (l0_0 : List (S139)) (l0_1 : List Int) (a0_2 : Int) (l0_3 : List Int) (l0_4 : List (S103)) : Option (Bool) := transposallaw10_B_Light.l0 k l0_4 (l0_4.length : Int) 0 l0_0 l0_1 a0_2 l0_3 l0_4
theorem transposallaw10_B_Light.mono_l : ∀ k, (∀ y0 y1 y2 y3 y4 y5 y6 y7, LeO (transposallaw10_B_Light.l0 k y0 y1 y2 y3 y4 y5 y6 y7) (transposallaw10_B_Light.l0 (k + 1) y0 y1 y2 y3 y4 y5 y6 y7))
 | 0 => fun _ _ _ _ _ _ _ _ r h => by simp [transposallaw10_B_Light.l0] at h
 | k + 1 => by
  have ih0 := transposallaw10_B_Light.mono_l k
  ·intro y0 y1 y2 y3 y4 y5 y6 y7
   unfold transposallaw10_B_Light.l0
   repeat' (with_reducible first | apply ih0 | apply LeO.refl | apply LeO.none | refine LeO.ite ?_ ?_ | refine LeO.bind ?_ (fun _ => ?_))
theorem transposallaw10_B_Light.mono : ∀ a0 a1 a2 a3 a4 k, LeO (transposallaw10_B_Light.f k a0 a1 a2 a3 a4) (transposallaw10_B_Light.f (k + 1) a0 a1 a2 a3 a4) := by
 intro a0 a1 a2 a3 a4 k
 have ih0 := transposallaw10_B_Light.mono_l k
 unfold transposallaw10_B_Light.f
 repeat' (with_reducible first | apply ih0 | apply LeO.refl | apply LeO.none | refine LeO.ite ?_ ?_ | refine LeO.bind ?_ (fun _ => ?_))
set_option maxHeartbeats 8000000 in
set_option maxRecDepth 100000 in
theorem transposallaw10_B_Light.calls (k : Nat) (A0_0 : Option Addr) (c0_0 : Nat) (l0_0 : List (S139)) (A0_1 : Option Addr) (c0_1 : Nat) (l0_1 : List Int) (a0_2 : Int) (A0_3 : Option Addr) (c0_3 : Nat) (l0_3 : List Int) (A0_4 : Option Addr) (c0_4 : Nat) (l0_4 : List (S103)) (r : Bool) (w : World) (hr0_0 : Kd.C k139 w A0_0 l0_0.length l0_0) (hc0_0 : l0_0.length ≤ c0_0) (hr0_1 : Kd.C (Kd.int .u16) w A0_1 l0_1.length l0_1) (hc0_1 : l0_1.length ≤ c0_1) (hr0_3 : Kd.C (Kd.int .u8) w A0_3 l0_3.length l0_3) (hc0_3 : l0_3.length ≤ c0_3) (hr0_4 : Kd.C k103 w A0_4 l0_4.length l0_4) (hc0_4 : l0_4.length ≤ c0_4) (h : transposallaw10_B_Light.f k l0_0 l0_1 a0_2 l0_3 l0_4 = some r) :
  Calls Tryz.prog 23 #[.agg #[.slice A0_0 l0_0.length c0_0, .slice A0_1 l0_1.length c0_1, .int .i16 a0_2, .slice A0_3 l0_3.length c0_3, .slice A0_4 l0_4.length c0_4]] w fun e w' => e = .returned (.bool r) ∧ Below w.heap.size w w' := by
 have hu57 := Tryz.underlying57
 have hu103 := Tryz.underlying103
 have HR0_0 := Aside0.mk hr0_0
 have HC0_0 := Aside0.mk hc0_0
 clear hr0_0 hc0_0
 have HR0_1 := Aside0.mk hr0_1
 have HC0_1 := Aside0.mk hc0_1
 clear hr0_1 hc0_1
 have HR0_3 := Aside0.mk hr0_3
 have HC0_3 := Aside0.mk hc0_3
 clear hr0_3 hc0_3
 have HR0_4 := Aside0.mk hr0_4
 have HC0_4 := Aside0.mk hc0_4
 clear hr0_4 hc0_4
 have HB := Aside0.mk (Below.refl w.heap.size w)
 have H : (transposallaw10_B_Light.l0 k l0_4 (l0_4.length : Int) 0 l0_0 l0_1 a0_2 l0_3 l0_4) = some r := h
 clear h
 have H' := Aside0.mk H
 clear H
 go_enter Tryz.func23, Tryz.ntmps23
 go_wp2_with (first | ((with_reducible refine gate_dst (N := 1) rfl ?_); (try (refine gate_guard (by rfl) ?_; dsimp only)); refine box_event ?hg (N := 1) ?hd (cs := #[.slice A0_0 l0_0.length c0_0, .slice A0_1 l0_1.length c0_1, .int .i16 a0_2, .slice A0_3 l0_3.length c0_3, .slice A0_4 l0_4.length c0_4]) (t := 57) ?hr ?_; (case hd => rfl); (case hg => rfl); (case hr => first | (go_simp; done) | (go_simp; rfl)); intro gb109 hg w2 hbox hb; have n0_ := Aside0.mk (below_step bB hb); have n1_ := Aside0.mk (hbox); have n2_ := Aside0.mk ((by rw [hg]; exact (below_size bB) : w.heap.size ≤ gb109)); have n3_ := Aside0.mk ((by rw [hg]; exact (below_size bB) : w.heap.size ≤ gb109)); clear HB; have HB := n0_; have BK109 := n1_; have GW109 := n2_; have GE109 := n3_; clear n0_ n1_ n2_ n3_; clear hb hbox hg; obtain ⟨hcz3_0, hcz3_1, hcz3_2, hcz3_3, hcz3_4, hfz3_0, hfz3_1, hfz3_2, hfz3_3, hfz3_4⟩ := cl5 BK109.out))
 go_loopg [8] k (fun kq v8 w' => ∃ (x8_1 : Int), v8 = .int .i64 x8_1 ∧ Aside0 (transposallaw10_B_Light.l0 kq l0_4 (l0_4.length : Int) x8_1 l0_0 l0_1 a0_2 l0_3 l0_4 = some r) ∧ Aside0 (kq ≤ k) ∧ Aside0 (w'.heap[gb109]? = some (.cells #[(.slice A0_0 l0_0.length c0_0), (.slice A0_1 l0_1.length c0_1), .int .i16 a0_2, (.slice A0_3 l0_3.length c0_3), (.slice A0_4 l0_4.length c0_4)] 57 (0, 0))) ∧ Aside0 (Below w.heap.size w w'))
 case atStart => exact ⟨(0), eS, H', ⟨Nat.le_refl _⟩, ⟨blk_below BK109.out oN⟩, ⟨bG⟩⟩
 case round =>
  clear H'
  try clear c2
  try clear p2
  try clear hcz3_0
  try clear hcz3_1
  try clear hcz3_2
  try clear hcz3_3
  try clear hcz3_4
  try clear hfz3_0
  try clear hfz3_1
  try clear hfz3_2
  try clear hfz3_3
  try clear hfz3_4
  obtain ⟨x8_1, rfl, HA, HK1, BK109, HB⟩ := hrel
  cases gk with
  | zero => exact absurd HA.out (by simp [transposallaw10_B_Light.l0])
  | succ k1 =>
   have H := HA.out
   clear HA
   simp only [transposallaw10_B_Light.l0] at H
   by_cases c4 : x8_1 < (l0_4.length : Int)
   ·rw [if_pos c4] at H
    have c4b0 : decide (x8_1 < (l0_4.length : Int)) = true := decide_eq_true c4
    clear c4
    by_cases c5 : 0 ≤ x8_1
    ·rw [if_pos c5] at H
     have c5b0 : decide (0 ≤ x8_1) = true := decide_eq_true c5
     clear c5
     by_cases c6 : x8_1 < (l0_4.length : Int)
     ·rw [if_pos c6] at H
      have c6b0 : decide (x8_1 < (l0_4.length : Int)) = true := decide_eq_true c6
      clear c6
      by_cases c7 : (((rd_T103 l0_4 x8_1).f1).length : Int) > 8
      ·rw [if_pos c7] at H
       have c7b0 : decide (8 < (((rd_T103 l0_4 x8_1).f1).length : Int)) = true := decide_eq_true c7
       have c7b1 : decide (8 < ((rd_T103 l0_4 x8_1).f1).length) = true := decide_eq_true (by omega)
       clear c7
       obtain rfl := Option.some.inj H
       have p110 : 0 ≤ (x8_1 : Int) := of_decide_eq_true aS
       have q110 : x8_1 < (l0_4.length : Int) := of_decide_eq_true aS
       obtain ⟨ad110, A110_1, c110_1, e110, hx110_0, hx110_1, hl110_1, hi110_1⟩ := at_T103 HR0_4.out x8_1 p110 q110
       cases e110
       replace hx110_0 := (HB.out.cell (World.block_lt_of_cell? w _ hx110_0)).trans hx110_0
       replace hx110_1 := (HB.out.cell (World.block_lt_of_cell? w _ hx110_1)).trans hx110_1
       have HR110_1 := Aside0.mk hi110_1
       have HC110_1 := Aside0.mk hl110_1
       clear hi110_1 hl110_1
       replace p110 := eq_true p110
       replace q110 := eq_true q110
       go_wp2_with (first | ((with_reducible refine gate_dst (N := 4) rfl ?_); (try (refine gate_guard (by rfl) ?_; dsimp only)); refine box_event ?hg (N := 4) ?hd (cs := #[.int .u8 0, .slice none 0 0]) (t := 103) ?hr ?_; (case hd => rfl); (case hg => rfl); (case hr => first | (go_simp; done) | (go_simp; rfl)); intro gb111 hg w8 hbox hb; have n0_ := Aside0.mk (blk_below (blk_below BK109.out oN) hb); have n1_ := Aside0.mk (below_step bG hb); have n2_ := Aside0.mk (hbox); have n3_ := Aside0.mk ((by rw [hg]; exact (below_size bG) : w.heap.size ≤ gb111)); have n4_ := Aside0.mk ((by rw [hg]; exact (below_size bG) : w.heap.size ≤ gb111)); have n5_ := Aside0.mk ((by rw [hg]; exact Nat.ne_of_lt (blk_lt (g := gb109) (o := .cells #[.slice A0_0 l0_0.length c0_0, .slice A0_1 l0_1.length c0_1, .int .i16 a0_2, .slice A0_3 l0_3.length c0_3, .slice (some ad110) l0_4.length c0_4] 57 (0, 0)) (blk_below BK109.out oN)) : gb109 ≠ gb111)); have n6_ := Aside0.mk ((by rw [hg]; exact Nat.ne_of_gt (blk_lt (g := gb109) (o := .cells #[.slice A0_0 l0_0.length c0_0, .slice A0_1 l0_1.length c0_1, .int .i16 a0_2, .slice A0_3 l0_3.length c0_3, .slice (some ad110) l0_4.length c0_4] 57 (0, 0)) (blk_below BK109.out oN)) : gb111 ≠ gb109)); clear BK109; clear HB; have BK109 := n0_; have HB := n1_; have BK111 := n2_; have GW111 := n3_; have GE111 := n4_; have NB109_111 := n5_; have NB111_109 := n6_; clear n0_ n1_ n2_ n3_ n4_ n5_ n6_; clear hb hbox hg; have hnb9 := NB111_109.out; have hnc9 := NB109_111.out; obtain ⟨hcz10_0, hcz10_1, hfz10_0, hfz10_1⟩ := cl2 BK111.out))
       go_ret
       exact ⟨eR, bG⟩
      ·rw [if_neg c7] at H
       have c7b0 : decide (8 < (((rd_T103 l0_4 x8_1).f1).length : Int)) = false := decide_eq_false c7
       have c7b1 : decide (8 < ((rd_T103 l0_4 x8_1).f1).length) = false := decide_eq_false (by omega)
       clear c7
       have H' := Aside0.mk H
       clear H
       have p110 : 0 ≤ (x8_1 : Int) := of_decide_eq_true aS
       have q110 : x8_1 < (l0_4.length : Int) := of_decide_eq_true aS
       obtain ⟨ad110, A110_1, c110_1, e110, hx110_0, hx110_1, hl110_1, hi110_1⟩ := at_T103 HR0_4.out x8_1 p110 q110
       cases e110
       replace hx110_0 := (HB.out.cell (World.block_lt_of_cell? w _ hx110_0)).trans hx110_0
       replace hx110_1 := (HB.out.cell (World.block_lt_of_cell? w _ hx110_1)).trans hx110_1
       have HR110_1 := Aside0.mk hi110_1
       have HC110_1 := Aside0.mk hl110_1
       clear hi110_1 hl110_1
       replace p110 := eq_true p110
       replace q110 := eq_true q110
       go_wp2_with (first | ((with_reducible refine gate_dst (N := 4) rfl ?_); (try (refine gate_guard (by rfl) ?_; dsimp only)); refine box_event ?hg (N := 4) ?hd (cs := #[.int .u8 0, .slice none 0 0]) (t := 103) ?hr ?_; (case hd => rfl); (case hg => rfl); (case hr => first | (go_simp; done) | (go_simp; rfl)); intro gb111 hg w11 hbox hb; have n0_ := Aside0.mk (blk_below (blk_below BK109.out oN) hb); have n1_ := Aside0.mk (below_step bG hb); have n2_ := Aside0.mk (hbox); have n3_ := Aside0.mk ((by rw [hg]; exact (below_size bG) : w.heap.size ≤ gb111)); have n4_ := Aside0.mk ((by rw [hg]; exact (below_size bG) : w.heap.size ≤ gb111)); have n5_ := Aside0.mk ((by rw [hg]; exact Nat.ne_of_lt (blk_lt (g := gb109) (o := .cells #[.slice A0_0 l0_0.length c0_0, .slice A0_1 l0_1.length c0_1, .int .i16 a0_2, .slice A0_3 l0_3.length c0_3, .slice (some ad110) l0_4.length c0_4] 57 (0, 0)) (blk_below BK109.out oN)) : gb109 ≠ gb111)); have n6_ := Aside0.mk ((by rw [hg]; exact Nat.ne_of_gt (blk_lt (g := gb109) (o := .cells #[.slice A0_0 l0_0.length c0_0, .slice A0_1 l0_1.length c0_1, .int .i16 a0_2, .slice A0_3 l0_3.length c0_3, .slice (some ad110) l0_4.length c0_4] 57 (0, 0)) (blk_below BK109.out oN)) : gb111 ≠ gb109)); clear BK109; clear HB; have BK109 := n0_; have HB := n1_; have BK111 := n2_; have GW111 := n3_; have GE111 := n4_; have NB109_111 := n5_; have NB111_109 := n6_; clear n0_ n1_ n2_ n3_ n4_ n5_ n6_; clear hb hbox hg; have hnb12 := NB111_109.out; have hnc12 := NB109_111.out; obtain ⟨hcz13_0, hcz13_1, hfz13_0, hfz13_1⟩ := cl2 BK111.out))
       go_roundg k1
       case measure => have := HK1.out; omega
       case rel => exact ⟨(wrap64 (x8_1 + 1)), eS, H', ⟨by have := HK1.out; omega⟩, ⟨by (with_reducible repeat (first | refine blk_drewN ?_ _ | refine blk_drew ?_ | refine blk_alloc ?_ _)); refine blk_far ?_ NB109_111.out _; (with_reducible repeat (first | refine blk_drewN ?_ _ | refine blk_drew ?_ | refine blk_alloc ?_ _)); refine blk_far ?_ NB109_111.out _; (with_reducible repeat (first | refine blk_drewN ?_ _ | refine blk_drew ?_ | refine blk_alloc ?_ _)); exact BK109.out⟩, ⟨bG⟩⟩
     ·rw [if_neg c6] at H
      exact absurd H (by simp)
    ·rw [if_neg c5] at H
     exact absurd H (by simp)
   ·rw [if_neg c4] at H
    have c4b0 : decide (x8_1 < (l0_4.length : Int)) = false := decide_eq_false c4
    clear c4
    by_cases c14 : (l0_0.length : Int) ≤ 20
    ·rw [if_pos c14] at H
     have c14b0 : decide ((l0_0.length : Int) ≤ 20) = true := decide_eq_true c14
     have c14b1 : decide (l0_0.length ≤ 20) = true := decide_eq_true (by omega)
     clear c14
     by_cases c15 : (l0_1.length : Int) ≤ 8
     ·rw [if_pos c15] at H
      have c15b0 : decide ((l0_1.length : Int) ≤ 8) = true := decide_eq_true c15
      have c15b1 : decide (l0_1.length ≤ 8) = true := decide_eq_true (by omega)
      clear c15
      by_cases c16 : (l0_3.length : Int) ≤ 8
      ·rw [if_pos c16] at H
       have c16b0 : decide ((l0_3.length : Int) ≤ 8) = true := decide_eq_true c16
       have c16b1 : decide (l0_3.length ≤ 8) = true := decide_eq_true (by omega)
       clear c16
       obtain rfl := Option.some.inj H
       obtain ⟨hcz17_0, hcz17_1, hcz17_2, hcz17_3, hcz17_4, hfz17_0, hfz17_1, hfz17_2, hfz17_3, hfz17_4⟩ := cl5 BK109.out
       go_wp2
       go_ret
       exact ⟨eR, bG⟩
      ·rw [if_neg c16] at H
       have c16b0 : decide ((l0_3.length : Int) ≤ 8) = false := decide_eq_false c16
       have c16b1 : decide (l0_3.length ≤ 8) = false := decide_eq_false (by omega)
       clear c16
       obtain rfl := Option.some.inj H
       obtain ⟨hcz18_0, hcz18_1, hcz18_2, hcz18_3, hcz18_4, hfz18_0, hfz18_1, hfz18_2, hfz18_3, hfz18_4⟩ := cl5 BK109.out
       go_wp2
       go_ret
       exact ⟨eR, bG⟩
     ·rw [if_neg c15] at H
      have c15b0 : decide ((l0_1.length : Int) ≤ 8) = false := decide_eq_false c15
      have c15b1 : decide (l0_1.length ≤ 8) = false := decide_eq_false (by omega)
      clear c15
      obtain rfl := Option.some.inj H
      obtain ⟨hcz19_0, hcz19_1, hcz19_2, hcz19_3, hcz19_4, hfz19_0, hfz19_1, hfz19_2, hfz19_3, hfz19_4⟩ := cl5 BK109.out
      go_wp2
      go_ret
      exact ⟨eR, bG⟩
    ·rw [if_neg c14] at H
     have c14b0 : decide ((l0_0.length : Int) ≤ 20) = false := decide_eq_false c14
     have c14b1 : decide (l0_0.length ≤ 20) = false := decide_eq_false (by omega)
     clear c14
     obtain rfl := Option.some.inj H
     obtain ⟨hcz20_0, hcz20_1, hcz20_2, hcz20_3, hcz20_4, hfz20_0, hfz20_1, hfz20_2, hfz20_3, hfz20_4⟩ := cl5 BK109.out
     go_wp2
     go_ret
     exact ⟨eR, bG⟩

/-! ### transposallaw06_get: function 68 -/
def transposallaw06_get.l0 : Nat → Int → List (S109) → Int → Int → Option (Int × ByteArray × Int × Int × Bool)
 | 0, _, _, _, _ => none
 | k + 1, x1, x8, x9, x10 => if x10 < x9 then (if 0 ≤ x10 then (if x10 < (x8.length : Int) then (if ((rd_T109 x8 x10).f0) = x1 then (some ((rd_T109 x8 x10).f0, (rd_T109 x8 x10).f1, (rd_T109 x8 x10).f2, (rd_T109 x8 x10).f3, true)) else (transposallaw06_get.l0 k x1 x8 x9 (wrap64 (x10 + 1)))) else (none)) else (none)) else (some (0, (⟨#[]⟩ : ByteArray), 0, 0, false))
def transposallaw06_get.f (k : Nat) (l0 : List (S109)) (a1 : Int) : Option (Int × ByteArray × Int × Int × Bool) := transposallaw06_get.l0 k a1 l0 (l0.length : Int) 0
theorem transposallaw06_get.mono_l : ∀ k, (∀ y0 y1 y2 y3, LeO (transposallaw06_get.l0 k y0 y1 y2 y3) (transposallaw06_get.l0 (k + 1) y0 y1 y2 y3))
 | 0 => fun _ _ _ _ r h => by simp [transposallaw06_get.l0] at h
 | k + 1 => by
  have ih0 := transposallaw06_get.mono_l k
  ·intro y0 y1 y2 y3
   unfold transposallaw06_get.l0
   repeat' (with_reducible first | apply ih0 | apply LeO.refl | apply LeO.none | refine LeO.ite ?_ ?_ | refine LeO.bind ?_ (fun _ => ?_))
theorem transposallaw06_get.mono : ∀ a0 a1 k, LeO (transposallaw06_get.f k a0 a1) (transposallaw06_get.f (k + 1) a0 a1) := by
 intro a0 a1 k
 have ih0 := transposallaw06_get.mono_l k
 unfold transposallaw06_get.f
 repeat' (with_reducible first | apply ih0 | apply LeO.refl | apply LeO.none | refine LeO.ite ?_ ?_ | refine LeO.bind ?_ (fun _ => ?_))
set_option maxHeartbeats 8000000 in
set_option maxRecDepth 100000 in
theorem transposallaw06_get.calls (k : Nat) (A0 : Option Addr) (c0 : Nat) (l0 : List (S109)) (a1 : Int) (r1 : Int) (r2 : ByteArray) (r3 : Int) (r4 : Int) (r5 : Bool) (w : World) (hr0 : Kd.C k109 w A0 l0.length l0) (hc0 : l0.length ≤ c0) (h : transposallaw06_get.f k l0 a1 = some (r1, r2, r3, r4, r5)) :
  Calls Tryz.prog 68 #[.slice A0 l0.length c0, .int .u32 a1] w fun e w' => e = .returned (.tuple #[.agg #[.int .u32 r1, .string r2, .int .u8 r3, .int .u32 r4], .bool r5]) ∧ Below w.heap.size w w' := by
 have hu109 := Tryz.underlying109
 have HR0 := Aside0.mk hr0
 have HC0 := Aside0.mk hc0
 clear hr0 hc0
 have HB := Aside0.mk (Below.refl w.heap.size w)
 have H : (transposallaw06_get.l0 k a1 l0 (l0.length : Int) 0) = some (r1, r2, r3, r4, r5) := h
 clear h
 have H' := Aside0.mk H
 clear H
 go_enter Tryz.func68, Tryz.ntmps68
 go_wp2_with (first | ((with_reducible refine gate_dst (N := 4) rfl ?_); refine box_event ?hg (N := 4) ?hd (cs := #[.int .u32 0, .string (⟨#[]⟩ : ByteArray), .int .u8 0, .int .u32 0]) (t := 109) ?hr ?_; (case hd => rfl); (case hg => rfl); (case hr => first | (go_simp; done) | (go_simp; rfl)); intro gb112 hg w3 hbox hb; have n0_ := Aside0.mk (below_step bB hb); have n1_ := Aside0.mk (hbox); have n2_ := Aside0.mk ((by rw [hg]; exact (below_size bB) : w.heap.size ≤ gb112)); have n3_ := Aside0.mk ((by rw [hg]; exact (below_size bB) : w.heap.size ≤ gb112)); clear HB; have HB := n0_; have BK112 := n1_; have GW112 := n2_; have GE112 := n3_; clear n0_ n1_ n2_ n3_; clear hb hbox hg))
 go_loopg [10] k (fun kq v10 w' => ∃ (x10_1 : Int) (x113000_1 : Int) (x113001_1 : ByteArray) (x113002_1 : Int) (x113003_1 : Int), v10 = .int .i64 x10_1 ∧ Aside0 (transposallaw06_get.l0 kq a1 l0 (l0.length : Int) x10_1 = some (r1, r2, r3, r4, r5)) ∧ Aside0 (kq ≤ k) ∧ Aside0 (w'.heap[gb112]? = some (.cells #[.int .u32 x113000_1, .string x113001_1, .int .u8 x113002_1, .int .u32 x113003_1] 109 (0, 0))) ∧ Aside0 (Below w.heap.size w w'))
 case atStart => exact ⟨(0), (0), ((⟨#[]⟩ : ByteArray)), (0), (0), eS, H', ⟨Nat.le_refl _⟩, ⟨blk_below BK112.out oN⟩, ⟨bG⟩⟩
 case round =>
  clear H'
  try clear p2
  obtain ⟨x10_1, x113000_1, x113001_1, x113002_1, x113003_1, rfl, HA, HK1, BK112, HB⟩ := hrel
  cases gk with
  | zero => exact absurd HA.out (by simp [transposallaw06_get.l0])
  | succ k1 =>
   have H := HA.out
   clear HA
   simp only [transposallaw06_get.l0] at H
   by_cases c4 : x10_1 < (l0.length : Int)
   ·rw [if_pos c4] at H
    have c4b0 : decide (x10_1 < (l0.length : Int)) = true := decide_eq_true c4
    clear c4
    by_cases c5 : 0 ≤ x10_1
    ·rw [if_pos c5] at H
     have c5b0 : decide (0 ≤ x10_1) = true := decide_eq_true c5
     clear c5
     by_cases c6 : x10_1 < (l0.length : Int)
     ·rw [if_pos c6] at H
      have c6b0 : decide (x10_1 < (l0.length : Int)) = true := decide_eq_true c6
      clear c6
      by_cases c7 : ((rd_T109 l0 x10_1).f0) = a1
      ·rw [if_pos c7] at H
       have c7b0 : (((rd_T109 l0 x10_1).f0) == a1) = true := beq_iff_eq.mpr c7
       have c7b1 : (((rd_T109 l0 x10_1).f0) != a1) = false := bne_eq_false_iff_eq.mpr c7
       clear c7
       simp only [Option.some.injEq, Prod.mk.injEq] at H
       obtain ⟨rfl, rfl, rfl, rfl, rfl⟩ := H
       have p113 : 0 ≤ (x10_1 : Int) := of_decide_eq_true aS
       have q113 : x10_1 < (l0.length : Int) := of_decide_eq_true aS
       obtain ⟨ad113, e113, hx113_0, hx113_1, hx113_2, hx113_3⟩ := at_T109 HR0.out x10_1 p113 q113
       cases e113
       replace hx113_0 := (HB.out.cell (World.block_lt_of_cell? w _ hx113_0)).trans hx113_0
       replace hx113_1 := (HB.out.cell (World.block_lt_of_cell? w _ hx113_1)).trans hx113_1
       replace hx113_2 := (HB.out.cell (World.block_lt_of_cell? w _ hx113_2)).trans hx113_2
       replace hx113_3 := (HB.out.cell (World.block_lt_of_cell? w _ hx113_3)).trans hx113_3
       replace p113 := eq_true p113
       replace q113 := eq_true q113
       go_wp2_with (first | ((with_reducible refine gate_dst (N := 7) rfl ?_); refine box_event ?hg (N := 7) ?hd (cs := #[.int .u32 0, .string (⟨#[]⟩ : ByteArray), .int .u8 0, .int .u32 0]) (t := 109) ?hr ?_; (case hd => rfl); (case hg => rfl); (case hr => first | (go_simp; done) | (go_simp; rfl)); intro gb114 hg w8 hbox hb; have n0_ := Aside0.mk (blk_below (blk_below BK112.out oN) hb); have n1_ := Aside0.mk (below_step bG hb); have n2_ := Aside0.mk (hbox); have n3_ := Aside0.mk ((by rw [hg]; exact (below_size bG) : w.heap.size ≤ gb114)); have n4_ := Aside0.mk ((by rw [hg]; exact (below_size bG) : w.heap.size ≤ gb114)); have n5_ := Aside0.mk ((by rw [hg]; exact Nat.ne_of_lt (blk_lt (g := gb112) (o := .cells #[.int .u32 x113000_1, .string x113001_1, .int .u8 x113002_1, .int .u32 x113003_1] 109 (0, 0)) (blk_below BK112.out oN)) : gb112 ≠ gb114)); have n6_ := Aside0.mk ((by rw [hg]; exact Nat.ne_of_gt (blk_lt (g := gb112) (o := .cells #[.int .u32 x113000_1, .string x113001_1, .int .u8 x113002_1, .int .u32 x113003_1] 109 (0, 0)) (blk_below BK112.out oN)) : gb114 ≠ gb112)); clear BK112; clear HB; have BK112 := n0_; have HB := n1_; have BK114 := n2_; have GW114 := n3_; have GE114 := n4_; have NB112_114 := n5_; have NB114_112 := n6_; clear n0_ n1_ n2_ n3_ n4_ n5_ n6_; clear hb hbox hg; have hnb9 := NB114_112.out; have hnc9 := NB112_114.out; obtain ⟨hcz10_0, hcz10_1, hcz10_2, hcz10_3, hfz10_0, hfz10_1, hfz10_2, hfz10_3⟩ := cl4 BK114.out; obtain ⟨hcz11_0, hcz11_1, hcz11_2, hcz11_3, hfz11_0, hfz11_1, hfz11_2, hfz11_3⟩ := cl4 BK112.out))
       refine bodyPost_ret (results_ct rfl _ _ gb112 109 #[.int .u32 ((rd_T109 l0 x10_1).f0), .string ((rd_T109 l0 x10_1).f1), .int .u8 ((rd_T109 l0 x10_1).f2), .int .u32 ((rd_T109 l0 x10_1).f3)] (0, 0) _ rfl (by (with_reducible repeat (first | refine blk_drewN ?_ _ | refine blk_drew ?_ | refine blk_alloc ?_ _)); refine blk_put (cs := #[.int .u32 ((rd_T109 l0 x10_1).f0), .string ((rd_T109 l0 x10_1).f1), .int .u8 ((rd_T109 l0 x10_1).f2), .int .u32 x113003_1]) ?_ 3 _ rfl; (with_reducible repeat (first | refine blk_drewN ?_ _ | refine blk_drew ?_ | refine blk_alloc ?_ _)); refine blk_put (cs := #[.int .u32 ((rd_T109 l0 x10_1).f0), .string ((rd_T109 l0 x10_1).f1), .int .u8 x113002_1, .int .u32 x113003_1]) ?_ 2 _ rfl; (with_reducible repeat (first | refine blk_drewN ?_ _ | refine blk_drew ?_ | refine blk_alloc ?_ _)); refine blk_put (cs := #[.int .u32 ((rd_T109 l0 x10_1).f0), .string x113001_1, .int .u8 x113002_1, .int .u32 x113003_1]) ?_ 1 _ rfl; (with_reducible repeat (first | refine blk_drewN ?_ _ | refine blk_drew ?_ | refine blk_alloc ?_ _)); refine blk_put (cs := #[.int .u32 x113000_1, .string x113001_1, .int .u8 x113002_1, .int .u32 x113003_1]) ?_ 0 _ rfl; (with_reducible repeat (first | refine blk_drewN ?_ _ | refine blk_drew ?_ | refine blk_alloc ?_ _)); refine blk_far ?_ NB112_114.out _; (with_reducible repeat (first | refine blk_drewN ?_ _ | refine blk_drew ?_ | refine blk_alloc ?_ _)); refine blk_far ?_ NB112_114.out _; (with_reducible repeat (first | refine blk_drewN ?_ _ | refine blk_drew ?_ | refine blk_alloc ?_ _)); refine blk_far ?_ NB112_114.out _; (with_reducible repeat (first | refine blk_drewN ?_ _ | refine blk_drew ?_ | refine blk_alloc ?_ _)); refine blk_far ?_ NB112_114.out _; (with_reducible repeat (first | refine blk_drewN ?_ _ | refine blk_drew ?_ | refine blk_alloc ?_ _)); exact BK112.out) Tryz.underlying109 rfl (by kernel_rfl)) rfl ?_
       exact ⟨eR, bG⟩
      ·rw [if_neg c7] at H
       have c7b0 : (((rd_T109 l0 x10_1).f0) == a1) = false := beq_eq_false_iff_ne.mpr c7
       have c7b1 : (((rd_T109 l0 x10_1).f0) != a1) = true := bne_iff_ne.mpr c7
       have H' := Aside0.mk H
       clear H
       have p113 : 0 ≤ (x10_1 : Int) := of_decide_eq_true aS
       have q113 : x10_1 < (l0.length : Int) := of_decide_eq_true aS
       obtain ⟨ad113, e113, hx113_0, hx113_1, hx113_2, hx113_3⟩ := at_T109 HR0.out x10_1 p113 q113
       cases e113
       replace hx113_0 := (HB.out.cell (World.block_lt_of_cell? w _ hx113_0)).trans hx113_0
       replace hx113_1 := (HB.out.cell (World.block_lt_of_cell? w _ hx113_1)).trans hx113_1
       replace hx113_2 := (HB.out.cell (World.block_lt_of_cell? w _ hx113_2)).trans hx113_2
       replace hx113_3 := (HB.out.cell (World.block_lt_of_cell? w _ hx113_3)).trans hx113_3
       replace p113 := eq_true p113
       replace q113 := eq_true q113
       go_wp2_with (first | ((with_reducible refine gate_dst (N := 7) rfl ?_); refine box_event ?hg (N := 7) ?hd (cs := #[.int .u32 0, .string (⟨#[]⟩ : ByteArray), .int .u8 0, .int .u32 0]) (t := 109) ?hr ?_; (case hd => rfl); (case hg => rfl); (case hr => first | (go_simp; done) | (go_simp; rfl)); intro gb114 hg w12 hbox hb; have n0_ := Aside0.mk (blk_below (blk_below BK112.out oN) hb); have n1_ := Aside0.mk (below_step bG hb); have n2_ := Aside0.mk (hbox); have n3_ := Aside0.mk ((by rw [hg]; exact (below_size bG) : w.heap.size ≤ gb114)); have n4_ := Aside0.mk ((by rw [hg]; exact (below_size bG) : w.heap.size ≤ gb114)); have n5_ := Aside0.mk ((by rw [hg]; exact Nat.ne_of_lt (blk_lt (g := gb112) (o := .cells #[.int .u32 x113000_1, .string x113001_1, .int .u8 x113002_1, .int .u32 x113003_1] 109 (0, 0)) (blk_below BK112.out oN)) : gb112 ≠ gb114)); have n6_ := Aside0.mk ((by rw [hg]; exact Nat.ne_of_gt (blk_lt (g := gb112) (o := .cells #[.int .u32 x113000_1, .string x113001_1, .int .u8 x113002_1, .int .u32 x113003_1] 109 (0, 0)) (blk_below BK112.out oN)) : gb114 ≠ gb112)); clear BK112; clear HB; have BK112 := n0_; have HB := n1_; have BK114 := n2_; have GW114 := n3_; have GE114 := n4_; have NB112_114 := n5_; have NB114_112 := n6_; clear n0_ n1_ n2_ n3_ n4_ n5_ n6_; clear hb hbox hg; have hnb13 := NB114_112.out; have hnc13 := NB112_114.out; obtain ⟨hcz14_0, hcz14_1, hcz14_2, hcz14_3, hfz14_0, hfz14_1, hfz14_2, hfz14_3⟩ := cl4 BK114.out))
       go_roundg k1
       case measure => have := HK1.out; omega
       case rel => exact ⟨(wrap64 (x10_1 + 1)), (x113000_1), (x113001_1), (x113002_1), (x113003_1), eS, H', ⟨by have := HK1.out; omega⟩, ⟨by (with_reducible repeat (first | refine blk_drewN ?_ _ | refine blk_drew ?_ | refine blk_alloc ?_ _)); refine blk_far ?_ NB112_114.out _; (with_reducible repeat (first | refine blk_drewN ?_ _ | refine blk_drew ?_ | refine blk_alloc ?_ _)); refine blk_far ?_ NB112_114.out _; (with_reducible repeat (first | refine blk_drewN ?_ _ | refine blk_drew ?_ | refine blk_alloc ?_ _)); refine blk_far ?_ NB112_114.out _; (with_reducible repeat (first | refine blk_drewN ?_ _ | refine blk_drew ?_ | refine blk_alloc ?_ _)); refine blk_far ?_ NB112_114.out _; (with_reducible repeat (first | refine blk_drewN ?_ _ | refine blk_drew ?_ | refine blk_alloc ?_ _)); exact BK112.out⟩, ⟨bG⟩⟩
     ·rw [if_neg c6] at H
      exact absurd H (by simp)
    ·rw [if_neg c5] at H
     exact absurd H (by simp)
   ·rw [if_neg c4] at H
    have c4b0 : decide (x10_1 < (l0.length : Int)) = false := decide_eq_false c4
    clear c4
    simp only [Option.some.injEq, Prod.mk.injEq] at H
    obtain ⟨rfl, rfl, rfl, rfl, rfl⟩ := H
    obtain ⟨hcz15_0, hcz15_1, hcz15_2, hcz15_3, hfz15_0, hfz15_1, hfz15_2, hfz15_3⟩ := cl4 BK112.out
    go_wp2
    refine bodyPost_ret (results_ct rfl _ _ gb112 109 #[.int .u32 0, .string (⟨#[]⟩ : ByteArray), .int .u8 0, .int .u32 0] (0, 0) _ rfl (by (with_reducible repeat (first | refine blk_drewN ?_ _ | refine blk_drew ?_ | refine blk_alloc ?_ _)); refine blk_put (cs := #[.int .u32 0, .string (⟨#[]⟩ : ByteArray), .int .u8 0, .int .u32 x113003_1]) ?_ 3 _ rfl; (with_reducible repeat (first | refine blk_drewN ?_ _ | refine blk_drew ?_ | refine blk_alloc ?_ _)); refine blk_put (cs := #[.int .u32 0, .string (⟨#[]⟩ : ByteArray), .int .u8 x113002_1, .int .u32 x113003_1]) ?_ 2 _ rfl; (with_reducible repeat (first | refine blk_drewN ?_ _ | refine blk_drew ?_ | refine blk_alloc ?_ _)); refine blk_put (cs := #[.int .u32 0, .string x113001_1, .int .u8 x113002_1, .int .u32 x113003_1]) ?_ 1 _ rfl; (with_reducible repeat (first | refine blk_drewN ?_ _ | refine blk_drew ?_ | refine blk_alloc ?_ _)); refine blk_put (cs := #[.int .u32 x113000_1, .string x113001_1, .int .u8 x113002_1, .int .u32 x113003_1]) ?_ 0 _ rfl; (with_reducible repeat (first | refine blk_drewN ?_ _ | refine blk_drew ?_ | refine blk_alloc ?_ _)); exact BK112.out) Tryz.underlying109 rfl (by kernel_rfl)) rfl ?_
    exact ⟨eR, bG⟩

/-! ### transposallaw06_Way: function 86 -/
def transposallaw06_Way.l0 : Nat → List (S109) → Int → List Int → Option (List Int)
 | 0, _, _, _ => none
 | k + 1, x0, x1, x5 => if (x5.length : Int) < 13 then ((transposallaw06_get.f k x0 x1).bind fun bt115 => (if bt115.2.2.2.2 = true then (if x5.length < 35184372088832 then (transposallaw06_Way.l0 k x0 bt115.2.2.2.1 (x5 ++ [x1])) else (none)) else (some x5))) else (some x5)
def transposallaw06_Way.f (k : Nat) (l0 : List (S109)) (a1 : Int) : Option (List Int) := transposallaw06_Way.l0 k l0 a1 ([] : List Int)
theorem transposallaw06_Way.mono_l : ∀ k, (∀ y0 y1 y2, LeO (transposallaw06_Way.l0 k y0 y1 y2) (transposallaw06_Way.l0 (k + 1) y0 y1 y2))
 | 0 => fun _ _ _ r h => by simp [transposallaw06_Way.l0] at h
 | k + 1 => by
  have ih0 := transposallaw06_Way.mono_l k
  ·intro y0 y1 y2
   unfold transposallaw06_Way.l0
   repeat' (with_reducible first | apply ih0 | apply transposallaw06_get.mono | apply LeO.refl | apply LeO.none | refine LeO.ite ?_ ?_ | refine LeO.bind ?_ (fun _ => ?_))
theorem transposallaw06_Way.mono : ∀ a0 a1 k, LeO (transposallaw06_Way.f k a0 a1) (transposallaw06_Way.f (k + 1) a0 a1) := by
 intro a0 a1 k
 have ih0 := transposallaw06_Way.mono_l k
 unfold transposallaw06_Way.f
 repeat' (with_reducible first | apply ih0 | apply transposallaw06_get.mono | apply LeO.refl | apply LeO.none | refine LeO.ite ?_ ?_ | refine LeO.bind ?_ (fun _ => ?_))
set_option maxHeartbeats 8000000 in
set_option maxRecDepth 100000 in
theorem transposallaw06_Way.calls (k : Nat) (A0 : Option Addr) (c0 : Nat) (l0 : List (S109)) (a1 : Int) (r : List Int) (w : World) (hr0 : Kd.C k109 w A0 l0.length l0) (hc0 : l0.length ≤ c0) (h : transposallaw06_Way.f k l0 a1 = some r) :
  Calls Tryz.prog 86 #[.slice A0 l0.length c0, .int .u32 a1] w fun e w' => ∃ v0_ : Value, e = .returned (v0_) ∧ Kd.R (Kd.int .u32) 25 w' w.heap.size (fun _ => True) v0_ r ∧ Below w.heap.size w w' := by
 have hu109 := Tryz.underlying109
 have HR0 := Aside0.mk hr0
 have HC0 := Aside0.mk hc0
 clear hr0 hc0
 have HB := Aside0.mk (Below.refl w.heap.size w)
 have H : (transposallaw06_Way.l0 k l0 a1 ([] : List Int)) = some r := h
 clear h
 have H' := Aside0.mk H
 clear H
 go_enter Tryz.func86, Tryz.ntmps86
 go_wp2
 go_loopg [1, 5] k (fun kq v1 v5 w' => ∃ (x1_1 : Int) (x5_1 : List Int), v1 = .int .u32 x1_1 ∧ Aside0 (transposallaw06_Way.l0 kq l0 x1_1 x5_1 = some r) ∧ Aside0 (kq ≤ k) ∧ Aside0 (Kd.R (Kd.int .u32) 25 w' w.heap.size (fun _ => True) v5 x5_1) ∧ Aside0 (Below w.heap.size w w'))
 case atStart => exact ⟨(a1), (([] : List Int)), eS, H', ⟨Nat.le_refl _⟩, ⟨by first | exact Kd.R_nil _ _ _ _ _ | exact Kd.N_nil _ _ _ _ _ | exact Kd.V_nil _ _ _ _ _ | exact Kd.Q_nil _ _ _ _ _ | exact Kd.S_nil _ _ _ _ _⟩, ⟨bB⟩⟩
 case round =>
  clear H'
  try clear p2
  obtain ⟨x1_1, x5_1, rfl, HA, HK1, HO_5, HB⟩ := hrel
  cases gk with
  | zero => exact absurd HA.out (by simp [transposallaw06_Way.l0])
  | succ k1 =>
   have H := HA.out
   clear HA
   simp only [transposallaw06_Way.l0] at H
   by_cases c3 : (x5_1.length : Int) < 13
   ·rw [if_pos c3] at H
    have c3b0 : decide ((x5_1.length : Int) < 13) = true := decide_eq_true c3
    have c3b1 : decide (x5_1.length < 13) = true := decide_eq_true (by omega)
    clear c3
    replace H := Option.bind_eq_some_iff.mp H
    obtain ⟨⟨t115, t116, t117, t118, t119⟩, A40, H⟩ := H
    replace H : (if t119 = true then (if x5_1.length < 35184372088832 then (transposallaw06_Way.l0 k1 l0 t118 (x5_1 ++ [x1_1])) else (none)) else (some x5_1)) = some r := H
    have A4 := Aside0.mk A40
    clear A40
    by_cases c5 : t119 = true
    ·subst c5
     have H1 : (if x5_1.length < 35184372088832 then (transposallaw06_Way.l0 k1 l0 t118 (x5_1 ++ [x1_1])) else (none)) = some r := by rw [if_pos rfl] at H; exact H
     clear H
     have H := H1
     clear H1
     by_cases c6 : x5_1.length < 35184372088832
     ·rw [if_pos c6] at H
      have LMc6 := Aside0.mk c6
      clear c6
      obtain ⟨y121, hy121⟩ : ∃ y_ : List Int, y_ = (x5_1 ++ [x1_1]) := ⟨_, rfl⟩
      replace H : (transposallaw06_Way.l0 k1 l0 t118 y121) = some r := by first | (rw [hy121]; with_reducible exact H) | (have H2_ := (Option.bind_some _ _).symm.trans H; rw [hy121]; with_reducible exact H2_) | (have H2_ := (Option.bind_some _ _).symm.trans H; with_reducible exact H2_) | with_reducible exact H | (rw [hy121]; exact H) | exact H
      have Ny121 := Aside0.mk hy121
      clear hy121
      have H' := Aside0.mk H
      clear H
      obtain ⟨Ao7, co7, eo7⟩ := Kd.R_slice HO_5.out
      subst eo7
      go_wp2_with (first | ((with_reducible refine gate_callee (f := 68) rfl ?_); refine goesL_ (some 14) rfl rfl Tryz.func68 (by kernel_rfl) rfl #[.slice A0 l0.length c0, .int .u32 x1_1] rfl eA ?_; (with_reducible refine (transposallaw06_get.calls k1 _ _ l0 x1_1 t115 t116 t117 t118 true _ ?side1 ?side2 A4.out).mono ?_); (case side1 => exact Kd.C_below ((Kd.C_below HR0.out HB.out)) oN); (case side2 => exact HC0.out); rintro e w8 ⟨rfl, hb⟩; refine ⟨_, rfl, ?_⟩; replace HO_5 := Aside0.mk (Kd.R_below (Kd.R_below HO_5.out oN) hb); replace HB := Aside0.mk (below_step bB hb); (try clear hb); (try clear hb2); (try clear hk); (try clear hi)) | ((with_reducible refine gate_dst (N := 6) rfl ?_); refine box_event ?hg (N := 6) ?hd (cs := #[.int .u32 0, .string (⟨#[]⟩ : ByteArray), .int .u8 0, .int .u32 0]) (t := 109) ?hr ?_; (case hd => rfl); (case hg => rfl); (case hr => first | (go_simp; done) | (go_simp; rfl)); intro gb120 hg w9 hbox hb; have n0_ := Aside0.mk (Kd.R_below (Kd.R_below HO_5.out oN) hb); have n1_ := Aside0.mk (below_step bB hb); have n2_ := Aside0.mk (hbox); have n3_ := Aside0.mk ((by rw [hg]; exact (below_size bB) : w.heap.size ≤ gb120)); have n4_ := Aside0.mk ((by rw [hg]; exact (below_size bB) : w.heap.size ≤ gb120)); clear HO_5; clear HB; have HO_5 := n0_; have HB := n1_; have BK120 := n2_; have GW120 := n3_; have GE120 := n4_; clear n0_ n1_ n2_ n3_ n4_; clear hb hbox hg; obtain ⟨hcz10_0, hcz10_1, hcz10_2, hcz10_3, hfz10_0, hfz10_1, hfz10_2, hfz10_3⟩ := cl4 BK120.out) | ((with_reducible refine gate_builtin (b := .append) (xs := #[.tmp 19, .tmp 21]) rfl ?_); at_builtin; refine Kd.R_append (Kd.int .u32) (w0 := w) w.heap.size rfl (.tmp 19) (.tmp 21) 149 25 (.int .u32 0) 4 rfl Tryz.underlying149 info25 rfl (by decide) (by omega) (.slice Ao7 x5_1.length co7) x5_1 x1_1 [.int .u32 x1_1] (fun _ => True) (fun _ => False) rfl (by first | (go_simp; done) | (go_simp; rfl)) ?aP (fun _ hk => hk.elim) ?aF ?aO ?aB ?aS ?aL ?_; (case aP => exact rfl); (case aB => exact bG); (case aF => exact (fun _ _ => trivial)); (case aO => exact (by (with_reducible repeat (first | apply Kd.R_alloc | apply Kd.R_drewN | apply Kd.R_drew)); exact Kd.R_mono (Kd.R_far (p := ⟨gb120, 3, none⟩) (Kd.R_far (p := ⟨gb120, 2, none⟩) (Kd.R_far (p := ⟨gb120, 1, none⟩) (Kd.R_far (p := ⟨gb120, 0, none⟩) (Kd.R_types HO_5.out BK120.out (by decide)) (fun _ hk => hk.2) (.int .u32 t115)) (fun _ hk => hk.2) (.string t116)) (fun _ hk => hk.2) (.int .u8 t117)) (fun _ hk => hk.2) (.int .u32 t118)) (fun _ hk => trivial))); (case aS => exact (below_size bG)); (case aL => have := LMc6.out; omega); intro v122 w11 ho hb hg hat; rw [← Ny121.out] at ho; replace BK120 := Aside0.mk (blk_grown (g := gb120) (o := .cells #[.int .u32 t115, .string t116, .int .u8 t117, .int .u32 t118] 109 (0, 0)) (by (with_reducible repeat (first | refine blk_drewN ?_ _ | refine blk_drew ?_ | refine blk_alloc ?_ _)); refine blk_put (cs := #[.int .u32 t115, .string t116, .int .u8 t117, .int .u32 0]) ?_ 3 _ rfl; (with_reducible repeat (first | refine blk_drewN ?_ _ | refine blk_drew ?_ | refine blk_alloc ?_ _)); refine blk_put (cs := #[.int .u32 t115, .string t116, .int .u8 0, .int .u32 0]) ?_ 2 _ rfl; (with_reducible repeat (first | refine blk_drewN ?_ _ | refine blk_drew ?_ | refine blk_alloc ?_ _)); refine blk_put (cs := #[.int .u32 t115, .string (⟨#[]⟩ : ByteArray), .int .u8 0, .int .u32 0]) ?_ 1 _ rfl; (with_reducible repeat (first | refine blk_drewN ?_ _ | refine blk_drew ?_ | refine blk_alloc ?_ _)); refine blk_put (cs := #[.int .u32 0, .string (⟨#[]⟩ : ByteArray), .int .u8 0, .int .u32 0]) ?_ 0 _ rfl; (with_reducible repeat (first | refine blk_drewN ?_ _ | refine blk_drew ?_ | refine blk_alloc ?_ _)); exact BK120.out) hg (Kd.R_ne HO_5.out BK120.out (by decide))); replace HB := Aside0.mk (hb); replace HO123 := Aside0.mk (ho); clear ho hb hg hat; obtain ⟨hcz12_0, hcz12_1, hcz12_2, hcz12_3, hfz12_0, hfz12_1, hfz12_2, hfz12_3⟩ := cl4 BK120.out))
      go_roundg k1
      case measure => have := HK1.out; omega
      case rel => exact ⟨(t118), (y121), eS, H', ⟨by have := HK1.out; omega⟩, ⟨Kd.R_below HO123.out oN⟩, ⟨bG⟩⟩
     ·rw [if_neg c6] at H
      exact absurd H (by simp)
    ·replace c5 := Bool.eq_false_iff.mpr c5
     subst c5
     have H1 : (some x5_1) = some r := by rw [if_neg (show ¬ (false = true) by decide)] at H; exact H
     clear H
     have H := H1
     clear H1
     obtain rfl := Option.some.inj H
     obtain ⟨Ao13, co13, eo13⟩ := Kd.R_slice HO_5.out
     subst eo13
     go_wp2_with (first | ((with_reducible refine gate_callee (f := 68) rfl ?_); refine goesL_ (some 14) rfl rfl Tryz.func68 (by kernel_rfl) rfl #[.slice A0 l0.length c0, .int .u32 x1_1] rfl eA ?_; (with_reducible refine (transposallaw06_get.calls k1 _ _ l0 x1_1 t115 t116 t117 t118 false _ ?side1 ?side2 A4.out).mono ?_); (case side1 => exact Kd.C_below ((Kd.C_below HR0.out HB.out)) oN); (case side2 => exact HC0.out); rintro e w14 ⟨rfl, hb⟩; refine ⟨_, rfl, ?_⟩; replace HO_5 := Aside0.mk (Kd.R_below (Kd.R_below HO_5.out oN) hb); replace HB := Aside0.mk (below_step bB hb); (try clear hb); (try clear hb2); (try clear hk); (try clear hi)) | ((with_reducible refine gate_dst (N := 6) rfl ?_); refine box_event ?hg (N := 6) ?hd (cs := #[.int .u32 0, .string (⟨#[]⟩ : ByteArray), .int .u8 0, .int .u32 0]) (t := 109) ?hr ?_; (case hd => rfl); (case hg => rfl); (case hr => first | (go_simp; done) | (go_simp; rfl)); intro gb120 hg w15 hbox hb; have n0_ := Aside0.mk (Kd.R_below (Kd.R_below HO_5.out oN) hb); have n1_ := Aside0.mk (below_step bB hb); have n2_ := Aside0.mk (hbox); have n3_ := Aside0.mk ((by rw [hg]; exact (below_size bB) : w.heap.size ≤ gb120)); have n4_ := Aside0.mk ((by rw [hg]; exact (below_size bB) : w.heap.size ≤ gb120)); clear HO_5; clear HB; have HO_5 := n0_; have HB := n1_; have BK120 := n2_; have GW120 := n3_; have GE120 := n4_; clear n0_ n1_ n2_ n3_ n4_; clear hb hbox hg; obtain ⟨hcz16_0, hcz16_1, hcz16_2, hcz16_3, hfz16_0, hfz16_1, hfz16_2, hfz16_3⟩ := cl4 BK120.out))
     go_ret
     exact ⟨_, eR, by (with_reducible repeat (first | apply Kd.R_alloc | apply Kd.R_drewN | apply Kd.R_drew)); exact Kd.R_mono (Kd.R_far (p := ⟨gb120, 3, none⟩) (Kd.R_far (p := ⟨gb120, 2, none⟩) (Kd.R_far (p := ⟨gb120, 1, none⟩) (Kd.R_far (p := ⟨gb120, 0, none⟩) (Kd.R_types HO_5.out BK120.out (by decide)) (fun _ hk => hk.2) (.int .u32 t115)) (fun _ hk => hk.2) (.string t116)) (fun _ hk => hk.2) (.int .u8 t117)) (fun _ hk => hk.2) (.int .u32 t118)) (fun _ hk => trivial), bG⟩
   ·rw [if_neg c3] at H
    have c3b0 : decide ((x5_1.length : Int) < 13) = false := decide_eq_false c3
    have c3b1 : decide (x5_1.length < 13) = false := decide_eq_false (by omega)
    clear c3
    obtain rfl := Option.some.inj H
    obtain ⟨Ao17, co17, eo17⟩ := Kd.R_slice HO_5.out
    subst eo17
    go_wp2
    go_ret
    exact ⟨_, eR, by (with_reducible repeat (first | apply Kd.R_alloc | apply Kd.R_drewN | apply Kd.R_drew)); exact HO_5.out, bB⟩

/-! ### transposallaw06_deep: function 69 -/
def transposallaw06_deep.f (k : Nat) (l0 : List (S109)) (a1 : Int) : Option (Int) := (transposallaw06_Way.f k l0 a1).bind fun t124 => (some (t124.length : Int))
theorem transposallaw06_deep.mono : ∀ a0 a1 k, LeO (transposallaw06_deep.f k a0 a1) (transposallaw06_deep.f (k + 1) a0 a1) := by
 intro a0 a1 k
 unfold transposallaw06_deep.f
 repeat' (with_reducible first | apply transposallaw06_Way.mono | apply LeO.refl | apply LeO.none | refine LeO.ite ?_ ?_ | refine LeO.bind ?_ (fun _ => ?_))
set_option maxHeartbeats 8000000 in
set_option maxRecDepth 100000 in
theorem transposallaw06_deep.calls (k : Nat) (A0 : Option Addr) (c0 : Nat) (l0 : List (S109)) (a1 : Int) (r : Int) (w : World) (hr0 : Kd.C k109 w A0 l0.length l0) (hc0 : l0.length ≤ c0) (h : transposallaw06_deep.f k l0 a1 = some r) :
  Calls Tryz.prog 69 #[.slice A0 l0.length c0, .int .u32 a1] w fun e w' => e = .returned (.int .i64 r) ∧ Below w.heap.size w w' := by
 have HR0 := Aside0.mk hr0
 have HC0 := Aside0.mk hc0
 clear hr0 hc0
 have HB := Aside0.mk (Below.refl w.heap.size w)
 have H : ((transposallaw06_Way.f k l0 a1).bind fun t124 => (some (t124.length : Int))) = some r := h
 clear h
 replace H := Option.bind_eq_some_iff.mp H
 obtain ⟨t124, A30, H⟩ := H
 replace H : (some (t124.length : Int)) = some r := H
 have A3 := Aside0.mk A30
 clear A30
 obtain rfl := Option.some.inj H
 go_enter Tryz.func69, Tryz.ntmps69
 go_wp2_with (first | ((with_reducible refine gate_callee (f := 86) rfl ?_); refine goesL_ (some 7) rfl rfl Tryz.func86 (by kernel_rfl) rfl #[.slice A0 l0.length c0, .int .u32 a1] rfl eA ?_; (with_reducible refine (transposallaw06_Way.calls k _ _ l0 a1 t124 _ ?side1 ?side2 A3.out).mono ?_); (case side1 => exact Kd.C_below (HR0.out) oN); (case side2 => exact HC0.out); rintro e w4 ⟨v125, rfl, ho0, hb⟩; refine ⟨_, rfl, ?_⟩; replace HO126 := Aside0.mk (Kd.R_lower ho0 (below_size bB)); replace HB := Aside0.mk (below_step bB hb); (try clear hb); (try clear hb2); (try clear hk); (try clear hi); (try clear ho0); obtain ⟨Ao5, co5, eo5⟩ := Kd.R_slice HO126.out; subst eo5))
 go_ret
 exact ⟨eR, bB⟩

/-! ### transposallaw06_Name: function 77 -/
def transposallaw06_Name.f (a0 : Int) : Option (ByteArray) := (some (([(⟨#[67, 97, 115, 104]⟩ : ByteArray), (⟨#[97]⟩ : ByteArray), (⟨#[66, 97, 110, 107, 32, 49]⟩ : ByteArray), (⟨#[76, 111, 115, 115, 46, 120]⟩ : ByteArray), (⟨#[49, 50, 51, 52, 53, 54, 55, 56, 57, 48, 49, 50, 51, 52, 53, 54, 55, 56, 57, 48, 49, 50, 51, 52, 53, 54, 55, 56, 57, 48]⟩ : ByteArray)] : List ByteArray) : List ByteArray)).bind fun y127 => (if 0 ≤ (Int.tmod a0 5) then (if (Int.tmod a0 5) < (y127.length : Int) then (some (rdOf ByteArray.empty y127 (Int.tmod a0 5))) else (none)) else (none))
set_option maxHeartbeats 8000000 in
set_option maxRecDepth 100000 in
theorem transposallaw06_Name.calls (a0 : Int) (r : ByteArray) (w : World) (h : transposallaw06_Name.f a0 = some r) :
  Calls Tryz.prog 77 #[.int .u8 a0] w fun e w' => e = .returned (.string r) ∧ Below w.heap.size w w' := by
 have HB := Aside0.mk (Below.refl w.heap.size w)
 have H : ((some (([(⟨#[67, 97, 115, 104]⟩ : ByteArray), (⟨#[97]⟩ : ByteArray), (⟨#[66, 97, 110, 107, 32, 49]⟩ : ByteArray), (⟨#[76, 111, 115, 115, 46, 120]⟩ : ByteArray), (⟨#[49, 50, 51, 52, 53, 54, 55, 56, 57, 48, 49, 50, 51, 52, 53, 54, 55, 56, 57, 48, 49, 50, 51, 52, 53, 54, 55, 56, 57, 48]⟩ : ByteArray)] : List ByteArray) : List ByteArray)).bind fun y127 => (if 0 ≤ (Int.tmod a0 5) then (if (Int.tmod a0 5) < (y127.length : Int) then (some (rdOf ByteArray.empty y127 (Int.tmod a0 5))) else (none)) else (none))) = some r := h
 clear h
 obtain ⟨y127, hy127⟩ : ∃ y_ : List ByteArray, y_ = (([(⟨#[67, 97, 115, 104]⟩ : ByteArray), (⟨#[97]⟩ : ByteArray), (⟨#[66, 97, 110, 107, 32, 49]⟩ : ByteArray), (⟨#[76, 111, 115, 115, 46, 120]⟩ : ByteArray), (⟨#[49, 50, 51, 52, 53, 54, 55, 56, 57, 48, 49, 50, 51, 52, 53, 54, 55, 56, 57, 48, 49, 50, 51, 52, 53, 54, 55, 56, 57, 48]⟩ : ByteArray)] : List ByteArray)) := ⟨_, rfl⟩
 replace H : (if 0 ≤ (Int.tmod a0 5) then (if (Int.tmod a0 5) < (y127.length : Int) then (some (rdOf ByteArray.empty y127 (Int.tmod a0 5))) else (none)) else (none)) = some r := by first | (rw [hy127]; with_reducible exact H) | (have H2_ := (Option.bind_some _ _).symm.trans H; rw [hy127]; with_reducible exact H2_) | (have H2_ := (Option.bind_some _ _).symm.trans H; with_reducible exact H2_) | with_reducible exact H | (rw [hy127]; exact H) | exact H
 have Ny127 := Aside0.mk hy127
 clear hy127
 obtain ⟨ji2, hji2⟩ : ∃ j_ : Int, (Int.tmod a0 5) = j_ := ⟨_, rfl⟩
 replace H : (if 0 ≤ (ji2) then (if (ji2) < (y127.length : Int) then (some (rdOf ByteArray.empty y127 (ji2))) else (none)) else (none)) = some r := by first | (rw [hji2] at H; exact H) | (simp only [hji2] at H ⊢; exact H)
 by_cases c3 : 0 ≤ (ji2)
 ·rw [if_pos c3] at H
  have c3b0 : decide (0 ≤ (ji2)) = true := decide_eq_true c3
  clear c3
  by_cases c4 : (ji2) < (y127.length : Int)
  ·rw [if_pos c4] at H
   have c4b0 : decide ((ji2) < (y127.length : Int)) = true := decide_eq_true c4
   clear c4
   obtain rfl := Option.some.inj H
   go_enter Tryz.func77, Tryz.ntmps77
   go_wp2_with (first | ((with_reducible refine gate_dst (N := 3) rfl ?_); refine Kd.R_lit Kd.string _ 9 ?hg (N := 3) ?hd (xs := ([(⟨#[67, 97, 115, 104]⟩ : ByteArray), (⟨#[97]⟩ : ByteArray), (⟨#[66, 97, 110, 107, 32, 49]⟩ : ByteArray), (⟨#[76, 111, 115, 115, 46, 120]⟩ : ByteArray), (⟨#[49, 50, 51, 52, 53, 54, 55, 56, 57, 48, 49, 50, 51, 52, 53, 54, 55, 56, 57, 48, 49, 50, 51, 52, 53, 54, 55, 56, 57, 48]⟩ : ByteArray)] : List ByteArray)) (inner := [.string (⟨#[67, 97, 115, 104]⟩ : ByteArray), .string (⟨#[97]⟩ : ByteArray), .string (⟨#[66, 97, 110, 107, 32, 49]⟩ : ByteArray), .string (⟨#[76, 111, 115, 115, 46, 120]⟩ : ByteArray), .string (⟨#[49, 50, 51, 52, 53, 54, 55, 56, 57, 48, 49, 50, 51, 52, 53, 54, 55, 56, 57, 48, 49, 50, 51, 52, 53, 54, 55, 56, 57, 48]⟩ : ByteArray)]) (ok := fun _ => True) (okp := fun _ => True) ?hr ?hp (fun _ hk => hk) trivial (Below.refl _ _) (Nat.le_refl _) (by simp) ?_; (case hd => rfl); (case hg => rfl); (case hr => first | (go_simp; done) | (go_simp; rfl)); (case hp => exact (Reps.one (show Kd.M Kd.string _ _ _ (⟨#[67, 97, 115, 104]⟩ : ByteArray) [.string (⟨#[67, 97, 115, 104]⟩ : ByteArray)] from rfl) (Reps.one (show Kd.M Kd.string _ _ _ (⟨#[97]⟩ : ByteArray) [.string (⟨#[97]⟩ : ByteArray)] from rfl) (Reps.one (show Kd.M Kd.string _ _ _ (⟨#[66, 97, 110, 107, 32, 49]⟩ : ByteArray) [.string (⟨#[66, 97, 110, 107, 32, 49]⟩ : ByteArray)] from rfl) (Reps.one (show Kd.M Kd.string _ _ _ (⟨#[76, 111, 115, 115, 46, 120]⟩ : ByteArray) [.string (⟨#[76, 111, 115, 115, 46, 120]⟩ : ByteArray)] from rfl) (Reps.one (show Kd.M Kd.string _ _ _ (⟨#[49, 50, 51, 52, 53, 54, 55, 56, 57, 48, 49, 50, 51, 52, 53, 54, 55, 56, 57, 48, 49, 50, 51, 52, 53, 54, 55, 56, 57, 48]⟩ : ByteArray) [.string (⟨#[49, 50, 51, 52, 53, 54, 55, 56, 57, 48, 49, 50, 51, 52, 53, 54, 55, 56, 57, 48, 49, 50, 51, 52, 53, 54, 55, 56, 57, 48]⟩ : ByteArray)] from rfl) (Reps.none _ _))))))); intro v128 w5 ho6 hb hg_ hnew_; clear hg_ hnew_; (first | rw [← Ny127.out] at ho6 | (simp only [Int.reduceToNat] at ho6; rw [← Ny127.out] at ho6)); replace HO129 := Aside0.mk (Kd.R_lower ho6 (below_size bB)); replace HB := Aside0.mk (below_step bB hb); clear hb ho6; obtain ⟨Ao7, co7, eo7⟩ := Kd.R_slice HO129.out; subst eo7; have p130 : 0 ≤ ((ji2) : Int) := of_decide_eq_true aS; have q130 : (ji2) < (y127.length : Int) := of_decide_eq_true aS; obtain ⟨ad130, e130, hx130_0⟩ := Kd.at_string (Kd.R_reads' HO129.out).2.2 (ji2) p130 q130; cases e130; replace p130 := eq_true p130; replace q130 := eq_true q130))
   go_ret
   exact ⟨by first | rfl | (simp [errW_none, errW_some] <;> rfl) | (simp only [← hji2]; first | rfl | (simp [errW_none, errW_some] <;> rfl)) | (simp [*, errW_none, errW_some] <;> rfl), bB⟩
  ·rw [if_neg c4] at H
   exact absurd H (by simp)
 ·rw [if_neg c3] at H
  exact absurd H (by simp)

end Go.Proofs.YtddaogebacigbaaGreatDoor.XA
