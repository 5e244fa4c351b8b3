/- The evaluator's cfg of this seat: which functions, how each is run, what is told; that all is right; Awake holds. Conditions: none. -/
import Derived.Test.YtddaogebacigbaaGreatDoorRvW
import Derived.Test.YtddaogebacigbaaGreatDoorSvS
import Derived.Test.YtddaogebacigbaaGreatDoorXA1
import Derived.KernelRfl
namespace Go.Proofs.YtddaogebacigbaaGreatDoor.XA
open Go.RowKit Go.Proofs.YtddaogebacigbaaGreatDoorW.PrintWords Go.Proofs.YtddaogebacigbaaGreatDoorW.PrintLast Go.Proofs.YtddaogebacigbaaGreatDoorW.PrintMore
set_option linter.unusedVariables false
set_option linter.unusedSimpArgs false
namespace Awk
open RV
def fnsL : List Nat := [8, 9, 10, 11, 12, 13, 14, 15, 16, 18, 19, 20, 21, 22, 23, 24, 25, 26, 27, 28, 29, 30, 31, 32, 33, 34, 35, 36, 37, 38, 39, 40, 41, 42, 43, 44, 45, 46, 47, 48, 49, 50, 51, 52, 53, 54, 55, 56, 57, 58, 59, 60, 61, 62, 63, 64, 65, 66, 67, 68, 69, 70, 71, 72, 73, 74, 75, 76, 77, 78, 79, 80, 81, 82, 83, 84, 85, 86, 87, 88, 89, 91, 92, 93, 95, 96, 97, 98, 99, 100, 101, 102, 103, 104, 105, 106, 107, 108, 109, 110, 111, 114, 115, 116, 117, 118, 120, 121, 122, 123, 124, 125, 126, 127, 128, 129, 130, 131, 132, 133, 134, 135, 136, 137, 139, 140, 141, 142, 146, 147, 149, 150, 151, 152, 153, 154, 155, 156, 157, 158, 159, 160, 161, 162, 164, 165, 166, 167, 168, 169, 172, 173, 177, 178, 179, 180, 181, 182, 183, 184, 185, 186, 187, 188, 189, 190, 191, 192, 193, 194, 195, 196, 197, 198, 199, 200, 201, 203, 204, 205, 206, 207, 209, 210, 211, 212]
def modeL : List (Nat × Nat) := [(58, 5), (66, 2), (82, 2), (83, 2), (99, 2), (103, 2), (108, 2), (109, 2), (122, 2), (123, 2), (124, 2), (125, 2), (139, 2), (152, 2), (153, 2), (156, 2), (157, 2), (158, 2), (172, 2), (187, 2), (90, 3), (94, 3), (202, 3), (79, 2), (97, 2), (126, 2), (78, 1), (96, 1), (68, 1), (69, 1)]
def ownL : List (Nat × List Nat) := [(8, [3, 8, 15, 42]), (9, [7, 8, 9, 11, 19, 22, 28, 36, 44, 47, 48, 65, 68, 76, 81, 82, 83]), (10, [9, 20]), (11, [13, 14, 28, 30, 37]), (12, [0, 1, 13, 38, 42, 43, 48, 49, 55, 56, 65, 68, 69, 70]), (13, [1, 5]), (15, [5, 13]), (16, [5, 12]), (18, [4, 6, 27, 43]), (19, [4, 6, 35, 52]), (20, [2, 11]), (22, [1, 6]), (23, [4, 11]), (24, [2, 3, 15, 22, 28, 29]), (25, [4, 5, 31, 47, 48, 49]), (26, [9, 21]), (27, [5, 13]), (28, [2, 3, 6, 10, 23, 44, 49, 50, 52]), (31, [5, 10, 29, 66]), (32, [4, 8, 11, 12, 16, 20, 23, 24, 25, 26, 27, 28, 33, 34, 35, 36, 44, 52, 53, 54, 65, 71, 75, 84, 87, 94, 95, 96, 99, 106, 107, 108, 111, 116, 117, 118, 121, 124, 125, 126, 129, 134, 135, 136, 141, 154, 155, 156, 173, 174, 175, 185, 186, 187, 188, 206, 207, 208, 209]), (33, [5, 8, 26, 59]), (37, [5, 7, 8, 19, 55, 64]), (40, [7, 10, 13]), (42, [4, 28]), (43, [2, 7]), (44, [4, 5, 24, 25, 28]), (45, [4, 5, 16, 17, 25, 26, 27]), (49, [6, 7, 8, 15, 32, 50, 57, 59, 60, 61]), (51, [4, 6, 13, 30, 33, 34, 37, 38, 39]), (52, [4, 16, 20]), (54, [8, 9, 19, 22, 25, 26, 30]), (59, [3]), (60, [7, 13]), (66, [8, 9, 21, 25]), (68, [4, 7, 13, 18, 20]), (71, [4, 6, 7, 18, 53, 62]), (82, [0, 7, 25, 30, 32, 33]), (85, [5, 32]), (86, [6, 15]), (89, [6, 12, 25, 32]), (107, [2, 17, 19, 20]), (123, [0, 8, 12, 14, 15, 16]), (126, [0, 33, 35, 42, 46, 47, 48]), (127, [0, 33, 35, 44, 48, 49, 50]), (128, [0, 7, 17, 47, 49, 58, 62, 63, 64]), (130, [0, 14, 16, 21, 25, 26, 27]), (131, [0, 42, 44, 51, 55, 56, 57, 79, 81, 88, 92, 93, 94, 117, 119, 126, 130, 131, 132]), (133, [0, 11, 13, 18, 22, 23, 24, 65, 67, 72, 76, 77, 78]), (134, [0, 12, 14, 19, 23, 24, 25, 66, 68, 73, 77, 78, 79, 81, 83, 88, 92, 93, 94, 135, 137, 142, 146, 147, 148, 153, 155, 160, 164, 165, 166]), (152, [0, 7, 11, 12, 13]), (153, [0, 4, 13, 19, 20, 26, 27, 28, 29]), (154, [0, 53, 57, 66, 72, 73, 74]), (156, [0, 3, 10, 11, 12, 19, 20, 21, 28, 29]), (160, [9, 42]), (168, [0, 42, 45, 50, 52, 53, 54, 55, 58, 63, 65, 66, 67, 68, 71, 76, 78, 79, 80, 81, 84, 89, 91, 92, 93, 110, 113, 118, 120, 121, 122, 123, 126, 131, 133, 134, 135, 145, 148, 153, 155, 156, 157, 162, 165, 166]), (169, [12, 53, 54, 62, 63, 80, 81, 87, 88, 93]), (172, [3, 19, 22, 23]), (177, [10, 11, 46, 49, 59, 61, 68, 69, 70, 71, 98, 102, 103, 104, 106]), (186, [4, 5, 6, 11, 14, 21, 22]), (193, [4, 5, 10, 17, 18]), (197, [4, 46]), (211, [3, 9, 10])]
def dpL : List (Nat × List Nat) := [(8, [1]), (9, [3]), (10, [4]), (11, [6, 7]), (12, [10]), (15, [1, 7]), (18, [1, 7, 11, 16, 21]), (19, [1, 7, 13, 19, 24, 29, 45]), (20, [1, 3, 6]), (21, [2, 3, 5, 7, 11, 13]), (23, [1, 5, 17, 22, 28, 34]), (24, [1, 4, 7, 10, 12]), (25, [2, 3, 6, 8, 11, 18, 20, 23, 29, 32, 36, 38, 42]), (26, [2, 3, 12, 15, 26, 31, 41, 48]), (27, [2, 3, 8, 10, 18, 20, 26, 30, 32]), (28, [1, 17]), (29, [1, 5, 9, 14, 16]), (31, [1, 12, 18, 22, 38, 50, 51, 67]), (33, [1, 9, 15, 19, 35, 46, 47, 60]), (34, [2, 3, 7, 8, 10, 11, 15, 16, 18, 19, 24, 25, 26, 28, 29, 30, 35, 36, 37, 39, 40, 41, 47, 50, 55, 58, 67, 73, 82, 88]), (35, [2, 3, 5, 7, 11, 13, 18, 20]), (36, [2, 3, 5, 7, 11, 13]), (39, [1, 6, 11, 16, 19]), (40, [1, 6, 9, 12]), (42, [2, 3, 7, 9, 12, 15, 20]), (44, [2, 3, 14, 17]), (54, [2, 3, 13, 43, 56, 59]), (55, [2, 9, 23]), (61, [2, 7, 13, 17, 21, 28]), (65, [2, 3, 5, 7, 11, 13]), (93, [13]), (100, [2, 6, 11]), (146, [1, 3, 7, 12]), (160, [20, 41]), (167, [10]), (185, [2, 7, 15, 22, 31]), (191, [11]), (192, [11]), (204, [10]), (205, [10]), (206, [15]), (207, [15]), (212, [5])]
def badL : List (Nat × List Nat) := [(9, [6, 18]), (49, [12])]
def lookL (l : List (Nat × List Nat)) (f : Nat) : List Nat := match l with | [] => [] | (g, x) :: r => match Nat.beq f g with | true => x | false => lookL r f
def lookN (l : List (Nat × Nat)) (f : Nat) : Nat := match l with | [] => 0 | (g, x) :: r => match Nat.beq f g with | true => x | false => lookN r f
def memN (l : List Nat) (n : Nat) : Bool := match l with | [] => false | x :: r => Nat.beq x n || memN r n
def monthsP : List PV := monthsL.map fun n => PV.lit (.int .i64 n)
def pow10P : List PV := Lib.pow10Tab.map fun n => PV.lit (.int .u64 n)
def itoaA : List PV → Option PV
  | [.lit (.int .i64 n)] => if -9223372036854775808 ≤ n ∧ n ≤ 9223372036854775807 then some (.lit (.string ⟨(Lib.itoa n).toArray⟩)) else none
  | _ => none
def indexA : List PV → Option PV
  | [.lit (.string s), .lit (.string ⟨⟨[c]⟩⟩)] => some (.lit (.int .i64 (Lib.indexByte s.data.toList c)))
  | _ => none
def withA : List PV → Option PV
  | [.dsl 1 [.lit (.int .u16 1), .lit (.int .u16 3)] _, .lit (.int .u16 2)] => some (.dsl 1 [.lit (.int .u16 1), .lit (.int .u16 2), .lit (.int .u16 3)] none)
  | _ => none
def specA (f : FuncId) (args : List PV) : Option PV :=
  match Nat.beq f 94 with
  | true => itoaA args
  | false => match Nat.beq f 202 with
    | true => indexA args
    | false => match Nat.beq f 90 with
      | true => withA args
      | false => none
def globA (g : Nat) : Option (List PV) :=
  match Nat.beq g 0 with
  | true => some monthsP
  | false => match Nat.beq g 4 with
    | true => some pow10P
    | false => none
def lowA : Nat := max (max 0 4) (max 7 8) + 1
theorem staysA (w w' : World) (G : Glob w) (h : ∀ b, b < lowA → w'.heap[b]? = w.heap[b]?) : Glob w' := by
  have hc : ∀ b o, b < lowA → w'.cell? ⟨b, o, none⟩ = w.cell? ⟨b, o, none⟩ := fun b o hb => World.cell?_of_block (h b hb)
  refine ⟨fun i hi => (hc _ _ (by decide)).trans (G.months i hi), ?_, ?_, ?_⟩
  · have := G.pow10
    unfold Lib.TabIs World.var? at this ⊢
    rw [globalPow10] at this ⊢
    simp only [Option.bind_some] at this ⊢
    rw [h _ (by decide)]
    exact this
  · obtain ⟨te, pe, h1⟩ := G.synErr
    exact ⟨te, pe, (hc _ _ (by decide)).trans h1⟩
  · obtain ⟨te, pe, h1⟩ := G.rngErr
    exact ⟨te, pe, (hc _ _ (by decide)).trans h1⟩
noncomputable def cfg : Cfg := { P := Tryz.prog, fns := memN fnsL, mode := lookN modeL, spec := specA, glob := globA, own := fun f t => memN (lookL ownL f) t, dp := fun f t => memN (lookL dpL f) t, bad := fun f t => memN (lookL badL f) t, gl := lowA, ginv := Glob, gst := staysA }
def allB (p : Nat → Bool) : List Nat → Bool
  | [] => true
  | x :: r => p x && allB p r
theorem allB_mem {p : Nat → Bool} : ∀ {l : List Nat}, allB p l = true → ∀ n, memN l n = true → p n = true
  | [], _, n, h => by cases h
  | x :: r, h, n, hn => by
    simp only [allB, Bool.and_eq_true] at h
    simp only [memN, Bool.or_eq_true] at hn
    rcases hn with hn | hn
    · rw [← Nat.eq_of_beq_eq_true hn]; exact h.1
    · exact allB_mem h.2 n hn
set_option maxRecDepth 100000 in
theorem okL : allB (fnOK cfg drawOK) fnsL = true := by kernel_rfl
theorem mode3 : ∀ {l : List (Nat × Nat)} {f : Nat}, lookN l f = 3 → (f, 3) ∈ l
  | [], f, h => by simp [lookN] at h
  | (g, x) :: r, f, h => by
    simp only [lookN] at h
    split at h
    · rename_i e; have e := Nat.eq_of_beq_eq_true e; subst e; subst h; simp
    · exact List.mem_cons_of_mem _ (mode3 h)
theorem told3 (f : Nat) (h : lookN modeL f = 3) : f = 94 ∨ f = 202 ∨ f = 90 := by
  have := mode3 h
  simp [modeL] at this
  omega
set_option maxRecDepth 100000 in
theorem runA : callPure cfg (exec cfg 3000) 22 [] = some (.lit (.bool true)) := by kernel_rfl
theorem with_ok : unit_Units_With.f 100 [1, 3] 2 = some [1, 2, 3] := by decide +kernel
theorem cell_cells {w : World} {b o : Nat} {v : Value} (h : w.cell? ⟨b, o, none⟩ = some v) : ∃ cs t fz, w.heap[b]? = some (.cells cs t fz) ∧ cs[o]? = some v := by
  unfold World.cell? at h
  split at h
  · rename_i cs t fz hb
    exact ⟨cs, t, fz, hb, by simpa using h⟩
  · cases h
theorem baseA {w : World} (G : Glob w) (O : Nat → Prop) (hO : ∀ b, ¬ O b) : Base cfg O w where
  lt := fun b hb => (hO b hb).elim
  glob := by
    intro g l hg
    have hg : globA g = some l := hg
    unfold globA at hg
    split at hg
    · rename_i e
      cases hg
      rw [Nat.eq_of_beq_eq_true e]
      obtain ⟨cs, t, fz, hb, _⟩ := cell_cells (G.months 0 (by decide))
      refine V.dptr_iff.2 ⟨_, 0, monthsL.map (.int .i64), rfl, hO _, ⟨cs, t, fz, hb, fun i y hy => ?_⟩, ?_⟩
      · have hi : i < 12 := by have := (List.getElem?_eq_some_iff.1 hy).1; simpa [monthsL] using this
        obtain ⟨cs2, t2, fz2, hb2, h2⟩ := cell_cells (G.months i hi)
        rw [hb] at hb2
        cases hb2
        rw [Nat.zero_add, h2]
        rw [List.getElem?_map] at hy
        have hm : monthsL[i]? = some (monthsL.getD i 0) := by
          have : i < monthsL.length := hi
          simp [List.getD, this]
        rw [hm] at hy
        exact hy
      · have := VL.lits (w := w) (O := O) (ι := iota0) (monthsL.map (Value.int .i64))
        rw [List.map_map] at this
        exact this
    · split at hg
      · rename_i e
        cases hg
        rw [Nat.eq_of_beq_eq_true e]
        have hp := G.pow10
        unfold Lib.TabIs World.var? at hp
        rw [globalPow10] at hp
        simp only [Option.bind_some] at hp
        split at hp
        · rename_i cs t fz hb
          have hcs := Option.some.inj hp
          refine V.dptr_iff.2 ⟨_, 0, Lib.pow10Tab.map (.int .u64), rfl, hO _, ⟨cs, t, fz, hb, fun i y hy => ?_⟩, ?_⟩
          · rw [Nat.zero_add, hcs]
            simpa using hy
          · have := VL.lits (w := w) (O := O) (ι := iota0) (Lib.pow10Tab.map (Value.int .u64))
            rw [List.map_map] at this
            exact this
        · cases hp
      · cases hg
  low := fun b hb => by
    refine ⟨?_, hO b⟩
    obtain ⟨te, pe, h1⟩ := G.rngErr
    obtain ⟨cs, t, fz, h2, _⟩ := cell_cells h1
    have := (Array.getElem?_eq_some_iff.1 h2).1
    have hb : b < lowA := hb
    have hl : lowA ≤ 9 := by decide
    omega
  ginv := G
theorem args1 {w : World} {O : Nat → Prop} {ι : Iota} {p : PV} {vals : List Value} (h : VL w O ι [p] vals) : ∃ x, vals = [x] ∧ V w O ι p x := by
  obtain ⟨x, xs, rfl, hx, hs⟩ := VL.cons_iff.1 h
  rw [VL.nil_iff] at hs
  subst hs
  exact ⟨x, rfl, hx⟩
theorem args2 {w : World} {O : Nat → Prop} {ι : Iota} {p q : PV} {vals : List Value} (h : VL w O ι [p, q] vals) : ∃ x y, vals = [x, y] ∧ V w O ι p x ∧ V w O ι q y := by
  obtain ⟨x, xs, rfl, hx, hs⟩ := VL.cons_iff.1 h
  obtain ⟨y, rfl, hy⟩ := args1 hs
  exact ⟨x, y, rfl, hx, hy⟩
theorem told_itoa {w : World} {O : Nat → Prop} {args : List PV} {p : PV} {vals : List Value} (hB : Base cfg O w) (hv : VL w O iota0 args vals) (h : itoaA args = some p) :
    Calls Tryz.prog 94 vals.toArray w fun e w' => ∃ x, e = .returned x ∧ RV.Grown w w' ∧ V w' O iota0 p x := by
  unfold itoaA at h
  split at h
  · rename_i n
    split at h <;> cases h
    rename_i hn
    obtain ⟨x, rfl, hx⟩ := args1 hv
    obtain rfl := V.lit_iff.1 hx
    refine (strconv_Itoa.calls n _ w hB.ginv (by unfold strconv_Itoa.f; rw [if_pos hn])).mono ?_
    rintro e w' ⟨rfl, hb⟩
    exact ⟨_, rfl, .of_below hb, V.lit_iff.2 rfl⟩
  · cases h
theorem told_index {w : World} {O : Nat → Prop} {args : List PV} {p : PV} {vals : List Value} (hv : VL w O iota0 args vals) (h : indexA args = some p) :
    Calls Tryz.prog 202 vals.toArray w fun e w' => ∃ x, e = .returned x ∧ RV.Grown w w' ∧ V w' O iota0 p x := by
  unfold indexA at h
  split at h
  · rename_i s c
    cases h
    obtain ⟨x, y, rfl, hx, hy⟩ := args2 hv
    obtain rfl := V.lit_iff.1 hx
    obtain rfl := V.lit_iff.1 hy
    refine (Tryz.stringslite_Index_one s c w).mono ?_
    rintro e w' ⟨rfl, rfl⟩
    exact ⟨_, rfl, .refl, V.lit_iff.2 rfl⟩
  · cases h
theorem told_with {w : World} {O : Nat → Prop} {args : List PV} {p : PV} {vals : List Value} (hB : Base cfg O w) (hv : VL w O iota0 args vals) (h : withA args = some p) :
    Calls Tryz.prog 90 vals.toArray w fun e w' => ∃ x, e = .returned x ∧ RV.Grown w w' ∧ V w' O iota0 p x := by
  unfold withA at h
  split at h
  · rename_i cap
    cases h
    obtain ⟨x, y, rfl, hx, hy⟩ := args2 hv
    obtain rfl := V.lit_iff.1 hy
    obtain ⟨a, c, rfl, hc, _, hr⟩ := V.dsl_iff.1 hx
    rcases hr with hr | ⟨b, o, rfl, hOb, hVE⟩
    · cases hr
    have hC : Kd.C (Kd.int .u16) w (some ⟨b, o, none⟩) 2 [1, 3] := by
      refine ⟨rfl, by decide, fun _ => ⟨_, rfl, fun j q hq => ⟨[.int .u16 q], rfl, rfl, fun i u hu => ?_⟩⟩⟩
      have hl : ([.lit (.int .u16 1), .lit (.int .u16 3)] : List PV)[j]? = some (.lit (.int .u16 q)) := by
        rcases j with _ | _ | j <;> simp at hq <;> subst hq <;> simp
      obtain ⟨y, hy2, _, cs, t, fz, hb, hg⟩ := hVE.get j _ hl
      obtain rfl := V.lit_iff.1 hy2
      have hi : i = 0 := by have := (List.getElem?_eq_some_iff.1 hu).1; simpa using this
      subst hi
      have hu : Value.int .u16 q = u := by simpa using hu
      show w.cell? ((⟨b, o, none⟩ : Addr).add (j * 1 + 0)) = some u
      rw [Addr.add_mid, cell_of_row w b _ cs t fz hb, ← hu]
      have := hg 0 (.int .u16 q) rfl
      rw [← this]
      congr 1
    refine (unit_Units_With.calls 100 _ c [1, 3] 2 [1, 2, 3] w hC hc with_ok).mono ?_
    rintro e w' ⟨v, rfl, hR, hb⟩
    refine ⟨v, rfl, .of_below hb, ?_⟩
    obtain ⟨A, c2, rfl, hl, hC2⟩ := Kd.R_reads hR
    obtain ⟨_, inner, hown, _⟩ := hR
    rcases hown.2 with ⟨hv, _⟩ | ⟨g, cap2, cur, hv, hge, hheap, _⟩
    · cases hv
    cases hv
    obtain ⟨ad, had, hcell⟩ := hC2.2.2 (by decide)
    cases had
    refine V.dsl_iff.2 ⟨_, _, rfl, hl, fun k h => (by cases h), .inr ⟨g, 0, rfl, fun hh => absurd (hB.lt _ hh) (by omega), VE.of_get fun i q hq => ?_⟩⟩
    have hq2 : ∃ z, ([1, 2, 3] : List Int)[i]? = some z ∧ q = .lit (.int .u16 z) := by
      rcases i with _ | _ | _ | i <;> simp at hq <;> subst hq <;> simp
    obtain ⟨z, hz, rfl⟩ := hq2
    obtain ⟨cc, _, hcc, hget⟩ := hcell i z hz
    have hcc : cc = [Value.int .u16 z] := hcc
    have h0 : w'.cell? ((⟨g, 0, none⟩ : Addr).add (i * 1 + 0)) = some (.int .u16 z) := hget 0 _ (by rw [hcc]; rfl)
    rw [Addr.add_mid, cell_of_row w' g _ cur _ _ hheap] at h0
    refine ⟨.int .u16 z, V.lit_iff.2 rfl, rfl, cur, _, _, hheap, fun j y hy => ?_⟩
    have hj : j = 0 := by have := (List.getElem?_eq_some_iff.1 hy).1; simpa [Value.cells] using this
    subst hj
    have hy : Value.int .u16 z = y := by simpa [Value.cells] using hy
    rw [← hy, ← h0]
    congr 1
  · cases h
theorem cfgOK : CfgOK cfg drawOK where
  mixed := by kernel_rfl
  fn := fun f h => allB_mem okL f h
  told := fun f h => by
    rcases told3 f h with rfl | rfl | rfl
    · exact ⟨_, Tryz.func94, by decide, rfl⟩
    · exact ⟨_, Tryz.func202, by decide, rfl⟩
    · exact ⟨_, Tryz.func90, by decide, rfl⟩
  spec := fun f args p hm h w O vals hB hv => by
    rcases told3 f hm with rfl | rfl | rfl
    · exact told_itoa hB hv h
    · exact told_index hv h
    · exact told_with hB hv h
theorem callsA (w : World) (hG : Glob w) : Calls Tryz.prog 22 #[] w fun e w' => e = .returned (.bool true) ∧ Below w.heap.size w w' := by
  refine (callPure_sound (O := fun _ => False) cfgOK (exec_sound cfgOK 3000) (baseA hG _ fun _ h => h) (ι := iota0) (VL.nil_iff.2 rfl) runA).mono ?_
  rintro e w' ⟨x, rfl, hg, hv⟩
  obtain rfl := V.lit_iff.1 hv
  exact ⟨rfl, hg.below⟩
end Awk
end Go.Proofs.YtddaogebacigbaaGreatDoor.XA
