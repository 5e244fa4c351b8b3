/- A part of the symbolic runs of functions by the evaluator (TB3). Conditions: none. -/
import Derived.Test.YtddaogebacigbaaGreatDoorSb2
import Derived.Test.YtddaogebacigbaaGreatDoorSb1
import Derived.Test.YtddaogebacigbaaGreatDoorSvK
import Derived.Test.YtddaogebacigbaaGreatDoorSvS
open Go Go.Proofs.YtddaogebacigbaaGreatDoor.RV Go.Proofs.YtddaogebacigbaaGreatDoor.XA.Awk Go.Proofs.YtddaogebacigbaaGreatDoor.RV.ChartMath Go.Proofs
namespace Go.Proofs.YtddaogebacigbaaGreatDoor.RV.T
set_option maxRecDepth 100000
set_option linter.unusedVariables false
set_option linter.unusedSimpArgs false
theorem isnan16 (x : Int) : Fn cfg 159 [u16P x] (· = boolP false) := by
  refine Fn.go Tryz.func159 (L := [(0, _)]) rfl rfl rfl (by first | rfl | (simp [deepL, deepB, *]; done) | (simp [deepL, deepB, *]; rfl)) rfl ?_
  refine Ps.seq ?_
  refine Ps.region rfl ?_
  refine Rs.assign (p := .lit _) rfl rfl ?_
  refine Rs.nil ?_
  refine Ps.thn ?_
  refine Ps.seq ?_
  refine Ps.region rfl ?_
  refine Rs.move rfl rfl ?_
  refine Rs.move rfl rfl ?_
  refine Rs.binB rfl rfl rfl rfl rfl rfl ?_
  refine Rs.assign rfl rfl ?_
  refine Rs.nil ?_
  refine Ps.thn ?_
  refine Ps.ret ?_
  -- leaf 1 (ret)
  refine Ps.finP (l := [_]) rfl (by refine ResR.tmp rfl ?_; exact ResR.nil) (by first | rfl | simp [plainP, plainC, cp_lit, cp_dsl, *]) rfl ?_
  simp [one]
theorem less16 (x y : Int) : Fn cfg 132 [u16P x, u16P y] (· = boolP (decide (x < y))) := by
  refine Fn.go Tryz.func132 (L := [(0, _), (1, _)]) rfl rfl rfl (by first | rfl | (simp [deepL, deepB, *]; done) | (simp [deepL, deepB, *]; rfl)) rfl ?_
  refine Ps.seq ?_
  refine Ps.region rfl ?_
  refine Rs.assign (p := .lit _) rfl rfl ?_
  refine Rs.nil ?_
  refine Ps.thn ?_
  refine Ps.seq ?_
  refine Ps.region rfl ?_
  refine Rs.move rfl rfl ?_
  refine Rs.call0 rfl rfl rfl (isnan16 _) (fun p6 hp => ?_)
  obtain rfl := hp
  refine Rs.move rfl rfl ?_
  refine Rs.guard1 (w' := false) rfl rfl rfl (fun hg => ?_) (fun hg => ?_)
  · try (first | replace hg := D1 hg | replace hg := D2 hg | replace hg := D3 hg | replace hg := D4 hg | replace hg := D5 hg | replace hg := D6 hg | replace hg := D7 hg | replace hg := D8 hg | replace hg := D9 hg | replace hg := D10 hg)
    refine Rs.move rfl rfl ?_
    refine Rs.guardT rfl ?_
    refine Rs.call0 rfl rfl rfl (isnan16 _) (fun p9 hp => ?_)
    obtain rfl := hp
    refine Rs.guardT rfl ?_
    refine Rs.not rfl rfl ?_
    refine Rs.pickT (q := .lit _) rfl rfl rfl rfl ?_
    refine Rs.move rfl rfl ?_
    refine Rs.guard1 (w' := true) rfl rfl rfl (fun hg => ?_) (fun hg => ?_)
    · try (first | replace hg := D1 hg | replace hg := D2 hg | replace hg := D3 hg | replace hg := D4 hg | replace hg := D5 hg | replace hg := D6 hg | replace hg := D7 hg | replace hg := D8 hg | replace hg := D9 hg | replace hg := D10 hg)
      refine Rs.move rfl rfl ?_
      refine Rs.guardT rfl ?_
      refine Rs.move rfl rfl ?_
      refine Rs.guardT rfl ?_
      refine Rs.binB rfl rfl rfl rfl rfl rfl ?_
      refine Rs.pickF (p := .lit _) rfl rfl rfl rfl ?_
      refine Rs.assign rfl rfl ?_
      refine Rs.nil ?_
      refine Ps.thn ?_
      refine Ps.ret ?_
      -- leaf 1 (ret)
      refine Ps.finP (l := [_]) rfl (by refine ResR.tmp rfl ?_; exact ResR.nil) (by first | rfl | simp [plainP, plainC, cp_lit, cp_dsl, *]) rfl ?_
      simp_all [one]
    · try (first | replace hg := D1 hg | replace hg := D2 hg | replace hg := D3 hg | replace hg := D4 hg | replace hg := D5 hg | replace hg := D6 hg | replace hg := D7 hg | replace hg := D8 hg | replace hg := D9 hg | replace hg := D10 hg)
      refine Rs.guardF1 rfl rfl rfl ?_
      refine Rs.guardF1 rfl rfl rfl ?_
      refine Rs.pickT (p := .lit _) rfl rfl rfl rfl ?_
      refine Rs.assign rfl rfl ?_
      refine Rs.nil ?_
      refine Ps.thn ?_
      refine Ps.ret ?_
      -- leaf 2 (ret)
      refine Ps.finP (l := [_]) rfl (by refine ResR.tmp rfl ?_; exact ResR.nil) (by first | rfl | simp [plainP, plainC, cp_lit, cp_dsl, *]) rfl ?_
      simp_all [one]
  · try (first | replace hg := D1 hg | replace hg := D2 hg | replace hg := D3 hg | replace hg := D4 hg | replace hg := D5 hg | replace hg := D6 hg | replace hg := D7 hg | replace hg := D8 hg | replace hg := D9 hg | replace hg := D10 hg)
    refine Rs.guardF1 rfl rfl rfl ?_
    refine Rs.guardF1 rfl rfl rfl ?_
    refine Rs.pickF (q := .lit _) rfl rfl rfl rfl ?_
    refine Rs.move rfl rfl ?_
    refine Rs.guardT rfl ?_
    refine Rs.move rfl rfl ?_
    refine Rs.guardT rfl ?_
    refine Rs.move rfl rfl ?_
    refine Rs.guardT rfl ?_
    refine Rs.binB rfl rfl rfl rfl rfl rfl ?_
    refine Rs.pickF (p := .lit _) rfl rfl rfl rfl ?_
    refine Rs.assign rfl rfl ?_
    refine Rs.nil ?_
    refine Ps.thn ?_
    refine Ps.ret ?_
    -- leaf 3 (ret)
    refine Ps.finP (l := [_]) rfl (by refine ResR.tmp rfl ?_; exact ResR.nil) (by first | rfl | simp [plainP, plainC, cp_lit, cp_dsl, *]) rfl ?_
    simp_all [one]
def Srt (l : List Int) : Prop := l.Pairwise (· ≤ ·)
theorem srt_ins {A B : List Int} {x : Int} (h : Srt (A ++ B)) (h1 : ∀ a ∈ A, a ≤ x) (h2 : ∀ b ∈ B, x ≤ b) : Srt (A ++ x :: B) := by
  unfold Srt at h ⊢
  rw [List.pairwise_append] at h ⊢
  refine ⟨h.1, List.pairwise_cons.2 ⟨h2, h.2.1⟩, fun a ha b hb => ?_⟩
  rcases List.mem_cons.1 hb with rfl | hb
  · exact h1 a ha
  · exact h.2.2 a ha b hb
theorem srt_last {A : List Int} {y x : Int} (h : Srt (A ++ [y])) (hy : y ≤ x) : ∀ a ∈ A ++ [y], a ≤ x := by
  intro a ha
  rcases List.mem_append.1 ha with ha | ha
  · have := (List.pairwise_append.1 h).2.2 a ha y (by simp); omega
  · rw [List.mem_singleton.1 ha]; exact hy
theorem srt_left {A B : List Int} (h : Srt (A ++ B)) : Srt A := (List.pairwise_append.1 h).1
theorem perm_ins {A B C l : List Int} {x : Int} (h : (A ++ B ++ x :: C).Perm l) : (A ++ x :: B ++ C).Perm l := by
  refine List.Perm.trans ?_ h
  rw [List.append_assoc, List.append_assoc]
  exact List.Perm.append_left A List.perm_middle.symm
theorem insort (l : List Int) (id v : Nat) (M0 : Mem) (hl : l.length < 1000) (h0 : 1 ≤ l.length) : Fm0 cfg 126 [.own id v 1 0 l.length none, i64P 0, i64P l.length] ((id, v, .blk 1 (l.map u16P) true) :: M0) (fun _ M' => ∃ l', l'.Perm l ∧ Srt l' ∧ M' = (id, v, .blk 1 (l'.map u16P) true) :: M0) := by
  refine Fm0.go Tryz.func126 (L := [(0, _), (1, _), (2, _)]) rfl rfl rfl rfl ?_
  refine Ps.seq ?_
  refine Ps.region rfl ?_
  refine Rs.move rfl rfl ?_
  refine Rs.add rfl rfl rfl (by first | exact W_i64s (by omega) | exact W_i64 (by omega) (by omega) | rfl) ?_
  refine Rs.assign rfl rfl ?_
  refine Rs.nil ?_
  refine Ps.thn ?_
  refine Ps.block ?_
  -- loop 1 writes [6, 7, 10, 11, 12, 13, 14, 15, 16, 17, 18, 19, 20, 21, 22, 23, 24, 25, 26, 27, 28, 29, 30, 31, 32, 33, 34, 35, 36, 37, 38, 39, 40, 41, 42, 43, 44, 45, 46, 47, 48]
  refine Ps.loop (J := List Int × List Int) ⟨fun j => 1 ≤ j.1.length ∧ (j.1 ++ j.2).Perm l ∧ Srt j.1 , fun j => [(6, i64P j.1.length)], fun j => (id, v, .blk 1 ((j.1 ++ j.2).map u16P) true) :: M0, fun j => j.2.length⟩ [6, 7, 10, 11, 12, 13, 14, 15, 16, 17, 18, 19, 20, 21, 22, 23, 24, 25, 26, 27, 28, 29, 30, 31, 32, 33, 34, 35, 36, 37, 38, 39, 40, 41, 42, 43, 44, 45, 46, 47, 48] [(9, _), (8, _), (0, _), (1, _), (2, _)] (l.take 1, l.drop 1) rfl ⟨by show 1 ≤ (l.take 1).length; rw [List.length_take]; omega, by show (l.take 1 ++ l.drop 1).Perm l; rw [List.take_append_drop], by match l with | [] => exact List.Pairwise.nil | x :: _ => exact List.pairwise_singleton _ _⟩ ⟨by show some (PV.lit (.int .i64 ((0 : Int) + 1))) = some (i64P ((l.take 1).length : Int)); rw [show (0 : Int) + 1 = ((l.take 1).length : Int) from (by rw [List.length_take]; omega)], trivial⟩ (by show List.Sublist ((id, v, .blk 1 ((l.take 1 ++ l.drop 1).map u16P) true) :: M0) _; rw [List.take_append_drop]; exact List.Sublist.refl _) (fun j hj => ?_)
  obtain ⟨S, C⟩ := j
  obtain ⟨hS, hP, hSrt⟩ : 1 ≤ S.length ∧ (S ++ C).Perm l ∧ Srt S := hj
  have hlen : S.length + C.length = l.length := by have := hP.length_eq; simpa using this
  dsimp only [List.cons_append, List.nil_append]
  refine Ps.seq ?_
  refine Ps.seq ?_
  refine Ps.region rfl ?_
  refine Rs.move rfl rfl ?_
  refine Rs.move rfl rfl ?_
  refine Rs.binB rfl rfl rfl rfl rfl rfl ?_
  refine Rs.nil ?_
  refine Ps.thn ?_
  refine Ps.if rfl (fun hc => ?_) (fun hc => ?_)
  · try (first | replace hc := D1 hc | replace hc := D2 hc | replace hc := D3 hc | replace hc := D4 hc | replace hc := D5 hc | replace hc := D6 hc | replace hc := D7 hc | replace hc := D8 hc | replace hc := D9 hc | replace hc := D10 hc)
    refine Ps.skip ?_
    refine Ps.thn ?_
    refine Ps.seq ?_
    refine Ps.block ?_
    refine Ps.seq ?_
    refine Ps.region rfl ?_
    refine Rs.move rfl rfl ?_
    refine Rs.assign rfl rfl ?_
    refine Rs.nil ?_
    refine Ps.thn ?_
    refine Ps.block ?_
    -- loop 2 writes [7, 16, 17, 18, 19, 20, 21, 22, 23, 24, 25, 26, 27, 28, 29, 30, 31, 32, 33, 34, 35, 36, 37, 38, 39, 40, 41, 42, 43, 44, 45, 46, 47, 48]
    obtain ⟨x, C, rfl⟩ : ∃ x C', C = x :: C' := by
      cases C with
      | nil => simp at hlen; omega
      | cons x C => exact ⟨x, C, rfl⟩
    refine Ps.loop (J := List Int × List Int) ⟨fun j => (j.1 ++ j.2) = S ∧ ∀ b ∈ j.2, x ≤ b, fun j => [(7, i64P j.1.length)], fun j => (id, v, .blk 1 ((j.1 ++ x :: (j.2 ++ C)).map u16P) true) :: M0, fun j => j.1.length⟩ [7, 16, 17, 18, 19, 20, 21, 22, 23, 24, 25, 26, 27, 28, 29, 30, 31, 32, 33, 34, 35, 36, 37, 38, 39, 40, 41, 42, 43, 44, 45, 46, 47, 48] [(15, _), (12, _), (11, _), (10, _), (6, _), (9, _), (8, _), (0, _), (1, _), (2, _)] (S, []) rfl ⟨List.append_nil _, fun b hb => by cases hb⟩ ⟨rfl, trivial⟩ (List.Sublist.refl _) (fun j hj => ?_)
    obtain ⟨A, B⟩ := j
    obtain ⟨hAB, hxB⟩ : A ++ B = S ∧ ∀ b ∈ B, x ≤ b := hj
    have hAl : A.length ≤ S.length := by rw [← hAB]; simp
    simp only [List.length_cons] at hlen
    dsimp only [List.cons_append, List.nil_append]
    refine Ps.seq ?_
    refine Ps.seq ?_
    refine Ps.region rfl ?_
    refine Rs.move rfl rfl ?_
    refine Rs.move rfl rfl ?_
    refine Rs.binB rfl rfl rfl rfl rfl rfl ?_
    refine Rs.move rfl rfl ?_
    refine Rs.guard1 (w' := false) rfl rfl rfl (fun hg => ?_) (fun hg => ?_)
    · try (first | replace hg := D1 hg | replace hg := D2 hg | replace hg := D3 hg | replace hg := D4 hg | replace hg := D5 hg | replace hg := D6 hg | replace hg := D7 hg | replace hg := D8 hg | replace hg := D9 hg | replace hg := D10 hg)
      refine Rs.move rfl rfl ?_
      refine Rs.guardT rfl ?_
      refine Rs.move rfl rfl ?_
      refine Rs.guardT rfl ?_
      obtain ⟨A, y, rfl⟩ : ∃ A' y, A = A' ++ [y] := ⟨A.dropLast, A.getLast (by intro e; subst e; simp at hg), (List.dropLast_concat_getLast _).symm⟩
      have el : (A ++ [y] ++ x :: (B ++ C)).map u16P = A.map u16P ++ u16P y :: u16P x :: (B ++ C).map u16P := by simp
      rw [el]
      refine Rs.indexO (j := A.length + 1) rfl rfl rfl rfl rfl (by simp) (by simp at hlen hAl; omega) ?_
      refine Rs.guardT rfl ?_
      refine Rs.loadP (p := u16P x) 0 rfl rfl rfl rfl (by unfold partE; rw [Nat.zero_add, show A.map u16P ++ u16P y :: u16P x :: (B ++ C).map u16P = (A.map u16P ++ [u16P y]) ++ u16P x :: (B ++ C).map u16P by simp, mid_at _ _ _ (by simp)]; rfl) ?_
      refine Rs.guardT rfl ?_
      refine Rs.move rfl rfl ?_
      refine Rs.guardT rfl ?_
      refine Rs.move rfl rfl ?_
      refine Rs.guardT rfl ?_
      refine Rs.sub rfl rfl rfl (by first | exact W_i64p (by omega) (by omega) | exact W_i64 (by omega) (by omega) | rfl) ?_
      refine Rs.guardT rfl ?_
      refine Rs.indexO (j := A.length) rfl rfl rfl rfl rfl (by simp) (by simp at hlen hAl; omega) ?_
      refine Rs.guardT rfl ?_
      refine Rs.loadP (p := u16P y) 0 rfl rfl rfl rfl (by unfold partE; rw [Nat.zero_add, mid_at _ _ _ (by simp)]; rfl) ?_
      refine Rs.guardT rfl ?_
      refine Rs.call0 rfl rfl rfl (less16 _ _) (fun p29 hp => ?_)
      obtain rfl := hp
      refine Rs.pickT (q := .lit _) rfl rfl rfl rfl ?_
      refine Rs.nil ?_
      refine Ps.thn ?_
      refine Ps.if rfl (fun hc => ?_) (fun hc => ?_)
      · try (first | replace hc := D1 hc | replace hc := D2 hc | replace hc := D3 hc | replace hc := D4 hc | replace hc := D5 hc | replace hc := D6 hc | replace hc := D7 hc | replace hc := D8 hc | replace hc := D9 hc | replace hc := D10 hc)
        refine Ps.skip ?_
        refine Ps.thn ?_
        refine Ps.seq ?_
        refine Ps.block ?_
        refine Ps.region rfl ?_
        refine Rs.move rfl rfl ?_
        refine Rs.move rfl rfl ?_
        refine Rs.move rfl rfl ?_
        refine Rs.move rfl rfl ?_
        refine Rs.sub rfl rfl rfl (by first | exact W_i64p (by omega) (by omega) | exact W_i64 (by omega) (by omega) | rfl) ?_
        refine Rs.move rfl rfl ?_
        refine Rs.move rfl rfl ?_
        refine Rs.sub rfl rfl rfl (by first | exact W_i64p (by omega) (by omega) | exact W_i64 (by omega) (by omega) | rfl) ?_
        refine Rs.indexO (j := A.length) rfl rfl rfl rfl rfl (by simp) (by simp at hlen hAl; omega) ?_
        refine Rs.loadP (p := u16P y) 0 rfl rfl rfl rfl (by unfold partE; rw [Nat.zero_add, mid_at _ _ _ (by simp)]; rfl) ?_
        refine Rs.move rfl rfl ?_
        refine Rs.move rfl rfl ?_
        refine Rs.indexO (j := A.length + 1) rfl rfl rfl rfl rfl (by simp) (by simp at hlen hAl; omega) ?_
        refine Rs.loadP (p := u16P x) 0 rfl rfl rfl rfl (by unfold partE; rw [Nat.zero_add, show A.map u16P ++ u16P y :: u16P x :: (B ++ C).map u16P = (A.map u16P ++ [u16P y]) ++ u16P x :: (B ++ C).map u16P by simp, mid_at _ _ _ (by simp)]; rfl) ?_
        refine Rs.indexO (j := A.length + 1) rfl rfl rfl rfl rfl (by simp) (by simp at hlen hAl; omega) ?_
        refine Rs.store0 (l' := A.map u16P ++ u16P y :: u16P y :: (B ++ C).map u16P) rfl rfl rfl (by rw [Nat.zero_add, show A.map u16P ++ u16P y :: u16P x :: (B ++ C).map u16P = (A.map u16P ++ [u16P y]) ++ u16P x :: (B ++ C).map u16P by simp, storeB_lit (e := .int .u16 x) rfl (mid_at _ _ _ (by simp)) rfl rfl rfl, mid_set _ _ _ _ (by simp)]; simp) ?_
        refine Rs.indexO (j := A.length) rfl rfl rfl rfl rfl (by simp) (by simp at hlen hAl; omega) ?_
        refine Rs.store0 (l' := A.map u16P ++ u16P x :: u16P y :: (B ++ C).map u16P) rfl rfl rfl (by rw [Nat.zero_add, storeB_lit (e := .int .u16 y) rfl (mid_at _ _ _ (by simp)) rfl rfl rfl, mid_set _ _ _ _ (by simp)]) ?_
        refine Rs.nil ?_
        refine Ps.blk ?_
        refine Ps.thn ?_
        refine Ps.region rfl ?_
        refine Rs.move rfl rfl ?_
        refine Rs.sub rfl rfl rfl (by first | exact W_i64p (by omega) (by omega) | exact W_i64 (by omega) (by omega) | rfl) ?_
        refine Rs.assign rfl rfl ?_
        refine Rs.nil ?_
        -- leaf 1 (round2)
        refine Ps.round (A, y :: B) ⟨by rw [← hAB]; simp, ?_⟩ (by show A.length < (A ++ [y]).length; simp) ⟨?_, trivial⟩ (by repeat' first | exact HasL.nil | refine HasL.cons rfl ?_) ?_
        · intro b hb
          rcases List.mem_cons.1 hb with rfl | hb
          · omega
          · exact hxB b hb
        · rw [show ((A ++ [y]).length - 1) = A.length by simp]; rfl
        · rw [show A.map u16P ++ u16P x :: u16P y :: (B ++ C).map u16P = (A ++ x :: (y :: B ++ C)).map u16P by simp]; exact List.Sublist.refl _
      · try (first | replace hc := D1 hc | replace hc := D2 hc | replace hc := D3 hc | replace hc := D4 hc | replace hc := D5 hc | replace hc := D6 hc | replace hc := D7 hc | replace hc := D8 hc | replace hc := D9 hc | replace hc := D10 hc)
        refine Ps.exit ?_
        refine Ps.thn_exit ?_
        refine Ps.rnd_exit ?_
        refine Ps.blk_here ?_
        refine Ps.blk ?_
        refine Ps.thn ?_
        refine Ps.region rfl ?_
        refine Rs.move rfl rfl ?_
        refine Rs.add rfl rfl rfl (by first | exact W_i64s (by omega) | exact W_i64 (by omega) (by omega) | rfl) ?_
        refine Rs.assign rfl rfl ?_
        refine Rs.nil ?_
        -- leaf 2 (round1)
        subst hAB
        first
          | (obtain rfl : A = [] := by cases A with
               | nil => rfl
               | cons a A => simp at hg
             exact Ps.round ([] ++ x :: B, C) ⟨by simp, perm_ins hP, srt_ins hSrt (by simp) hxB⟩ (by show C.length < (x :: C).length; simp) ⟨by simp [lk], trivial⟩ (by repeat' first | exact HasL.nil | refine HasL.cons rfl ?_) (by rw [show [] ++ x :: (B ++ C) = ([] ++ x :: B) ++ C by simp]; exact List.Sublist.refl _))
          | (refine Ps.round (A ++ [y] ++ x :: B, C) ⟨by simp; omega, perm_ins hP, srt_ins hSrt (srt_last (srt_left hSrt) (by omega)) hxB⟩ (by show C.length < (x :: C).length; simp) ⟨by simp [lk]; omega, trivial⟩ (by repeat' first | exact HasL.nil | refine HasL.cons rfl ?_) ?_
             rw [show List.map u16P A ++ u16P y :: u16P x :: List.map u16P (B ++ C) = (A ++ [y] ++ x :: B ++ C).map u16P by simp]; exact List.Sublist.refl _)
    · try (first | replace hg := D1 hg | replace hg := D2 hg | replace hg := D3 hg | replace hg := D4 hg | replace hg := D5 hg | replace hg := D6 hg | replace hg := D7 hg | replace hg := D8 hg | replace hg := D9 hg | replace hg := D10 hg)
      refine Rs.guardF1 rfl rfl rfl ?_
      refine Rs.guardF1 rfl rfl rfl ?_
      refine Rs.guardF1 rfl rfl rfl ?_
      refine Rs.guardF1 rfl rfl rfl ?_
      refine Rs.guardF1 rfl rfl rfl ?_
      refine Rs.guardF1 rfl rfl rfl ?_
      refine Rs.guardF1 rfl rfl rfl ?_
      refine Rs.guardF1 rfl rfl rfl ?_
      refine Rs.guardF1 rfl rfl rfl ?_
      refine Rs.pickF (q := .lit _) rfl rfl rfl rfl ?_
      refine Rs.nil ?_
      refine Ps.thn ?_
      refine Ps.ifF rfl ?_
      refine Ps.exit ?_
      refine Ps.thn_exit ?_
      refine Ps.rnd_exit ?_
      refine Ps.blk_here ?_
      refine Ps.blk ?_
      refine Ps.thn ?_
      refine Ps.region rfl ?_
      refine Rs.move rfl rfl ?_
      refine Rs.add rfl rfl rfl (by first | exact W_i64s (by omega) | exact W_i64 (by omega) (by omega) | rfl) ?_
      refine Rs.assign rfl rfl ?_
      refine Rs.nil ?_
      -- leaf 3 (round1)
      subst hAB
      first
        | (obtain rfl : A = [] := by cases A with
             | nil => rfl
             | cons a A => simp at hg
           exact Ps.round ([] ++ x :: B, C) ⟨by simp, perm_ins hP, srt_ins hSrt (by simp) hxB⟩ (by show C.length < (x :: C).length; simp) ⟨by simp [lk], trivial⟩ (by repeat' first | exact HasL.nil | refine HasL.cons rfl ?_) (by rw [show [] ++ x :: (B ++ C) = ([] ++ x :: B) ++ C by simp]; exact List.Sublist.refl _))
        | (refine Ps.round (A ++ [y] ++ x :: B, C) ⟨by simp; omega, perm_ins hP, srt_ins hSrt (srt_last (srt_left hSrt) (by omega)) hxB⟩ (by show C.length < (x :: C).length; simp) ⟨by simp [lk]; omega, trivial⟩ (by repeat' first | exact HasL.nil | refine HasL.cons rfl ?_) ?_
           rw [show List.map u16P A ++ u16P y :: u16P x :: List.map u16P (B ++ C) = (A ++ [y] ++ x :: B ++ C).map u16P by simp]; exact List.Sublist.refl _)
  · try (first | replace hc := D1 hc | replace hc := D2 hc | replace hc := D3 hc | replace hc := D4 hc | replace hc := D5 hc | replace hc := D6 hc | replace hc := D7 hc | replace hc := D8 hc | replace hc := D9 hc | replace hc := D10 hc)
    refine Ps.exit ?_
    refine Ps.thn_exit ?_
    refine Ps.rnd_exit ?_
    refine Ps.blk_here ?_
    -- leaf 4 (end)
    obtain rfl : C = [] := by cases C with
      | nil => rfl
      | cons a A => simp at hlen; omega
    rw [List.append_nil] at hP ⊢
    exact Ps.finM0 rfl .nil ⟨S, hP, hSrt, rfl⟩
def isSomeO {α : Type} : Option α → Bool | some _ => true | none => false
theorem bits_0 : isSomeO (callPure cfg (exec cfg 60) 98 [u64P 0]) = true := by kernel_rfl
theorem bits_1 : isSomeO (callPure cfg (exec cfg 60) 98 [u64P 1]) = true := by kernel_rfl
theorem bits_2 : isSomeO (callPure cfg (exec cfg 60) 98 [u64P 2]) = true := by kernel_rfl
theorem bits_3 : isSomeO (callPure cfg (exec cfg 60) 98 [u64P 3]) = true := by kernel_rfl
theorem bits_4 : isSomeO (callPure cfg (exec cfg 60) 98 [u64P 4]) = true := by kernel_rfl
theorem bits_5 : isSomeO (callPure cfg (exec cfg 60) 98 [u64P 5]) = true := by kernel_rfl
theorem bits_6 : isSomeO (callPure cfg (exec cfg 60) 98 [u64P 6]) = true := by kernel_rfl
theorem bits_7 : isSomeO (callPure cfg (exec cfg 60) 98 [u64P 7]) = true := by kernel_rfl
theorem bits_8 : isSomeO (callPure cfg (exec cfg 60) 98 [u64P 8]) = true := by kernel_rfl
theorem bits_9 : isSomeO (callPure cfg (exec cfg 60) 98 [u64P 9]) = true := by kernel_rfl
theorem bitsLen (n : Int) (h : 0 ≤ n ∧ n ≤ 9) : Fn cfg 98 [u64P n] (fun _ => True) := by
  have : isSomeO (callPure cfg (exec cfg 60) 98 [u64P n]) = true := by
    have h10 : n = 0 ∨ n = 1 ∨ n = 2 ∨ n = 3 ∨ n = 4 ∨ n = 5 ∨ n = 6 ∨ n = 7 ∨ n = 8 ∨ n = 9 := by omega
    rcases h10 with rfl | rfl | rfl | rfl | rfl | rfl | rfl | rfl | rfl | rfl
    · exact bits_0
    · exact bits_1
    · exact bits_2
    · exact bits_3
    · exact bits_4
    · exact bits_5
    · exact bits_6
    · exact bits_7
    · exact bits_8
    · exact bits_9
  cases e : callPure cfg (exec cfg 60) 98 [u64P n] with
  | none => rw [e] at this; cases this
  | some p => exact ⟨60, p, e, trivial⟩
theorem pdq (l : List Int) (id v : Nat) (q : PV) (M0 : Mem) (hl : l.length ≤ 9) (h0 : 1 ≤ l.length) : Fm0 cfg 97 [.own id v 1 0 l.length none, i64P 0, i64P l.length, q] ((id, v, .blk 1 (l.map u16P) true) :: M0) (fun _ M' => ∃ l', l'.Perm l ∧ Srt l' ∧ M' = (id, v, .blk 1 (l'.map u16P) true) :: M0) := by
  refine Fm0.go Tryz.func97 (L := [(0, _), (1, _), (2, _), (3, _)]) rfl rfl rfl rfl ?_
  refine Ps.seq ?_
  refine Ps.region rfl ?_
  refine Rs.assign (p := .lit _) rfl rfl ?_
  refine Rs.nil ?_
  refine Ps.thn ?_
  refine Ps.seq ?_
  refine Ps.region rfl ?_
  refine Rs.assign (p := .lit _) rfl rfl ?_
  refine Rs.nil ?_
  refine Ps.thn ?_
  refine Ps.block ?_
  -- loop 1 writes [1, 2, 3, 8, 9, 10, 11, 12, 13, 14, 15, 16, 17, 18, 19, 20, 21, 22, 23, 24, 25, 26, 27, 28, 29, 30, 31, 32, 33, 34, 35, 36, 37, 38, 39, 40, 41, 42, 43, 44, 45, 46, 47, 48, 49, 50, 51, 52, 53, 54, 55, 56, 57, 58, 59, 60, 61, 62, 63, 64, 65, 66, 67, 68, 69, 70, 71, 72, 73, 74, 75, 76, 77, 78, 79, 80, 81, 82, 83, 84, 85, 86, 87, 88, 89, 90, 91, 92, 93, 94, 95, 96, 97, 98, 99, 100, 101, 102, 103, 104, 105, 106, 107, 108, 109, 110, 111, 112, 113, 114, 115, 116, 117, 118, 119, 120, 121, 122, 123, 124, 125, 126, 127, 128, 129, 130, 131, 132, 133]
  refine Ps.loop (J := Unit) ⟨fun _ => True, fun _ => [(1, i64P 0), (2, i64P l.length), (3, q)], fun _ => (id, v, .blk 1 (l.map u16P) true) :: M0, fun _ => 0⟩ [1, 2, 3, 8, 9, 10, 11, 12, 13, 14, 15, 16, 17, 18, 19, 20, 21, 22, 23, 24, 25, 26, 27, 28, 29, 30, 31, 32, 33, 34, 35, 36, 37, 38, 39, 40, 41, 42, 43, 44, 45, 46, 47, 48, 49, 50, 51, 52, 53, 54, 55, 56, 57, 58, 59, 60, 61, 62, 63, 64, 65, 66, 67, 68, 69, 70, 71, 72, 73, 74, 75, 76, 77, 78, 79, 80, 81, 82, 83, 84, 85, 86, 87, 88, 89, 90, 91, 92, 93, 94, 95, 96, 97, 98, 99, 100, 101, 102, 103, 104, 105, 106, 107, 108, 109, 110, 111, 112, 113, 114, 115, 116, 117, 118, 119, 120, 121, 122, 123, 124, 125, 126, 127, 128, 129, 130, 131, 132, 133] [(0, _)] () rfl trivial ⟨rfl, rfl, rfl, trivial⟩ (List.Sublist.refl _) (fun j hj => ?_)
  dsimp only [List.cons_append, List.nil_append]
  refine Ps.block ?_
  refine Ps.seq ?_
  refine Ps.region rfl ?_
  refine Rs.move rfl rfl ?_
  refine Rs.move rfl rfl ?_
  refine Rs.sub rfl rfl rfl (by first | exact W_i64p (by omega) (by omega) | exact W_i64 (by omega) (by omega) | rfl) ?_
  refine Rs.assign rfl rfl ?_
  refine Rs.nil ?_
  refine Ps.thn ?_
  refine Ps.seq ?_
  refine Ps.seq ?_
  refine Ps.region rfl ?_
  refine Rs.move rfl rfl ?_
  refine Rs.binB rfl rfl rfl rfl rfl rfl ?_
  refine Rs.nil ?_
  refine Ps.thn ?_
  refine Ps.if rfl (fun hc => ?_) (fun hc => ?_)
  · try (first | replace hc := D1 hc | replace hc := D2 hc | replace hc := D3 hc | replace hc := D4 hc | replace hc := D5 hc | replace hc := D6 hc | replace hc := D7 hc | replace hc := D8 hc | replace hc := D9 hc | replace hc := D10 hc)
    refine Ps.seq ?_
    refine Ps.region rfl ?_
    refine Rs.move rfl rfl ?_
    refine Rs.move rfl rfl ?_
    refine Rs.move rfl rfl ?_
    refine Rs.call2 rfl rfl rfl (insort l id v M0 (by omega) h0) (fun p27 M27 hp27 => ?_)
    obtain ⟨l', hp1, hp2, rfl⟩ := hp27
    refine Rs.nil ?_
    refine Ps.thn ?_
    refine Ps.ret ?_
    refine Ps.thn_ret ?_
    refine Ps.blk_ret ?_
    refine Ps.rnd_ret ?_
    refine Ps.blk_ret ?_
    -- leaf 1 (ret)
    exact Ps.finM0 rfl .nil ⟨l', hp1, hp2, rfl⟩
  · try (first | replace hc := D1 hc | replace hc := D2 hc | replace hc := D3 hc | replace hc := D4 hc | replace hc := D5 hc | replace hc := D6 hc | replace hc := D7 hc | replace hc := D8 hc | replace hc := D9 hc | replace hc := D10 hc)
    refine Ps.skip ?_
    refine Ps.thn ?_
    refine Ps.seq ?_
    refine Ps.seq ?_
    exfalso; omega
theorem sort16 (l : List Int) (id v : Nat) (M0 : Mem) (hl : l.length ≤ 9) (h0 : 1 ≤ l.length) : Fm0 cfg 79 [.own id v 1 0 l.length none] ((id, v, .blk 1 (l.map u16P) true) :: M0) (fun _ M' => ∃ l', l'.Perm l ∧ Srt l' ∧ M' = (id, v, .blk 1 (l'.map u16P) true) :: M0) := by
  refine Fm0.go Tryz.func79 (L := [(0, _)]) rfl rfl rfl rfl ?_
  refine Ps.seq ?_
  refine Ps.region rfl ?_
  refine Rs.move rfl rfl ?_
  first | refine Rs.lenD rfl rfl rfl rfl ?_ | refine Rs.lenO rfl rfl rfl rfl ?_ | refine Rs.lenI rfl rfl rfl rfl ?_ | refine Rs.lenA rfl rfl rfl rfl (by assumption) ?_ | refine Rs.lenS rfl rfl rfl rfl (by assumption) ?_
  refine Rs.assign rfl rfl ?_
  refine Rs.nil ?_
  refine Ps.thn ?_
  refine Ps.region rfl ?_
  refine Rs.move rfl rfl ?_
  refine Rs.move rfl rfl ?_
  refine Rs.move rfl rfl ?_
  refine Rs.convI rfl rfl ⟨_, rfl⟩ rfl rfl (by first | exact W_u64 (by omega) (by omega) | rfl) ?_
  refine Rs.call0 rfl rfl rfl (bitsLen _ (by omega)) (fun p9 hp => ?_)
  clear hp
  refine Rs.call2 rfl rfl rfl (pdq l id v _ M0 (by omega) h0) (fun p10 M10 hp10 => ?_)
  obtain ⟨l', hp1, hp2, rfl⟩ := hp10
  refine Rs.nil ?_
  -- leaf 1 (end)
  exact Ps.finM0 rfl .nil ⟨l', hp1, hp2, rfl⟩
theorem insort0 (M : Mem) : Fm0 cfg 126 [nilP, i64P 0, i64P 0] M (fun _ M' => M' = M) := by
  refine Fm0.go Tryz.func126 (L := [(0, _), (1, _), (2, _)]) rfl rfl rfl rfl ?_
  refine Ps.seq ?_
  refine Ps.region rfl ?_
  refine Rs.move rfl rfl ?_
  refine Rs.add rfl rfl rfl (by first | exact W_i64s (by omega) | exact W_i64 (by omega) (by omega) | rfl) ?_
  refine Rs.assign rfl rfl ?_
  refine Rs.nil ?_
  refine Ps.thn ?_
  refine Ps.block ?_
  -- loop 1 writes [6, 7, 10, 11, 12, 13, 14, 15, 16, 17, 18, 19, 20, 21, 22, 23, 24, 25, 26, 27, 28, 29, 30, 31, 32, 33, 34, 35, 36, 37, 38, 39, 40, 41, 42, 43, 44, 45, 46, 47, 48]
  refine Ps.loop (J := Unit) ⟨fun _ => True, fun _ => [(6, i64P 1)], fun _ => M, fun _ => 0⟩ [6, 7, 10, 11, 12, 13, 14, 15, 16, 17, 18, 19, 20, 21, 22, 23, 24, 25, 26, 27, 28, 29, 30, 31, 32, 33, 34, 35, 36, 37, 38, 39, 40, 41, 42, 43, 44, 45, 46, 47, 48] [(9, _), (8, _), (0, _), (1, _), (2, _)] () rfl trivial ⟨rfl, trivial⟩ (List.Sublist.refl _) (fun j hj => ?_)
  dsimp only [List.cons_append, List.nil_append]
  refine Ps.seq ?_
  refine Ps.seq ?_
  refine Ps.region rfl ?_
  refine Rs.move rfl rfl ?_
  refine Rs.move rfl rfl ?_
  refine Rs.binB rfl rfl rfl rfl rfl rfl ?_
  refine Rs.nil ?_
  refine Ps.thn ?_
  refine Ps.if rfl (fun hc => ?_) (fun hc => ?_)
  · try (first | replace hc := D1 hc | replace hc := D2 hc | replace hc := D3 hc | replace hc := D4 hc | replace hc := D5 hc | replace hc := D6 hc | replace hc := D7 hc | replace hc := D8 hc | replace hc := D9 hc | replace hc := D10 hc)
    refine Ps.skip ?_
    refine Ps.thn ?_
    refine Ps.seq ?_
    refine Ps.block ?_
    refine Ps.seq ?_
    exfalso; omega
  · try (first | replace hc := D1 hc | replace hc := D2 hc | replace hc := D3 hc | replace hc := D4 hc | replace hc := D5 hc | replace hc := D6 hc | replace hc := D7 hc | replace hc := D8 hc | replace hc := D9 hc | replace hc := D10 hc)
    refine Ps.exit ?_
    refine Ps.thn_exit ?_
    refine Ps.rnd_exit ?_
    refine Ps.blk_here ?_
    -- leaf 1 (end)
    exact Ps.finM0 rfl .nil rfl
theorem pdq0 (q : PV) (M : Mem) : Fm0 cfg 97 [nilP, i64P 0, i64P 0, q] M (fun _ M' => M' = M) := by
  refine Fm0.go Tryz.func97 (L := [(0, _), (1, _), (2, _), (3, _)]) rfl rfl rfl rfl ?_
  refine Ps.seq ?_
  refine Ps.region rfl ?_
  refine Rs.assign (p := .lit _) rfl rfl ?_
  refine Rs.nil ?_
  refine Ps.thn ?_
  refine Ps.seq ?_
  refine Ps.region rfl ?_
  refine Rs.assign (p := .lit _) rfl rfl ?_
  refine Rs.nil ?_
  refine Ps.thn ?_
  refine Ps.block ?_
  -- loop 1 writes [1, 2, 3, 8, 9, 10, 11, 12, 13, 14, 15, 16, 17, 18, 19, 20, 21, 22, 23, 24, 25, 26, 27, 28, 29, 30, 31, 32, 33, 34, 35, 36, 37, 38, 39, 40, 41, 42, 43, 44, 45, 46, 47, 48, 49, 50, 51, 52, 53, 54, 55, 56, 57, 58, 59, 60, 61, 62, 63, 64, 65, 66, 67, 68, 69, 70, 71, 72, 73, 74, 75, 76, 77, 78, 79, 80, 81, 82, 83, 84, 85, 86, 87, 88, 89, 90, 91, 92, 93, 94, 95, 96, 97, 98, 99, 100, 101, 102, 103, 104, 105, 106, 107, 108, 109, 110, 111, 112, 113, 114, 115, 116, 117, 118, 119, 120, 121, 122, 123, 124, 125, 126, 127, 128, 129, 130, 131, 132, 133]
  refine Ps.loop (J := Unit) ⟨fun _ => True, fun _ => [(1, i64P 0), (2, i64P 0), (3, q)], fun _ => M, fun _ => 0⟩ [1, 2, 3, 8, 9, 10, 11, 12, 13, 14, 15, 16, 17, 18, 19, 20, 21, 22, 23, 24, 25, 26, 27, 28, 29, 30, 31, 32, 33, 34, 35, 36, 37, 38, 39, 40, 41, 42, 43, 44, 45, 46, 47, 48, 49, 50, 51, 52, 53, 54, 55, 56, 57, 58, 59, 60, 61, 62, 63, 64, 65, 66, 67, 68, 69, 70, 71, 72, 73, 74, 75, 76, 77, 78, 79, 80, 81, 82, 83, 84, 85, 86, 87, 88, 89, 90, 91, 92, 93, 94, 95, 96, 97, 98, 99, 100, 101, 102, 103, 104, 105, 106, 107, 108, 109, 110, 111, 112, 113, 114, 115, 116, 117, 118, 119, 120, 121, 122, 123, 124, 125, 126, 127, 128, 129, 130, 131, 132, 133] [(0, _)] () rfl trivial ⟨rfl, rfl, rfl, trivial⟩ (List.Sublist.refl _) (fun j hj => ?_)
  dsimp only [List.cons_append, List.nil_append]
  refine Ps.block ?_
  refine Ps.seq ?_
  refine Ps.region rfl ?_
  refine Rs.move rfl rfl ?_
  refine Rs.move rfl rfl ?_
  refine Rs.sub rfl rfl rfl (by first | exact W_i64p (by omega) (by omega) | exact W_i64 (by omega) (by omega) | rfl) ?_
  refine Rs.assign rfl rfl ?_
  refine Rs.nil ?_
  refine Ps.thn ?_
  refine Ps.seq ?_
  refine Ps.seq ?_
  refine Ps.region rfl ?_
  refine Rs.move rfl rfl ?_
  refine Rs.binB rfl rfl rfl rfl rfl rfl ?_
  refine Rs.nil ?_
  refine Ps.thn ?_
  refine Ps.if rfl (fun hc => ?_) (fun hc => ?_)
  · try (first | replace hc := D1 hc | replace hc := D2 hc | replace hc := D3 hc | replace hc := D4 hc | replace hc := D5 hc | replace hc := D6 hc | replace hc := D7 hc | replace hc := D8 hc | replace hc := D9 hc | replace hc := D10 hc)
    refine Ps.seq ?_
    refine Ps.region rfl ?_
    refine Rs.move rfl rfl ?_
    refine Rs.move rfl rfl ?_
    refine Rs.move rfl rfl ?_
    refine Rs.call2 rfl rfl rfl (insort0 _) (fun p27 M27 hp27 => ?_)
    obtain rfl := hp27
    refine Rs.nil ?_
    refine Ps.thn ?_
    refine Ps.ret ?_
    refine Ps.thn_ret ?_
    refine Ps.blk_ret ?_
    refine Ps.rnd_ret ?_
    refine Ps.blk_ret ?_
    -- leaf 1 (ret)
    exact Ps.finM0 rfl .nil rfl
  · try (first | replace hc := D1 hc | replace hc := D2 hc | replace hc := D3 hc | replace hc := D4 hc | replace hc := D5 hc | replace hc := D6 hc | replace hc := D7 hc | replace hc := D8 hc | replace hc := D9 hc | replace hc := D10 hc)
    refine Ps.skip ?_
    refine Ps.thn ?_
    refine Ps.seq ?_
    refine Ps.seq ?_
    exfalso; omega
theorem sort0 (M : Mem) : Fm0 cfg 79 [nilP] M (fun _ M' => M' = M) := by
  refine Fm0.go Tryz.func79 (L := [(0, _)]) rfl rfl rfl rfl ?_
  refine Ps.seq ?_
  refine Ps.region rfl ?_
  refine Rs.move rfl rfl ?_
  first | refine Rs.lenD rfl rfl rfl rfl ?_ | refine Rs.lenO rfl rfl rfl rfl ?_ | refine Rs.lenI rfl rfl rfl rfl ?_ | refine Rs.lenA rfl rfl rfl rfl (by assumption) ?_ | refine Rs.lenS rfl rfl rfl rfl (by assumption) ?_
  refine Rs.assign rfl rfl ?_
  refine Rs.nil ?_
  refine Ps.thn ?_
  refine Ps.region rfl ?_
  refine Rs.move rfl rfl ?_
  refine Rs.move rfl rfl ?_
  refine Rs.move rfl rfl ?_
  refine Rs.convI rfl rfl ⟨_, rfl⟩ rfl rfl (by first | exact W_u64 (by omega) (by omega) | rfl) ?_
  refine Rs.call0 rfl rfl rfl (bitsLen _ (by omega)) (fun p9 hp => ?_)
  clear hp
  refine Rs.call2 rfl rfl rfl (pdq0 _ _) (fun p10 M10 hp10 => ?_)
  obtain rfl := hp10
  refine Rs.nil ?_
  -- leaf 1 (end)
  exact Ps.finM0 rfl .nil rfl
def idxI (l : List Int) (n : Int) : Int := match l.findIdx? (fun x => n == x) with | some i => i | none => -1
theorem index16 (l : List Int) (p : PV) (n : Int) (hp : IsSl 1 (l.map u16P) p) (hl : l.length < 1000000) : Fn cfg 96 [p, u16P n] (fun q => ∃ r : Int, q = i64P r ∧ (0 ≤ r ↔ n ∈ l)) := by
  refine Fn.go Tryz.func96 (L := [(0, _), (1, _)]) rfl rfl rfl (by simp [deepL, hp.deep, deepB]) rfl ?_
  refine Ps.seq ?_
  refine Ps.region rfl ?_
  refine Rs.assign (p := .lit _) rfl rfl ?_
  refine Rs.nil ?_
  refine Ps.thn ?_
  refine Ps.seq ?_
  refine Ps.seq ?_
  refine Ps.region rfl ?_
  refine Rs.move rfl rfl ?_
  first | refine Rs.lenD rfl rfl rfl rfl ?_ | refine Rs.lenO rfl rfl rfl rfl ?_ | refine Rs.lenI rfl rfl rfl rfl ?_ | refine Rs.lenA rfl rfl rfl rfl (by assumption) ?_ | refine Rs.lenS rfl rfl rfl rfl (by assumption) ?_
  refine Rs.move (p := .lit _) rfl rfl ?_
  refine Rs.nil ?_
  refine Ps.thn ?_
  refine Ps.block ?_
  -- loop 1 writes [4, 5, 8, 9, 10, 11, 12, 13, 14, 15, 16, 17, 18]
  refine Ps.loop (J := Nat) ⟨fun j => j ≤ l.length ∧ (n ∈ l ↔ n ∈ l.drop j), fun j => [(8, i64P j)], fun _ => [], fun j => l.length - j⟩ [4, 5, 8, 9, 10, 11, 12, 13, 14, 15, 16, 17, 18] [(7, _), (6, _), (0, _), (1, _)] 0 rfl ⟨Nat.zero_le _, by simp⟩ ⟨rfl, trivial⟩ (List.nil_sublist _) (fun j hj => ?_)
  obtain ⟨hj, hjc⟩ : j ≤ l.length ∧ (n ∈ l ↔ n ∈ l.drop j) := hj
  dsimp only [List.cons_append, List.nil_append]
  refine Ps.seq ?_
  refine Ps.region rfl ?_
  refine Rs.binB rfl rfl rfl rfl rfl rfl ?_
  refine Rs.nil ?_
  refine Ps.thn ?_
  refine Ps.seq ?_
  refine Ps.if rfl (fun hc => ?_) (fun hc => ?_)
  · try (first | replace hc := D1 hc | replace hc := D2 hc | replace hc := D3 hc | replace hc := D4 hc | replace hc := D5 hc | replace hc := D6 hc | replace hc := D7 hc | replace hc := D8 hc | replace hc := D9 hc | replace hc := D10 hc)
    refine Ps.skip ?_
    refine Ps.thn ?_
    refine Ps.seq ?_
    refine Ps.block ?_
    refine Ps.seq ?_
    have hlt : j < l.length := by simp at hc; omega
    obtain ⟨x, hx⟩ := at_lt hlt
    rw [drop_at hx, List.mem_cons] at hjc
    refine Ps.region rfl ?_
    refine Rs.move rfl rfl ?_
    refine Rs.assign rfl rfl ?_
    refine Rs.nil ?_
    refine Ps.thn ?_
    refine Ps.seq ?_
    refine Ps.region rfl ?_
    refine Rs.move rfl rfl ?_
    refine Rs.move rfl rfl ?_
    refine Rs.move rfl rfl ?_
    first | refine Rs.indexD (lc := [_]) rfl rfl rfl rfl rfl rfl (map_at hx) rfl ?_ | refine Rs.indexS (lc := [_]) rfl rfl rfl rfl rfl (by assumption) rfl (map_at hx) rfl ?_
    first | refine Rs.loadR rfl rfl rfl rfl ?_ | refine Rs.loadP 0 rfl rfl rfl rfl rfl ?_ | refine Rs.loadP 1 rfl rfl rfl rfl rfl ?_ | refine Rs.loadP 2 rfl rfl rfl rfl rfl ?_ | refine Rs.loadP 3 rfl rfl rfl rfl rfl ?_
    refine Rs.binB rfl rfl rfl rfl rfl rfl ?_
    refine Rs.nil ?_
    refine Ps.thn ?_
    refine Ps.if rfl (fun hc => ?_) (fun hc => ?_)
    · try (first | replace hc := D1 hc | replace hc := D2 hc | replace hc := D3 hc | replace hc := D4 hc | replace hc := D5 hc | replace hc := D6 hc | replace hc := D7 hc | replace hc := D8 hc | replace hc := D9 hc | replace hc := D10 hc)
      refine Ps.seq ?_
      refine Ps.region rfl ?_
      refine Rs.move rfl rfl ?_
      refine Rs.assign rfl rfl ?_
      refine Rs.nil ?_
      refine Ps.thn ?_
      refine Ps.ret ?_
      refine Ps.blk_ret ?_
      refine Ps.thn_ret ?_
      refine Ps.rnd_ret ?_
      refine Ps.blk_ret ?_
      refine Ps.thn_ret ?_
      -- leaf 1 (ret)
      refine Ps.finP (l := [_]) rfl (by refine ResR.tmp rfl ?_; exact ResR.nil) (by first | rfl | simp [plainP, plainC, cp_lit, cp_dsl, *]) rfl ?_
      first
        | exact ⟨(j : Int), rfl, by constructor <;> intro h <;> first | (rw [hjc]; exact .inl (by omega)) | omega⟩
        | exact ⟨-1, rfl, by rw [hjc, List.drop_eq_nil_of_le (by simp at hc; omega)]; simp⟩
    · try (first | replace hc := D1 hc | replace hc := D2 hc | replace hc := D3 hc | replace hc := D4 hc | replace hc := D5 hc | replace hc := D6 hc | replace hc := D7 hc | replace hc := D8 hc | replace hc := D9 hc | replace hc := D10 hc)
      refine Ps.skip ?_
      refine Ps.blk ?_
      refine Ps.thn ?_
      refine Ps.region rfl ?_
      refine Rs.add rfl rfl rfl (by first | exact W_i64s (by omega) | exact W_i64 (by omega) (by omega) | rfl) ?_
      refine Rs.move rfl rfl ?_
      refine Rs.nil ?_
      -- leaf 2 (round1)
      exact Ps.round (j + 1) ⟨hlt, by rw [hjc]; constructor <;> intro h <;> first | exact .inr h | exact h.resolve_left (by omega)⟩ (by show l.length - (j + 1) < l.length - j; omega) ⟨rfl, trivial⟩ (by repeat' first | exact HasL.nil | refine HasL.cons rfl ?_) (List.nil_sublist _)
  · try (first | replace hc := D1 hc | replace hc := D2 hc | replace hc := D3 hc | replace hc := D4 hc | replace hc := D5 hc | replace hc := D6 hc | replace hc := D7 hc | replace hc := D8 hc | replace hc := D9 hc | replace hc := D10 hc)
    refine Ps.exit ?_
    refine Ps.thn_exit ?_
    refine Ps.rnd_exit ?_
    refine Ps.blk_here ?_
    refine Ps.thn ?_
    refine Ps.seq ?_
    refine Ps.region rfl ?_
    refine Rs.assign (p := .lit _) rfl rfl ?_
    refine Rs.nil ?_
    refine Ps.thn ?_
    refine Ps.ret ?_
    -- leaf 3 (ret)
    refine Ps.finP (l := [_]) rfl (by refine ResR.tmp rfl ?_; exact ResR.nil) (by first | rfl | simp [plainP, plainC, cp_lit, cp_dsl, *]) rfl ?_
    first
      | exact ⟨(j : Int), rfl, by constructor <;> intro h <;> first | (rw [hjc]; exact .inl (by omega)) | omega⟩
      | exact ⟨-1, rfl, by rw [hjc, List.drop_eq_nil_of_le (by simp at hc; omega)]; simp⟩
theorem contains16 (l : List Int) (p : PV) (n : Int) (hp : IsSl 1 (l.map u16P) p) (hl : l.length < 1000000) : Fn cfg 78 [p, u16P n] (· = boolP (decide (n ∈ l))) := by
  refine Fn.go Tryz.func78 (L := [(0, _), (1, _)]) rfl rfl rfl (by simp [deepL, hp.deep, deepB]) rfl ?_
  refine Ps.seq ?_
  refine Ps.region rfl ?_
  refine Rs.assign (p := .lit _) rfl rfl ?_
  refine Rs.nil ?_
  refine Ps.thn ?_
  refine Ps.seq ?_
  refine Ps.region rfl ?_
  refine Rs.move rfl rfl ?_
  refine Rs.move rfl rfl ?_
  refine Rs.call1 rfl rfl rfl (fun H hH => DpL.top (n := 95000) (by repeat' first | exact DpL.nil | refine DpL.cons (Dp.plain 95000 rfl rfl) ?_ | refine DpL.cons (Dp.sl 95000 (by assumption)) ?_ | refine DpL.cons (Dp.g (by assumption) hH (fun x hx => by simp [hx]) (by intro p hp; obtain ⟨x, _, rfl⟩ := List.mem_map.1 hp; rfl) (by simp; omega)) ?_) rfl) (index16 l _ _ hp hl) (by first | (intro p hp; rw [hp]; rfl) | (rintro p ⟨r, rfl, _⟩; rfl)) (fun p7 hp => ?_)
  obtain ⟨r, rfl, hr⟩ := hp
  refine Rs.binB rfl rfl rfl rfl rfl rfl ?_
  refine Rs.assign rfl rfl ?_
  refine Rs.nil ?_
  refine Ps.thn ?_
  refine Ps.ret ?_
  -- leaf 1 (ret)
  refine Ps.finP (l := [_]) rfl (by refine ResR.tmp rfl ?_; exact ResR.nil) (by first | rfl | simp [plainP, plainC, cp_lit, cp_dsl, *]) rfl ?_
  show boolP _ = boolP _
  congr 2
  exact propext hr
end Go.Proofs.YtddaogebacigbaaGreatDoor.RV.T
