/- A part of the symbolic runs of functions by the evaluator (TB4). Conditions: none. -/
import Derived.Test.YtddaogebacigbaaGreatDoorSb3
import Derived.Test.YtddaogebacigbaaGreatDoorSb2
import Derived.Test.YtddaogebacigbaaGreatDoorSb1
import Derived.Test.YtddaogebacigbaaGreatDoorSvK
import Derived.Test.YtddaogebacigbaaGreatDoorSvS
open Go Go.Proofs.YtddaogebacigbaaGreatDoor.RV Go.Proofs.YtddaogebacigbaaGreatDoor.XA.Awk Go.Proofs.YtddaogebacigbaaGreatDoor.RV.ChartMath Go.Proofs
namespace Go.Proofs.YtddaogebacigbaaGreatDoor.RV.T
set_option maxRecDepth 100000
set_option linter.unusedVariables false
set_option linter.unusedSimpArgs false
/-- Rising. -/
def SI (l : List Int) : Prop := l.Pairwise (· < ·)
structure MadeU (u : List Int) : Prop where
  si : SI u
  rng : ∀ x ∈ u, 1 ≤ x ∧ x ≤ 9
theorem nodup_le : ∀ (m : Nat) (l : List Int), l.Nodup → (∀ x ∈ l, 1 ≤ x ∧ x ≤ (m : Int)) → l.length ≤ m
  | 0, l, _, h => by
    cases l with
    | nil => simp
    | cons x t =>
      have := h x (by simp)
      omega
  | m + 1, l, d, h => by
    have ih := nodup_le m (l.erase ((m + 1 : Nat) : Int)) (d.erase _) (fun x hx => by
      have h1 := (List.Nodup.mem_erase_iff d).1 hx
      have h2 := h x h1.2
      have h3 := h1.1
      omega)
    by_cases hm : ((m + 1 : Nat) : Int) ∈ l
    · rw [List.length_erase_of_mem hm] at ih
      omega
    · rw [List.erase_of_not_mem hm] at ih
      omega
theorem SI.nodup {l : List Int} (S : SI l) : l.Nodup := S.imp (fun h => by omega)
theorem MadeU.len {u : List Int} (h : MadeU u) : u.length ≤ 9 := nodup_le 9 u h.si.nodup h.rng
theorem madeU_of {l l' : List Int} (hd : l.Nodup) (hr : ∀ x ∈ l, 1 ≤ x ∧ x ≤ 9) (hp : l'.Perm l) (hs : Srt l') : MadeU l' :=
  ⟨(List.pairwise_and_iff.2 ⟨hs, (hp.nodup_iff.2 hd : l'.Pairwise _)⟩).imp (fun {a b} h => by have h1 := h.1; have h2 := h.2; omega), fun x hx => hr x (hp.mem_iff.1 hx)⟩
theorem gP_len {s : Nat} {a : Option (Nat × Nat)} {l l' : List PV} (h : l.length = l'.length) : gP s a l = gP s a l' := by
  cases a with
  | none => rfl
  | some iv => show PV.own _ _ _ _ _ _ = PV.own _ _ _ _ _ _; rw [h]
theorem sortG (u : List Int) (a : Option (Nat × Nat)) (M0 : Mem) (hl : u.length ≤ 9) (ha : a = none ↔ u.map u16P = []) : Fm0 cfg 79 [gP 1 a (u.map u16P)] (gM 1 a (u.map u16P) ++ M0) (fun _ M' => ∃ u', u'.Perm u ∧ Srt u' ∧ M' = gM 1 a (u'.map u16P) ++ M0) := by
  cases a with
  | none =>
    obtain rfl : u = [] := by simpa using ha.1 rfl
    intro H m h1 h2
    obtain ⟨k, p, H', m', h3, M', h4, h5⟩ := sort0 M0 H m h1 h2
    exact ⟨k, p, H', m', h3, M', h4, [], List.Perm.refl _, List.Pairwise.nil, h5⟩
  | some iv =>
    obtain ⟨id, v⟩ := iv
    have hne : 1 ≤ u.length := by
      cases u with
      | nil => have := ha.2 rfl; cases this
      | cons => simp
    have := sort16 u id v M0 hl hne
    show Fm0 cfg 79 [.own id v 1 0 (u.map u16P).length none] _ _
    rw [List.length_map]
    exact this
theorem make07_ok (l : List Int) (p : PV) (hp : IsSl 1 (l.map u16P) p) (hl : l.length < 1000000) (hw : ∀ x ∈ l, 0 ≤ x ∧ x ≤ 65535) : Fn cfg 50 [p] (fun q => ∃ u, MadeU u ∧ (l ≠ [] → u ≠ []) ∧ q = slP 1 (u.map u16P)) := by
  refine Fn.go Tryz.func50 (L := [(0, _)]) rfl rfl rfl (by simp [deepL, hp.deep]) rfl ?_
  refine Ps.seq ?_
  refine Ps.region rfl ?_
  refine Rs.assign (p := .lit _) rfl rfl ?_
  refine Rs.nil ?_
  refine Ps.thn ?_
  refine Ps.seq ?_
  refine Ps.region rfl ?_
  refine Rs.assign (p := .lit _) rfl rfl ?_
  refine Rs.nil ?_
  refine Ps.thn ?_
  refine Ps.seq ?_
  refine Ps.seq ?_
  refine Ps.region rfl ?_
  refine Rs.move rfl rfl ?_
  first | refine Rs.lenD rfl rfl rfl rfl ?_ | refine Rs.lenO rfl rfl rfl rfl ?_ | refine Rs.lenI rfl rfl rfl rfl ?_ | refine Rs.lenA rfl rfl rfl rfl (by assumption) ?_ | refine Rs.lenS rfl rfl rfl rfl (by assumption) ?_
  refine Rs.move (p := .lit _) rfl rfl ?_
  refine Rs.nil ?_
  refine Ps.thn ?_
  refine Ps.block ?_
  -- loop 1 writes [3, 5, 8, 9, 10, 11, 12, 13, 14, 15, 16, 17, 18, 19, 20, 21, 22, 23]
  refine Ps.loop (J := Nat × List Int × Option (Nat × Nat)) ⟨fun j => j.1 ≤ l.length ∧ j.2.1.Nodup ∧ (∀ x ∈ j.2.1, 1 ≤ x ∧ x ≤ 9) ∧ (0 < j.1 → j.2.1 ≠ []) ∧ (j.2.2 = none ↔ j.2.1.map u16P = []), fun j => [(3, gP 1 j.2.2 (j.2.1.map u16P)), (8, i64P j.1)], fun j => gM 1 j.2.2 (j.2.1.map u16P) ++ [], fun j => l.length - j.1⟩ [3, 5, 8, 9, 10, 11, 12, 13, 14, 15, 16, 17, 18, 19, 20, 21, 22, 23] [(7, _), (6, _), (2, _), (0, _)] (0, [], none) rfl ⟨Nat.zero_le _, by simp, by simp, by simp, by simp⟩ ⟨rfl, rfl, trivial⟩ (List.Sublist.refl _) (fun j hj => ?_)
  obtain ⟨j, u, a⟩ := j
  obtain ⟨hj, hnd, hr, hne, ha⟩ : j ≤ l.length ∧ u.Nodup ∧ (∀ x ∈ u, 1 ≤ x ∧ x ≤ 9) ∧ (0 < j → u ≠ []) ∧ (a = none ↔ u.map u16P = []) := hj
  have hul := nodup_le 9 u hnd hr
  dsimp only [List.cons_append, List.nil_append]
  refine Ps.seq ?_
  refine Ps.region rfl ?_
  refine Rs.binB rfl rfl rfl rfl rfl rfl ?_
  refine Rs.nil ?_
  refine Ps.thn ?_
  refine Ps.seq ?_
  refine Ps.if rfl (fun hc => ?_) (fun hc => ?_)
  · try (first | replace hc := D1 hc | replace hc := D2 hc | replace hc := D3 hc | replace hc := D4 hc | replace hc := D5 hc | replace hc := D6 hc | replace hc := D7 hc | replace hc := D8 hc | replace hc := D9 hc | replace hc := D10 hc)
    refine Ps.skip ?_
    refine Ps.thn ?_
    refine Ps.seq ?_
    refine Ps.block ?_
    refine Ps.seq ?_
    have hlt : j < l.length := by simp at hc; omega
    obtain ⟨x, hx⟩ := at_lt hlt
    have hw1 := hw x (List.mem_of_getElem? hx)
    refine Ps.region rfl ?_
    first | refine Rs.indexD (lc := [_]) rfl rfl rfl rfl rfl rfl (map_at hx) rfl ?_ | refine Rs.indexS (lc := [_]) rfl rfl rfl rfl rfl (by assumption) rfl (map_at hx) rfl ?_
    first | refine Rs.loadR rfl rfl rfl rfl ?_ | refine Rs.loadP 0 rfl rfl rfl rfl rfl ?_ | refine Rs.loadP 1 rfl rfl rfl rfl rfl ?_ | refine Rs.loadP 2 rfl rfl rfl rfl rfl ?_ | refine Rs.loadP 3 rfl rfl rfl rfl rfl ?_
    refine Rs.assign rfl rfl ?_
    refine Rs.nil ?_
    refine Ps.thn ?_
    refine Ps.seq ?_
    refine Ps.region rfl ?_
    refine Rs.move rfl rfl ?_
    refine Rs.rem rfl rfl rfl (by omega) (by first | exact Int.tmod_eq_emod_of_nonneg (by omega) | rfl) ?_
    refine Rs.add rfl rfl rfl (by first | exact W_u16 (by omega) (by omega) | rfl) ?_
    refine Rs.assign rfl rfl ?_
    refine Rs.nil ?_
    refine Ps.thn ?_
    refine Ps.seq ?_
    refine Ps.region rfl ?_
    refine Rs.move rfl rfl ?_
    refine Rs.move rfl rfl ?_
    refine Rs.call1 rfl rfl rfl (fun H hH => DpL.top (n := 95000) (by repeat' first | exact DpL.nil | refine DpL.cons (Dp.plain 95000 rfl rfl) ?_ | refine DpL.cons (Dp.sl 95000 (by assumption)) ?_ | refine DpL.cons (Dp.g (by assumption) hH (fun x hx => by simp [hx]) (by intro p hp; obtain ⟨x, _, rfl⟩ := List.mem_map.1 hp; rfl) (by simp; omega)) ?_) rfl) (contains16 u _ _ (slP_is _ _) (by omega)) (by first | (intro p hp; rw [hp]; rfl) | (rintro p ⟨r, rfl, _⟩; rfl)) (fun p17 hp => ?_)
    obtain rfl := hp
    refine Rs.not rfl rfl ?_
    refine Rs.nil ?_
    refine Ps.thn ?_
    refine Ps.if rfl (fun hc => ?_) (fun hc => ?_)
    · try (first | replace hc := D1 hc | replace hc := D2 hc | replace hc := D3 hc | replace hc := D4 hc | replace hc := D5 hc | replace hc := D6 hc | replace hc := D7 hc | replace hc := D8 hc | replace hc := D9 hc | replace hc := D10 hc)
      refine Ps.region rfl ?_
      refine Rs.move rfl rfl ?_
      refine Rs.move rfl rfl ?_
      refine Rs.buildSlice (l := [_]) rfl rfl rfl rfl (by first | rfl | simp [deepL, deepB, *]) ?_
      first | refine Rs.append0 1 2 rfl rfl ⟨_, rfl⟩ rfl rfl rfl rfl rfl rfl rfl rfl rfl rfl (by assumption) rfl (by first | rfl | simp [scalarsE, scalars, PV.cells, sc_int, sc_str, sc_bool, sc_nil, sc_dsl, *]) (by simp; omega) (fun a22 ha22 => ?_) | refine Rs.append1 1 2 rfl rfl ⟨_, rfl⟩ rfl rfl rfl rfl rfl rfl rfl rfl rfl rfl (by assumption) rfl (by first | rfl | simp [scalarsE, scalars, PV.cells, sc_int, sc_str, sc_bool, sc_nil, sc_dsl, *]) (by simp; omega) (fun a22 ha22 => ?_) | refine Rs.append2 1 2 rfl rfl ⟨_, rfl⟩ rfl rfl rfl rfl rfl rfl rfl rfl rfl rfl (by assumption) rfl (by first | rfl | simp [scalarsE, scalars, PV.cells, sc_int, sc_str, sc_bool, sc_nil, sc_dsl, *]) (by simp; omega) (fun a22 ha22 => ?_) | refine Rs.append3 1 2 rfl rfl ⟨_, rfl⟩ rfl rfl rfl rfl rfl rfl rfl rfl rfl rfl (by assumption) rfl (by first | rfl | simp [scalarsE, scalars, PV.cells, sc_int, sc_str, sc_bool, sc_nil, sc_dsl, *]) (by simp; omega) (fun a22 ha22 => ?_)
      refine Rs.assign rfl rfl ?_
      refine Rs.nil ?_
      refine Ps.blk ?_
      refine Ps.thn ?_
      refine Ps.region rfl ?_
      refine Rs.add rfl rfl rfl (by first | exact W_i64s (by omega) | exact W_i64 (by omega) (by omega) | rfl) ?_
      refine Rs.move rfl rfl ?_
      refine Rs.nil ?_
      -- leaf 1 (round1)
      first
        | (rw [show List.map u16P u ++ [u16P (1 + x % 9)] = List.map u16P (u ++ [1 + x % 9]) by simp] at ha22 ⊢
           refine Ps.round (j + 1, u ++ [1 + x % 9], a22) ⟨hlt, ?_, ?_, by simp, ha22⟩ (by show l.length - (j + 1) < l.length - j; omega) ⟨rfl, rfl, trivial⟩ (by repeat' first | exact HasL.nil | refine HasL.cons rfl ?_) (by repeat' first | exact List.Sublist.refl _ | exact List.nil_sublist _ | exact List.sublist_append_left _ _ | refine List.Sublist.cons₂ _ ?_ | refine List.Sublist.cons _ ?_)
           · refine List.nodup_append.2 ⟨hnd, by simp, fun z hz b hb => ?_⟩
             rw [List.mem_singleton.1 hb]
             intro e
             rw [e] at hz
             exact hc hz
           · intro z hz
             rcases List.mem_append.1 hz with hz | hz
             · exact hr z hz
             · rw [List.mem_singleton.1 hz]; omega)
        | (exact Ps.round (j + 1, u, a) ⟨hlt, hnd, hr, fun _ e => by subst e; simp at hc, ha⟩ (by show l.length - (j + 1) < l.length - j; omega) ⟨rfl, rfl, trivial⟩ (by repeat' first | exact HasL.nil | refine HasL.cons rfl ?_) (by repeat' first | exact List.Sublist.refl _ | exact List.nil_sublist _ | exact List.sublist_append_left _ _ | refine List.Sublist.cons₂ _ ?_ | refine List.Sublist.cons _ ?_))
    · try (first | replace hc := D1 hc | replace hc := D2 hc | replace hc := D3 hc | replace hc := D4 hc | replace hc := D5 hc | replace hc := D6 hc | replace hc := D7 hc | replace hc := D8 hc | replace hc := D9 hc | replace hc := D10 hc)
      refine Ps.skip ?_
      refine Ps.blk ?_
      refine Ps.thn ?_
      refine Ps.region rfl ?_
      refine Rs.add rfl rfl rfl (by first | exact W_i64s (by omega) | exact W_i64 (by omega) (by omega) | rfl) ?_
      refine Rs.move rfl rfl ?_
      refine Rs.nil ?_
      -- leaf 2 (round1)
      first
        | (rw [show List.map u16P u ++ [u16P (1 + x % 9)] = List.map u16P (u ++ [1 + x % 9]) by simp] at ha22 ⊢
           refine Ps.round (j + 1, u ++ [1 + x % 9], a22) ⟨hlt, ?_, ?_, by simp, ha22⟩ (by show l.length - (j + 1) < l.length - j; omega) ⟨rfl, rfl, trivial⟩ (by repeat' first | exact HasL.nil | refine HasL.cons rfl ?_) (by repeat' first | exact List.Sublist.refl _ | exact List.nil_sublist _ | exact List.sublist_append_left _ _ | refine List.Sublist.cons₂ _ ?_ | refine List.Sublist.cons _ ?_)
           · refine List.nodup_append.2 ⟨hnd, by simp, fun z hz b hb => ?_⟩
             rw [List.mem_singleton.1 hb]
             intro e
             rw [e] at hz
             exact hc hz
           · intro z hz
             rcases List.mem_append.1 hz with hz | hz
             · exact hr z hz
             · rw [List.mem_singleton.1 hz]; omega)
        | (exact Ps.round (j + 1, u, a) ⟨hlt, hnd, hr, fun _ e => by subst e; simp at hc, ha⟩ (by show l.length - (j + 1) < l.length - j; omega) ⟨rfl, rfl, trivial⟩ (by repeat' first | exact HasL.nil | refine HasL.cons rfl ?_) (by repeat' first | exact List.Sublist.refl _ | exact List.nil_sublist _ | exact List.sublist_append_left _ _ | refine List.Sublist.cons₂ _ ?_ | refine List.Sublist.cons _ ?_))
  · try (first | replace hc := D1 hc | replace hc := D2 hc | replace hc := D3 hc | replace hc := D4 hc | replace hc := D5 hc | replace hc := D6 hc | replace hc := D7 hc | replace hc := D8 hc | replace hc := D9 hc | replace hc := D10 hc)
    refine Ps.exit ?_
    refine Ps.thn_exit ?_
    refine Ps.rnd_exit ?_
    refine Ps.blk_here ?_
    refine Ps.thn ?_
    refine Ps.seq ?_
    refine Ps.region rfl ?_
    refine Rs.move rfl rfl ?_
    refine Rs.call2 rfl rfl rfl (sortG u a [] (by omega) ha) (fun p25 M25 hp25 => ?_)
    obtain ⟨u', hP, hS, rfl⟩ := hp25
    rw [gP_len (s := 1) (a := a) (l := u.map u16P) (l' := u'.map u16P) (by simp [hP.length_eq])]
    have ha' : a = none ↔ u'.map u16P = [] := by rw [ha]; simp; exact ⟨fun e => by subst e; exact hP.eq_nil, fun e => by subst e; exact hP.nil_eq.symm⟩
    have hul' : u'.length ≤ 9 := by rw [hP.length_eq]; exact hul
    refine Rs.nil ?_
    refine Ps.thn ?_
    refine Ps.seq ?_
    refine Ps.region rfl ?_
    refine Rs.move rfl rfl ?_
    refine Rs.assign rfl rfl ?_
    refine Rs.nil ?_
    refine Ps.thn ?_
    refine Ps.ret ?_
    -- leaf 3 (ret)
    refine Ps.finG (a := a) rfl (.tmp rfl .nil) ha' (by repeat' first | exact List.Sublist.refl _ | exact List.nil_sublist _ | exact List.sublist_append_left _ _ | refine List.Sublist.cons₂ _ ?_ | refine List.Sublist.cons _ ?_) (by intro q hq; obtain ⟨z, _, rfl⟩ := List.mem_map.1 hq; rfl) (by simp; omega) ⟨u', madeU_of hnd hr hP hS, fun h e => ?_, rfl⟩
    subst e
    have : 0 < j := by have := List.length_pos_iff.2 h; simp at hc; omega
    exact hne this hP.nil_eq.symm
end Go.Proofs.YtddaogebacigbaaGreatDoor.RV.T
