-- Written by a program of this session's (wip/xp) out of the translation; given functions by hand.
import Derived.Test.YtfpfilmdlconhaaGreatDoorXA0
import Derived.Test.YtfpfilmdlconhaaGreatDoorXA3
namespace Go.Proofs.YtfpfilmdlconhaaGreatDoor.XA
open Go.RowKit Go.Proofs.YtfpfilmdlconhaaGreatDoorW.PrintWords Go.Proofs.YtfpfilmdlconhaaGreatDoorW.PrintLast Go.Proofs.YtfpfilmdlconhaaGreatDoorW.PrintMore
attribute [local go_sem] max2_int min2_int max_two min_two max_three min_three max_four min_four   -- for this text's walks alone
set_option linter.unusedVariables false
set_option linter.unusedSimpArgs false

/-! ### unit_Units_Without: function 30 -/
theorem del.is (x n : Int) (g : Nat) (w : World) (hg : w.heap[g]? = some (.cells #[.int .u16 n] 48 (0, 0))) :
    Calls Tryz.prog 43 #[.int .u16 x, .pointer (some ⟨g, 0, none⟩)] w fun e w' => e = .returned (.bool (x == n)) ∧ w' = w := by
  have hc : w.cell? ⟨g, 0, none⟩ = some (.int .u16 n) := (blk_cell hg 0).trans rfl
  go_enter Tryz.func43, Tryz.ntmps43
  go_wp2
  go_ret
  exact ⟨rfl, rfl⟩
theorem int_at {k : IntKind} {w : World} {A : Option Addr} {n : Nat} {xs : List Int} (h : (Kd.int k).C w A n xs) (h0 : 0 < n) : ∃ a, A = some a ∧ ∀ j (hj : j < xs.length), w.cell? (a.add j) = some (.int k xs[j]) := by
  obtain ⟨a, e, hc⟩ := h.2.2 h0
  refine ⟨a, e, fun j hj => ?_⟩
  obtain ⟨c, _, hr, hcell⟩ := hc j _ (List.getElem?_eq_getElem hj)
  have hr' : c = [.int k xs[j]] := hr
  subst hr'
  have := hcell 0 _ rfl
  simpa [show (Kd.int k).sz = 1 from rfl] using this
/-- Where a number is first; -1: nowhere. -/
def idx (n : Int) (l : List Int) : Int := if n ∈ l then (l.idxOf n : Int) else -1
theorem idx_hit {n : Int} {l : List Int} {x : Nat} (hx : x < l.length) (h : l[x] = n) (hb : ∀ j (h : j < l.length), j < x → l[j] ≠ n) : idx n l = (x : Int) := by
  have hm : n ∈ l := h ▸ List.getElem_mem hx
  unfold idx
  rw [if_pos hm]
  have h1 : l.idxOf n < l.length := List.idxOf_lt_length_iff.2 hm
  have h2 : l[l.idxOf n] = n := List.getElem_idxOf h1
  have h3 : ¬ l.idxOf n < x := fun hlt => hb _ h1 hlt h2
  have h4 : ¬ x < l.idxOf n := fun hlt => by
    have := List.not_of_lt_findIdx (p := (· == n)) (xs := l) hlt
    simp [h] at this
  rw [show l.idxOf n = x by omega]
theorem idx_miss {n : Int} {l : List Int} (hb : ∀ j (h : j < l.length), l[j] ≠ n) : idx n l = -1 := by
  unfold idx
  rw [if_neg (fun hm => by obtain ⟨j, hj, e⟩ := List.getElem_of_mem hm; exact hb j hj e)]
set_option maxHeartbeats 8000000 in
set_option maxRecDepth 100000 in
theorem index.calls (A0 : Option Addr) (c0 : Nat) (l0 : List Int) (n : Int) (g : Nat) (w : World) (hr0 : Kd.C (Kd.int .u16) w A0 l0.length l0) (hl : l0.length < 1000000000) (hg : w.heap[g]? = some (.cells #[.int .u16 n] 48 (0, 0))) :
    Calls Tryz.prog 68 #[.slice A0 l0.length c0, .func (.func 43) #[] #[.pointer (some ⟨g, 0, none⟩)]] w fun e w' => e = .returned (.int .i64 (idx n l0)) ∧ Drawn0 w w' := by
  have HR0 := Aside0.mk hr0
  have HG := Aside0.mk hg
  clear hr0 hg
  go_enter Tryz.func68, Tryz.ntmps68
  go_wp2
  go_loopw [8] (fun v8 w' => ∃ x : Nat, Drawn0 w w' ∧ v8 = .int .i64 x ∧ x ≤ l0.length ∧ (∀ j (h : j < l0.length), j < x → l0[j] ≠ n)) (fun v8 _ => l0.length - (intOf v8).toNat)
  case atStart => exact ⟨0, Drawn0.refl _, rfl, Nat.zero_le _, fun j _ h => absurd h (Nat.not_lt_zero _)⟩
  case round =>
    obtain ⟨x, ⟨⟨m, rfl⟩⟩, rfl, hx, hb⟩ := hrel
    by_cases hp : x < l0.length
    · obtain ⟨a, rfl, hat⟩ := int_at HR0.out (by omega)
      have hc : (w.drewN m).cell? (a.add x) = some (.int .u16 l0[x]) := hat x hp
      have d0 : decide ((x : Int) < (l0.length : Int)) = true := decide_eq_true (by omega)
      have d1 : decide (x < l0.length) = true := decide_eq_true hp
      have hw : IntKind.i64.wrap ((x : Int) + 1) = (x : Int) + 1 := by rw [IntKind.wrap_i64]; omega
      go_wp2_with (go_at_call 43; (refine (del.is _ n g _ ?sd).mono ?_); (case sd => exact HG.out); rintro e w5 ⟨rfl, rfl⟩)
      · rename_i hq
        go_ret
        exact ⟨by rw [idx_hit hp (by simpa using hq) hb]; rfl, ⟨⟨m, rfl⟩⟩⟩
      · rename_i hq
        refine ⟨⟨x + 1, ⟨⟨m, rfl⟩⟩, rfl, by omega, fun j h hlt => ?_⟩, by simp [intOf]; omega⟩
        rcases Nat.lt_or_ge j x with h5 | h5
        · exact hb j h h5
        · obtain rfl : j = x := by omega
          simpa using hq
    · have d0 : decide ((x : Int) < (l0.length : Int)) = false := decide_eq_false (by omega)
      have d1 : decide (x < l0.length) = false := decide_eq_false hp
      go_wp2
      go_ret
      exact ⟨by rw [idx_miss (fun j h => hb j h (by omega))]; rfl, ⟨⟨m, rfl⟩⟩⟩
/-- What is left of the first j numbers. -/
def left (n : Int) (l : List Int) (j : Nat) : List Int := (l.take j).filter (fun x => x != n)
theorem left_succ {n : Int} {l : List Int} {j : Nat} (h : j < l.length) : left n l (j + 1) = left n l j ++ (if l[j] = n then [] else [l[j]]) := by
  unfold left
  rw [List.take_succ_eq_append_getElem h, List.filter_append]
  by_cases e : l[j] = n
  · rw [if_pos e, List.filter_cons_of_neg (by simp [e])]
    rfl
  · rw [if_neg e, List.filter_cons_of_pos (by simp [e])]
    rfl
theorem left_le (n : Int) (l : List Int) (j : Nat) : (left n l j).length ≤ j := Nat.le_trans (List.length_filter_le _ _) (by rw [List.length_take]; omega)
def cellsOf16 (l : List Int) : List Value := l.map (fun x => .int .u16 x)
set_option maxHeartbeats 8000000 in
set_option maxRecDepth 100000 in
theorem delete.calls (l0 : List Int) (n : Int) (g gs cap : Nat) (cur : Array Value) (w : World) (hgs : w.heap[gs]? = some (.cells cur 48 (0, 0))) (hcs : cur.size = cap) (hnc : l0.length ≤ cap) (hcm : cap ≤ maxLen) (htk : cur.toList.take l0.length = cellsOf16 l0) (hl : l0.length < 1000000000) (hg : w.heap[g]? = some (.cells #[.int .u16 n] 48 (0, 0))) (hne : g ≠ gs) (hin : n ∈ l0) :
    Calls Tryz.prog 42 #[.slice (some ⟨gs, 0, none⟩) l0.length cap, .func (.func 43) #[] #[.pointer (some ⟨g, 0, none⟩)]] w fun e w' => ∃ r : List Int, r = l0.filter (fun x => x != n) ∧ e = .returned (.slice (some ⟨gs, 0, none⟩) r.length cap) ∧ ∃ cur' : Array Value, w'.heap[gs]? = some (.cells cur' 48 (0, 0)) ∧ cur'.size = cap ∧ cur'.toList.take r.length = cellsOf16 r ∧ w.grownBy w' (some gs) := by
  have hat : ∀ j (hj : j < l0.length), cur.toList[j]? = some (.int .u16 l0[j]) := by
    intro j hj
    have : (cur.toList.take l0.length)[j]? = some (.int .u16 l0[j]) := by rw [htk]; simp [cellsOf16, hj]
    rw [List.getElem?_take, if_pos hj] at this
    exact this
  have hR : Kd.C (Kd.int .u16) w (some ⟨gs, 0, none⟩) l0.length l0 := ⟨rfl, by omega, fun _ => ⟨_, rfl, fun j p hj => by
    obtain ⟨hj', rfl⟩ := List.getElem?_eq_some_iff.1 hj
    refine ⟨[.int .u16 l0[j]], rfl, rfl, fun i u hu => ?_⟩
    match i, hu with
    | 0, hu =>
      simp at hu
      subst hu
      rw [Addr.add_lit, cell_of_row w gs _ cur _ (0, 0) hgs]
      have := hat j hj'
      simpa [show (Kd.int .u16).sz = 1 from rfl] using this⟩⟩
  have HR0 := Aside0.mk hR
  obtain ⟨i0, hi0⟩ : ∃ i0 : Nat, i0 = l0.idxOf n := ⟨_, rfl⟩
  have hi0l : i0 < l0.length := by rw [hi0]; exact List.idxOf_lt_length_iff.2 hin
  have hix : idx n l0 = (i0 : Int) := by unfold idx; rw [if_pos hin, hi0]
  have hfst : left n l0 (i0 + 1) = l0.take i0 := by
    have hn0 : l0[i0] = n := by subst hi0; exact List.getElem_idxOf hi0l
    rw [left_succ hi0l, if_pos hn0, List.append_nil]
    unfold left
    rw [List.filter_eq_self]
    intro x hx
    obtain ⟨j, hj, rfl⟩ := List.getElem_of_mem hx
    rw [List.getElem_take]
    rw [List.length_take] at hj
    have := List.not_of_lt_findIdx (p := (· == n)) (xs := l0) (i := j) (by have h5 : j < i0 := (by omega); rw [hi0] at h5; exact h5)
    simpa using this
  clear hR hi0
  go_enter Tryz.func42, Tryz.ntmps42
  have d0 : ((i0 : Int) == -1) = false := beq_eq_false_iff_ne.2 (by omega)
  have hw1 : IntKind.i64.wrap ((i0 : Int) + 1) = (i0 : Int) + 1 := by rw [IntKind.wrap_i64]; omega
  go_wp2_with (go_at_call 68; (refine (index.calls _ _ l0 n g _ HR0.out hl hg).mono ?_); rintro e w5 ⟨rfl, ⟨⟨m, rfl⟩⟩⟩; rw [hix])
  go_loopw [5, 6] (fun v5 v6 w' => ∃ (j : Nat) (cur' : Array Value), v5 = .int .i64 ((left n l0 j).length : Int) ∧ v6 = .int .i64 j ∧ i0 < j ∧ j ≤ l0.length ∧ w'.heap[gs]? = some (.cells cur' 48 (0, 0)) ∧ cur'.size = cap ∧ cur'.toList.take (left n l0 j).length = cellsOf16 (left n l0 j) ∧ (∀ p (hp : p < l0.length), j ≤ p → cur'.toList[p]? = some (.int .u16 l0[p])) ∧ w.grownBy w' (some gs)) (fun _ v6 _ => l0.length - (intOf v6).toNat)
  case atStart =>
    refine ⟨i0 + 1, cur, by rw [hfst, List.length_take, Nat.min_eq_left (by omega)], by simp, by omega, by omega, hgs, hcs, ?_, fun p hp _ => hat p hp, ⟨rfl, rfl, rfl, Nat.le_refl _, fun _ _ _ => rfl⟩⟩
    rw [hfst]
    have := congrArg (List.take i0) htk
    rw [List.take_take, Nat.min_eq_left (by omega)] at this
    rw [List.length_take, Nat.min_eq_left (by omega), this]
    unfold cellsOf16
    rw [List.map_take]
  case round =>
    obtain ⟨j, cur', rfl, rfl, hij, hj, hgs', hcs', htk', hrest, hgr⟩ := hrel
    have hgl : g < w.heap.size := (Array.getElem?_eq_some_iff.1 hg).1
    have hgr' : wr.heap[g]? = some (.cells #[.int .u16 n] 48 (0, 0)) := (hgr.block g hgl (fun e => hne (by injection e))).trans hg
    have HG := Aside0.mk hgr'
    have hq := left_le n l0 j
    obtain ⟨q, hqd⟩ : ∃ q, q = (left n l0 j).length := ⟨_, rfl⟩
    rw [← hqd] at htk' hq ⊢
    have HQ := Aside0.mk hqd
    clear hqd
    by_cases hp : j < l0.length
    · have hcj : wr.cell? ⟨gs, j, none⟩ = some (.int .u16 l0[j]) := by
        rw [cell_of_row wr gs _ cur' _ (0, 0) hgs']
        have := hrest j hp (Nat.le_refl _)
        simpa using this
      have hqs : q < cur'.size := by omega
      have hcq : wr.cell? ⟨gs, q, none⟩ = some cur'[q] := by
        rw [cell_of_row wr gs _ cur' _ (0, 0) hgs']
        simp [hqs]
      have hfq : wr.frozen? ⟨gs, q, none⟩ = false := by simp [World.frozen?, hgs']
      have d0 : decide ((j : Int) < (l0.length : Int)) = true := decide_eq_true (by omega)
      have d1 : decide (j < l0.length) = true := decide_eq_true hp
      have d2 : decide ((q : Int) < (l0.length : Int)) = true := decide_eq_true (by omega)
      have d3 : decide (q < l0.length) = true := decide_eq_true (by omega)
      have hw2 : IntKind.i64.wrap ((j : Int) + 1) = (j : Int) + 1 := by rw [IntKind.wrap_i64]; omega
      have hw3 : IntKind.i64.wrap ((q : Int) + 1) = (q : Int) + 1 := by rw [IntKind.wrap_i64]; omega
      go_wp2_with (go_at_call 43; (refine (del.is _ n g _ ?sd).mono ?_); (case sd => exact HG.out); rintro e w5 ⟨rfl, rfl⟩)
      · rename_i hx
        have hx' : ¬ l0[j] = n := by simpa using hx
        have hs := left_succ (n := n) hp
        rw [if_neg hx'] at hs
        have hl2 : (left n l0 (j + 1)).length = q + 1 := by rw [hs, List.length_append, HQ.out]; rfl
        have hset := setCell_eq_setRow w5 gs q cur' 48 (0, 0) (.int .u16 l0[j]) hgs'
        refine ⟨⟨j + 1, cur'.setIfInBounds q (.int .u16 l0[j]), by rw [hl2]; rfl, by simp, by omega, by omega, ?_, by simpa using hcs', ?_, fun p hp2 hjp => ?_, ?_⟩, by simp [intOf]; omega⟩
        · rw [hset]
          exact setRow_heap w5 gs cur' _ 48 (0, 0) hgs'
        · rw [hl2, hs, Array.toList_setIfInBounds]
          have hl3 : q < cur'.toList.length := by simpa using hqs
          rw [List.take_succ_eq_append_getElem (by simpa using hqs), List.take_set_of_le (Nat.le_refl _), htk', List.getElem_set_self]
          unfold cellsOf16
          rw [List.map_append]
          rfl
        · rw [Array.toList_setIfInBounds, List.getElem?_set_ne (by omega)]
          exact hrest p hp2 (by omega)
        · rw [hset]
          exact hgr.trans (XMem.setRow_grown _ _ _)
      · rename_i hx
        have hx' : l0[j] = n := by simpa using hx
        have hs := left_succ (n := n) hp
        rw [if_pos hx', List.append_nil] at hs
        refine ⟨⟨j + 1, cur', by rw [hs, ← HQ.out], by simp, by omega, by omega, hgs', hcs', by rw [hs, ← HQ.out]; exact htk', fun p hp2 hjp => hrest p hp2 (by omega), hgr⟩, by simp [intOf]; omega⟩
    · have d0 : decide ((j : Int) < (l0.length : Int)) = false := decide_eq_false (by omega)
      have d1 : decide (j < l0.length) = false := decide_eq_false hp
      obtain rfl : j = l0.length := by omega
      have hfull : left n l0 l0.length = l0.filter (fun x => x != n) := by unfold left; rw [List.take_length]
      have hql : q < l0.length := by
        rw [HQ.out, hfull]
        rcases Nat.lt_or_ge (l0.filter (fun x => x != n)).length l0.length with h | h
        · exact h
        · have := (List.length_filter_eq_length_iff.1 (Nat.le_antisymm (List.length_filter_le _ _) h)) n hin
          simp at this
      have hcapq : ¬ (cap = q) := by omega
      obtain ⟨z0, hz0, hzz⟩ := Option.map_eq_some_iff.1 info48
      simp only [Prod.mk.injEq] at hzz
      have hclr := XMem.clear_run (P := Tryz.prog) wr 46 48 0 (.int .u16 0) Tryz.underlying46 (fun w => by simp [zeroValue, typeInfo, hz0, hzz.1]) rfl rfl gs q (l0.length - q) (cap - q) cur' 48 hgs' (by omega) (by omega)
      obtain ⟨cur2, hc2⟩ : ∃ cur2, cur2 = (cur'.toList.take q ++ List.replicate (l0.length - q) (Value.int .u16 0) ++ cur'.toList.drop (q + (l0.length - q))).toArray := ⟨_, rfl⟩
      rw [← hc2] at hclr
      have hc2s : cur2.size = cap := by
        rw [hc2, ← hcs']
        simp only [List.size_toArray, List.length_append, List.length_take, List.length_drop, List.length_replicate, Array.length_toList]
        omega
      have hc2t : cur2.toList.take q = cellsOf16 (l0.filter (fun x => x != n)) := by
        rw [hc2, List.append_assoc]
        show List.take q (_ ++ _) = _
        rw [List.take_append_of_le_length (by rw [List.length_take, Array.length_toList]; omega), List.take_take, Nat.min_self, htk', hfull]
      clear hc2
      go_wp2_with (at_builtin; refine XMem.wpList_clear _ rfl _ 46 rfl _ rfl hclr ?_)
      go_ret
      refine ⟨_, rfl, ?_, cur2, setRow_heap wr gs cur' cur2 48 (0, 0) hgs', hc2s, ?_, hgr.trans (XMem.setRow_grown _ _ _)⟩
      · rw [← hfull, ← HQ.out]
        rfl
      · rw [← hfull, ← HQ.out, hfull]
        exact hc2t
set_option maxHeartbeats 8000000 in
set_option maxRecDepth 100000 in
theorem delete.any (base : Nat) (ok : Nat → Prop) (v : Value) (l0 : List Int) (n : Int) (g : Nat) (w : World) (HO : Kd.R (Kd.int .u16) 48 w base ok v l0) (hl : l0.length < 1000000000) (hg : w.heap[g]? = some (.cells #[.int .u16 n] 48 (0, 0))) (hne : v.ownBlock ≠ some g) :
    Calls Tryz.prog 42 #[v, .func (.func 43) #[] #[.pointer (some ⟨g, 0, none⟩)]] w fun e w' => ∃ v', e = .returned v' ∧ Kd.R (Kd.int .u16) 48 w' base ok v' (l0.filter (fun x => x != n)) ∧ w.grownBy w' v.ownBlock := by
  by_cases hin : n ∈ l0
  · have hown := (XMem.flatInt .u16).own HO
    rcases hown.2 with ⟨_, h0⟩ | ⟨gs, cap, cur, rfl, hb, hgs, hnc, hcm, hcs, htk⟩
    · have := List.eq_nil_of_length_eq_zero h0
      subst this
      cases hin
    · have hsz : (Kd.int .u16).sz = 1 := rfl
      rw [hsz, Nat.mul_one] at hcs htk
      have hfm : ∀ l : List Int, l.flatMap (fun x => [Value.int .u16 x]) = cellsOf16 l := fun l => by
        unfold cellsOf16
        induction l with
        | nil => rfl
        | cons x t ih => rw [List.flatMap_cons, ih]; rfl
      refine (delete.calls l0 n g gs cap cur w hgs hcs hnc hcm (by rw [htk, hfm]) hl hg (fun e => hne (by rw [e]; rfl)) hin).mono ?_
      rintro e w' ⟨r, rfl, rfl, cur', q1, q2, q3, q4⟩
      have hle := List.length_filter_le (fun x => x != n) l0
      refine ⟨_, rfl, (XMem.flatInt .u16).make ⟨?_, .inr ⟨gs, cap, cur', rfl, hb, q1, by omega, hcm, by rw [hsz, Nat.mul_one]; exact q2, by rw [hsz, Nat.mul_one, hfm]; exact q3⟩⟩ (fun k hk => HO.1 k hk), q4⟩
      exact XMem.flat_len (XMem.flatInt .u16) w _
  · obtain ⟨A, c, rfl, hlc, hC⟩ := Kd.R_reads HO
    have hf : l0.filter (fun x => x != n) = l0 := by
      rw [List.filter_eq_self]
      intro x hx
      simp
      rintro rfl
      exact hin hx
    rw [hf]
    have hix : idx n l0 = -1 := by unfold idx; rw [if_neg hin]
    have HC := Aside0.mk hC
    have HO' := Aside0.mk HO
    clear hC HO
    go_enter Tryz.func42, Tryz.ntmps42
    go_wp2_with (go_at_call 68; (refine (index.calls _ _ l0 n g _ HC.out hl hg).mono ?_); rintro e w5 ⟨rfl, ⟨⟨m, rfl⟩⟩⟩; rw [hix])
    go_ret
    refine ⟨_, rfl, Kd.R_drewN HO'.out m, ⟨rfl, rfl, rfl, Nat.le_refl _, fun _ _ _ => rfl⟩⟩
def unit_Units_Without.f (l0 : List Int) (a1 : Int) : Option (List Int) := if l0.length < 1000000000 then some (l0.filter (fun x => x != a1)) else none
set_option maxHeartbeats 8000000 in
set_option maxRecDepth 100000 in
theorem unit_Units_Without.calls (A0 : Option Addr) (c0 : Nat) (l0 : List Int) (a1 : Int) (r : List Int) (w : World) (hr0 : Kd.C (Kd.int .u16) w A0 l0.length l0) (hc0 : l0.length ≤ c0) (h : unit_Units_Without.f l0 a1 = some r) :
    Calls Tryz.prog 30 #[.slice A0 l0.length c0, .int .u16 a1] w fun e w' => ∃ v0_ : Value, e = .returned (v0_) ∧ Kd.R (Kd.int .u16) 48 w' w.heap.size (fun _ => True) v0_ r ∧ Below w.heap.size w w' := by
  have HR0 := Aside0.mk hr0
  have HC0 := Aside0.mk hc0
  clear hr0 hc0
  have HB := Aside0.mk (Below.refl w.heap.size w)
  unfold unit_Units_Without.f at h
  by_cases hlen : l0.length < 1000000000
  case neg => rw [if_neg hlen] at h; cases h
  rw [if_pos hlen] at h
  obtain rfl := Option.some.inj h
  clear h
  have HCl : unit_Units_uint16_27.f l0 = some l0 := if_pos (by omega)
  go_enter Tryz.func30, Tryz.ntmps30
  go_wp2_with (first
    | ((with_reducible refine gate_dst (N := 3) rfl ?_); refine box_event ?hg (N := 3) ?hd (cs := #[.int .u16 a1]) (t := 48) ?hr ?_; (case hd => rfl); (case hg => rfl); (case hr => first | (go_simp; done) | (go_simp; rfl)); intro gb hg w4 hbox hb; have n0_ := Aside0.mk (below_step HB.out hb); have BK := Aside0.mk hbox; have GE := Aside0.mk ((by rw [hg]; exact below_size HB.out) : w.heap.size ≤ gb); clear HB hb hbox hg; have HB := n0_; clear n0_)
    | (go_at_call 27; (with_reducible refine (unit_Units_uint16_27.calls _ _ l0 l0 _ ?side1 ?side2 HCl).mono ?_); (case side1 => exact Kd.C_below HR0.out HB.out); (case side2 => exact HC0.out); rintro e w6 ⟨v1, rfl, ho, hb⟩; have hlt := blk_lt BK.out; have n0_ := Aside0.mk (Kd.R_lower ho (below_size HB.out)); have n1_ := Aside0.mk (below_step HB.out hb); have n2_ := Aside0.mk ((hb.block gb hlt).trans BK.out); have NE := Aside0.mk (show v1.ownBlock ≠ some gb from fun e => by have := ((XMem.flatInt .u16).own ho).lt _ e; omega); clear HB ho hb BK hlt; have HO := n0_; have HB := n1_; have BK := n2_; clear n0_ n1_ n2_)
    | (go_at_call 42; (refine (delete.any w.heap.size (fun _ => True) _ l0 a1 gb _ ?s1 hlen ?s2 ?s3).mono ?_); (case s1 => exact HO.out); (case s2 => exact BK.out); (case s3 => exact NE.out); rintro e w7 ⟨v2, rfl, ho2, hg2⟩; have n0_ := Aside0.mk (Below.grown HB.out hg2 (below_size HB.out) (fun k hk => (((XMem.flatInt .u16).own HO.out).lt k hk).1)); have HO2 := Aside0.mk ho2; clear HB ho2 hg2; have HB := n0_; clear n0_))
  go_ret
  exact ⟨_, rfl, HO2.out, HB.out⟩

end Go.Proofs.YtfpfilmdlconhaaGreatDoor.XA
