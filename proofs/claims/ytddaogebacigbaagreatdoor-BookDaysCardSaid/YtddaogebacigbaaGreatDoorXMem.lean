/- Laws of memory for rows of the call's own whose elements are plain cells: copying, growing, inserting. Of no function of the program. No conditions. -/
import Derived.Below
import Derived.Deep.Draws
import Derived.Maps.AppendAt
import Derived.Laws.IdiomCopy
import Derived.Lib.AppendZerosOnto
import Derived.Deep.AppendSrc
import Derived.Lib.Overlaps
import Derived.Laws.Externs
import Derived.WalkKit
import Derived.Shelf.RegionOpenPlain
import Derived.Test.YtddaogebacigbaaGreatDoorWAll
namespace Go.Proofs.YtddaogebacigbaaGreatDoor.XMem
open Go Go.RowKit Go.Proofs.YtddaogebacigbaaGreatDoorW.PrintWords Go.Proofs.YtddaogebacigbaaGreatDoorW.PrintLast
set_option linter.unusedVariables false
set_option linter.unusedSimpArgs false
variable {P : Program}

theorem setRow_other (w : World) (g : Nat) (cs : Array Value) (k : Nat) (h : k ≠ g) : (w.setRow g cs).heap[k]? = w.heap[k]? := by
  unfold World.setRow
  simp only [Array.getElem?_modify]
  rw [if_neg (fun e => h e.symm)]
theorem setRow_size (w : World) (g : Nat) (cs : Array Value) : (w.setRow g cs).heap.size = w.heap.size := by
  unfold World.setRow
  simp
theorem setRow_grown (w : World) (g : Nat) (cs : Array Value) : w.grownBy (w.setRow g cs) (some g) :=
  ⟨rfl, rfl, rfl, by rw [setRow_size]; exact Nat.le_refl _, fun k _ hk => setRow_other w g cs k (fun e => hk (by rw [e]))⟩

/-- All is read before anything is written. -/
theorem copy_run (w : World) (dT sT ty elem : TypeId) (i : TypeInfo) (hu : P.underlying dT = some (.slice elem)) (hi : P.info? elem = some i) (g o : Nat) (cur : Array Value) (e : TypeId) (hg : w.heap[g]? = some (.cells cur e (0, 0)))
    (dLen dCap : Nat) (a : Addr) (sLen sCap m : Nat) (cs : List Value) (hm : Nat.min sLen dLen = m) (hl : cs.length = m * i.size)
    (hsrc : ∀ j v, cs[j]? = some v → w.cell? (a.add j) = some v) (hfit : o + cs.length ≤ cur.size) (h1 : ∀ v ∈ cs, v.oneCell' = true) :
    (Builtin.copy_ #[dT, sT] ty #[.slice (some ⟨g, o, none⟩) dLen dCap, .slice (some a) sLen sCap]).run P w = .ok (goInt m) (w.setRow g (cur.toList.take o ++ cs ++ cur.toList.drop (o + cs.length)).toArray) := by
  have hld := run_loadCells_list (P := P) w a cs hsrc
  have hst := run_storeCells_at P g o e cs 0 cur w hg (by omega) h1
  simp only [Nat.add_zero] at hst
  rw [hl] at hld
  simp [Builtin.copy_, run_underlying hu, Builtin.lenOf, Builtin.firstCells, sizeOf, typeInfo, hi, hm, hld, hst]
/-- Nothing goes over from no row. -/
theorem copy_none (w : World) (dT sT ty elem : TypeId) (i : TypeInfo) (hu : P.underlying dT = some (.slice elem)) (hi : P.info? elem = some i) (d a : Option Addr) (dLen dCap sLen sCap : Nat) (hm : Nat.min sLen dLen = 0) :
    (Builtin.copy_ #[dT, sT] ty #[.slice d dLen dCap, .slice a sLen sCap]).run P w = .ok (goInt 0) w := by
  have hl : ∀ (x : Addr), (loadCells x 0).run P w = .ok #[] w := fun x => by simpa using run_loadCells_list (P := P) w x [] (by simp)
  cases d <;> cases a <;> simp [Builtin.copy_, run_underlying hu, Builtin.lenOf, Builtin.firstCells, sizeOf, typeInfo, hi, hm, storeCells, hl]
theorem wp_copy (w : World) {o : Oper} {a : Act} {K : Act → World → Prop} {Q : Exit → Act → World → Prop} (d s : Operand) (t t' : TypeId)
    (ho : o.op = .call { callee := .builtin .copy, args := #[d, s], argTypes := #[t, t'] }) (v u : Value) (hd : a.eval d = v) (hs : a.eval s = u) {v' : Value} {w' : World}
    (hr : (Builtin.copy_ #[t, t'] o.type #[v, u]).run P w = .ok v' w') (h : K (a.put o.dst v') w') : o.wp P a w K Q := by
  unfold Oper.wp execOp
  simp only [ho, resolve, invoke, builtin, Sem.run_bind, Sem.run_pure, Result.andThen_ok, List.map_toArray, List.map_cons, List.map_nil, hd, hs, hr]
  exact h
theorem wpList_copy (w : World) {ops : Array Oper} {rest : List Oper} {o : Oper} {a : Act} {Q : Exit → Act → World → Prop} (hgd : o.guard = none) (d s : Operand) (t t' : TypeId)
    (ho : o.op = .call { callee := .builtin .copy, args := #[d, s], argTypes := #[t, t'] }) (v u : Value) (hd : a.eval d = v) (hs : a.eval s = u) {v' : Value} {w' : World}
    (hr : (Builtin.copy_ #[t, t'] o.type #[v, u]).run P w = .ok v' w') (h : wpList P ops Q rest (a.put o.dst v') w') : wpList P ops Q (o :: rest) a w :=
  wpList_plain hgd fun _ hK => wp_copy w d s t t' ho v u hd hs hr (hK _ _ h)
theorem step_copy {ops : Array Oper} {o : Oper} {a : Act} {w : World} {K : Act → World → Prop} {Q : Exit → Act → World → Prop} {E : Prop}
    (hg : o.guard = none) (d x : Operand) (dT sT : TypeId) (hop : o.op = Op.call { callee := Callee.builtin Builtin.copy, args := #[d, x], argTypes := #[dT, sT] })
    (v u : Value) (hd : a.eval d = v) (hx : a.eval x = u) {v' : Value} {w' : World} (hr : (Builtin.copy_ #[dT, sT] o.type #[v, u]).run P w = .ok v' w') (hK : K (a.put o.dst v') w') :
    if Region.wanted o (yielded ops a.tmps) = true then Oper.wp P o a w K Q else E := by
  have hw : Region.wanted o (yielded ops a.tmps) = true := by simp [Region.wanted, hg]
  rw [if_pos hw]
  exact wp_copy w d x dT sT hop v u hd hx hr hK

/-! ### flat kinds: an element is its cells -/
structure Flat {α : Type} (d : Kd α) (enc : α → List Value) : Prop where
  K : ∀ {w x cs}, d.K w x cs ↔ cs = enc x
  M : ∀ {w base ok x cs}, d.M w base ok x cs ↔ cs = enc x
section
variable {α : Type} {d : Kd α} {enc : α → List Value}
theorem Flat.len (F : Flat d enc) (w : World) (x : α) : (enc x).length = d.sz := d.K_len (w := w) (F.K.2 rfl)
theorem Flat.one (F : Flat d enc) (w : World) (x : α) : ∀ u ∈ enc x, u.oneCell' = true := d.K_one (w := w) (F.K.2 rfl)
theorem flat_len (F : Flat d enc) (w : World) : ∀ xs : List α, (xs.flatMap enc).length = xs.length * d.sz
  | [] => by simp
  | x :: xs => by rw [List.flatMap_cons, List.length_append, F.len w, flat_len F w xs, List.length_cons, Nat.add_mul]; omega
theorem flat_one (F : Flat d enc) (w : World) (xs : List α) : ∀ u ∈ xs.flatMap enc, u.oneCell' = true := by
  intro u hu
  obtain ⟨x, _, h⟩ := List.mem_flatMap.1 hu
  exact F.one w x u h
theorem flat_at (F : Flat d enc) (w : World) : ∀ (xs : List α) (j : Nat) (x : α), xs[j]? = some x → ((xs.flatMap enc).drop (j * d.sz)).take d.sz = enc x
  | y :: ys, 0, x, h => by
    simp at h
    subst h
    rw [Nat.zero_mul, List.drop_zero, List.flatMap_cons, ← F.len w y, List.take_left]
  | y :: ys, j + 1, x, h => by
    simp at h
    have hy := F.len w y
    rw [List.flatMap_cons, show (j + 1) * d.sz = (enc y).length + j * d.sz by rw [hy, Nat.add_mul]; omega, ← List.drop_drop, List.drop_left]
    exact flat_at F w ys j x h
theorem flat_reps {R : α → List Value → Prop} {size : Nat} (hR : ∀ x c, R x c → c = enc x) : ∀ (xs : List α) (cs : List Value), Reps R size xs cs → cs = xs.flatMap enc
  | [], cs, h => by
    have := h.1
    simp at this
    simp [this]
  | x :: xs, cs, h => by
    have h0 := hR _ _ (h.2 0 x rfl)
    rw [Nat.zero_mul, List.drop_zero] at h0
    have ht : Reps R size xs (cs.drop size) := by
      refine ⟨by rw [List.length_drop, h.1, List.length_cons, Nat.add_mul]; omega, fun j p hj => ?_⟩
      have := h.2 (j + 1) p (by simpa using hj)
      rwa [show (j + 1) * size = size + j * size by rw [Nat.add_mul]; omega, ← List.drop_drop] at this
    rw [List.flatMap_cons, ← flat_reps hR xs _ ht, ← h0, List.take_append_drop]
theorem Flat.own (F : Flat d enc) {e : Nat} {w : World} {base : Nat} {ok : Nat → Prop} {v : Value} {xs : List α} (h : d.R e w base ok v xs) : w.ownsRow base e d.sz v xs.length (xs.flatMap enc) := by
  obtain ⟨_, inner, ho, hr⟩ := h
  rw [← flat_reps (fun x c hx => F.M.1 hx) xs inner hr]
  exact ho
theorem Flat.make (F : Flat d enc) {e : Nat} {w : World} {base : Nat} {ok : Nat → Prop} {v : Value} {xs : List α} (h : w.ownsRow base e d.sz v xs.length (xs.flatMap enc)) (hok : ∀ k, v.ownBlock = some k → ok k) : d.R e w base ok v xs :=
  ⟨hok, _, h, flat_len F w xs, fun j p hj => F.M.2 (flat_at F w xs j p hj)⟩
/-- What a row that is read holds, cell by cell. -/
theorem Flat.read (F : Flat d enc) {w : World} {A : Option Addr} {n : Nat} {xs : List α} (h : d.C w A n xs) (h0 : 0 < n) : ∃ a, A = some a ∧ ∀ j v, (xs.flatMap enc)[j]? = some v → w.cell? (a.add j) = some v := by
  obtain ⟨a, e, hc⟩ := h.2.2 h0
  refine ⟨a, e, fun j v hj => ?_⟩
  have hl := flat_len F w xs
  have hjl : j < (xs.flatMap enc).length := (List.getElem?_eq_some_iff.1 hj).1
  have hsz : 0 < d.sz := by
    rcases Nat.eq_zero_or_pos d.sz with h | h
    · rw [h] at hl
      omega
    · exact h
  have hq : j / d.sz < xs.length := by
    rw [Nat.div_lt_iff_lt_mul hsz]
    omega
  obtain ⟨c, _, hr, hcell⟩ := hc (j / d.sz) _ (List.getElem?_eq_getElem hq)
  have he := F.K.1 hr
  have hat := flat_at F w xs (j / d.sz) _ (List.getElem?_eq_getElem hq)
  have := hcell (j % d.sz) v (by
    rw [he, ← hat, List.getElem?_take, if_pos (Nat.mod_lt _ hsz), List.getElem?_drop, Nat.div_add_mod']
    exact hj)
  rwa [Nat.div_add_mod'] at this
end

/-! ### a row of the call's own grows -/
theorem ownsRow_setRow {w : World} {base : Nat} {e : TypeId} {size g n cap : Nat} {cur : Array Value} (hb : base ≤ g) (hg : w.heap[g]? = some (.cells cur e (0, 0))) (hn : n ≤ cap) (hm : cap ≤ maxLen) (cur' : Array Value) (hc : cur'.size = cap * size) (xs : List Value)
    (hx : xs.length = n * size) (ht : cur'.toList.take (n * size) = xs) : (w.setRow g cur').ownsRow base e size (.slice (some ⟨g, 0, none⟩) n cap) n xs :=
  ⟨hx, .inr ⟨g, cap, cur', rfl, hb, setRow_heap w g cur cur' e (0, 0) hg, hn, hm, hc, ht⟩⟩
theorem append_own (w : World) (base : Nat) (t tx ty e e' : TypeId) (i : TypeInfo) (z : Value) (size bytes : Nat) (ht : P.underlying t = some (.slice e)) (htx : P.underlying tx = some (.slice e')) (hi : P.info? e = some i) (hz : i.zero = some z)
    (hsize : i.size = size) (hby : i.bytes = bytes) (hzs : z.cells.size = size) (hb0 : 0 < bytes)
    (v : Value) (n : Nat) (xs : List Value) (hown : w.ownsRow base e size v n xs)
    (a : Addr) (m c : Nat) (hm0 : 0 < m) (news : List Value) (hl : news.length = m * size) (hnews : ∀ j u, news[j]? = some u → w.cell? (a.add j) = some u) (h1 : ∀ u ∈ news, u.oneCell' = true)
    (hbytes : (n + m) * bytes ≤ 140737488355328) (hbase : base ≤ w.heap.size) :
    ∃ v' w', (Builtin.append_ #[t, tx] ty #[v, .slice (some a) m c]).run P w = .ok v' w' ∧ w'.ownsRow base e size v' (n + m) (xs ++ news) ∧ w.grownBy w' v.ownBlock ∧
      (v'.ownBlock = v.ownBlock ∨ v'.ownBlock = some w.heap.size) := by
  subst hsize
  subst hby
  have hle : n + m ≤ 140737488355328 := Nat.le_trans (Nat.le_mul_of_pos_right _ hb0) hbytes
  have hlen : (xs ++ news).length = (n + m) * i.size := by rw [List.length_append, hown.1, hl, Nat.add_mul]
  have hsrc : Src P i.size tx (.slice (some a) m c) m news w := Src.ofSlice w htx a m c news hl hnews h1
  have grown : ∀ (base' : Option Addr) (old : Nat), old < n + m → (Builtin.firstCells i.size n (.slice base' n old)).run P w.drew = .ok xs.toArray w.drew → ∀ (row : Option Nat),
      ∃ v' w', (Builtin.append_ #[t, tx] ty #[.slice base' n old, .slice (some a) m c]).run P w = .ok v' w' ∧ w'.ownsRow base e i.size v' (n + m) (xs ++ news) ∧ w.grownBy w' row ∧ v'.ownBlock = some w.heap.size := by
    intro base' old ho hold row
    have hr := run_append_grow_src (P := P) w t tx ty e i z ht hi hz base' n old xs hold _ m news hsrc ho (by omega) (growslice_fits ho hbytes)
    refine ⟨_, _, hr, ⟨hlen, .inr ⟨w.heap.size, _, _, rfl, hbase, heap_alloc_new w.drew _, grownCap_ge w _ _ _, grownCap_le_maxLen w _ _ e (by simp only [maxLen]; omega), ?_, ?_⟩⟩, ⟨rfl, rfl, rfl, by simp, fun k hk _ => heap_alloc_old w.drew _ hk⟩, rfl⟩
    · have := grownCap_ge w (n + m) old e
      simp only [Array.size_append, List.size_toArray, size_zeroCells, hzs, hlen, ← Nat.add_mul]
      congr 1
      omega
    · simp only [Array.toList_append]
      rw [← hlen]
      exact List.take_left
  rcases hown.2 with ⟨rfl, rfl⟩ | ⟨g, cap, cur, rfl, hb, hg, hnc, hcm, hcs, htk⟩
  · have hx : xs = [] := List.eq_nil_of_length_eq_zero (by rw [hown.1]; omega)
    subst hx
    obtain ⟨v', w', r1, r2, r3, r4⟩ := grown none 0 (by omega) (by simp [Builtin.firstCells]) (Value.ownBlock (.slice none 0 0))
    exact ⟨v', w', r1, r2, r3, .inr r4⟩
  · by_cases hroom : n + m ≤ cap
    · have hfit : n * i.size + news.length ≤ cur.size := by
        rw [hl, hcs, ← Nat.add_mul]
        exact Nat.mul_le_mul_right _ hroom
      have hst := run_storeCells_at P g (n * i.size) e news 0 cur w hg (by omega) h1
      simp only [Nat.add_zero] at hst
      have hr : (Builtin.append_ #[t, tx] ty #[.slice (some ⟨g, 0, none⟩) n cap, .slice (some a) m c]).run P w = .ok (.slice (some ⟨g, 0, none⟩) (n + m) cap) (w.setRow g (cur.toList.take (n * i.size) ++ news ++ cur.toList.drop (n * i.size + news.length)).toArray) := by
        simp [Builtin.append_, run_underlying ht, run_underlying htx, sizeOf, typeInfo, hi, hsrc.len, hroom, hsrc.cells, Addr.add_lit, hst]
      refine ⟨_, _, hr, ownsRow_setRow hb hg hroom hcm _ ?_ _ hlen ?_, setRow_grown _ _ _, .inl rfl⟩
      · simp only [List.size_toArray, List.length_append, List.length_take, List.length_drop, Array.length_toList]
        omega
      · rw [htk, List.append_assoc]
        show List.take _ (xs ++ (news ++ _)) = _
        rw [← List.append_assoc, ← hlen]
        exact List.take_left
    · have hold : (Builtin.firstCells i.size n (.slice (some ⟨g, 0, none⟩) n cap)).run P w.drew = .ok xs.toArray w.drew :=
        run_firstCells_some w.drew i.size n ⟨g, 0, none⟩ n cap xs hown.1 (fun j u hj => hown.cells rfl j u hj)
      obtain ⟨v', w', r1, r2, r3, r4⟩ := grown (some ⟨g, 0, none⟩) cap (by omega) hold (Value.ownBlock (.slice (some ⟨g, 0, none⟩) n cap))
      exact ⟨v', w', r1, r2, r3, .inr r4⟩
theorem wpList_run_append {ops : Array Oper} {rest : List Oper} {o : Oper} {a : Act} {w : World} {Q : Exit → Act → World → Prop} (hgd : o.guard = none) (s x : Operand) (t tx : TypeId)
    (ho : o.op = .call { callee := .builtin .append, args := #[s, x], argTypes := #[t, tx] }) (v u : Value) (hs : a.eval s = v) (hx : a.eval x = u) {v' : Value} {w' : World}
    (hr : (Builtin.append_ #[t, tx] o.type #[v, u]).run P w = .ok v' w') (h : wpList P ops Q rest (a.put o.dst v') w') : wpList P ops Q (o :: rest) a w := by
  refine wpList_plain hgd fun K hK => ?_
  unfold Oper.wp execOp
  simp only [ho, resolve, invoke, builtin, Sem.run_bind, Sem.run_pure, Result.andThen_ok, List.map_toArray, List.map_cons, List.map_nil, hs, hx, hr]
  exact hK _ _ h

/-- A struct is stored into a row: its cells. -/
theorem storeAt_run (w : World) (g o : Nat) (cur : Array Value) (e : TypeId) (hg : w.heap[g]? = some (.cells cur e (0, 0))) (ty : TypeId) (cells : Array Value) (hi : (P.info? ty).map (·.size) = some cells.size) (hfit : o + cells.size ≤ cur.size) (h1 : ∀ v ∈ cells.toList, v.oneCell' = true) :
    (Instr.storeAt ty (.pointer (some ⟨g, o, none⟩)) (.agg cells)).run P w = .ok () (w.setRow g (cur.toList.take o ++ cells.toList ++ cur.toList.drop (o + cells.size)).toArray) := by
  have hst := run_storeCells_at P g o e cells.toList 0 cur w hg (by simpa using hfit) h1
  simp only [Nat.add_zero, Array.length_toList] at hst
  cases hq : P.info? ty with
  | none => simp [hq] at hi
  | some i =>
    have hs : i.size = cells.size := by simpa [hq] using hi
    simp [Instr.storeAt, Instr.sureAddr, storeVar, sizeOf, typeInfo, hq, hs, Value.cells, hst]
theorem wpList_store {ops : Array Oper} {rest : List Oper} {o : Oper} {a : Act} {w : World} {Q : Exit → Act → World → Prop} (hgd : o.guard = none) {ty : TypeId} {x y : Operand} (ho : o.op = .store ty x y) (hN : o.dst = none) {v u : Value} (hx : a.eval x = v) (hy : a.eval y = u) {w1 : World}
    (hr : (Instr.storeAt ty v u).run P w = .ok () w1) (h : wpList P ops Q rest a w1) : wpList P ops Q (o :: rest) a w := by
  refine wpList_plain hgd fun K hK => ?_
  unfold Oper.wp execOp
  simp only [ho, hx, hy, Sem.run_bind, Sem.run_pure, Result.andThen_ok, hr]
  show K (a.put o.dst undef) w1
  rw [hN]
  exact hK _ _ h
/-- One element's cells are written anew. -/
theorem set_cells {α : Type} {d : Kd α} {enc : α → List Value} (F : Flat d enc) (w : World) (xs : List α) (q : Nat) (x : α) (hq : q < xs.length) (cur : List Value) (h : cur.take (xs.length * d.sz) = xs.flatMap enc) :
    (cur.take (q * d.sz) ++ enc x ++ cur.drop (q * d.sz + (enc x).length)).take (xs.length * d.sz) = (xs.set q x).flatMap enc := by
  have hx := F.len w x
  have hl := flat_len F w xs
  have hle : (q + 1) * d.sz ≤ xs.length * d.sz := Nat.mul_le_mul_right _ hq
  have e1 : xs.set q x = xs.take q ++ x :: xs.drop (q + 1) := List.set_eq_take_append_cons_drop .. |>.trans (if_pos hq)
  have htq : (xs.take q).flatMap enc = cur.take (q * d.sz) := by
    have h1 : ((xs.take q).flatMap enc).length = q * d.sz := by rw [flat_len F w, List.length_take, Nat.min_eq_left (by omega)]
    have h2 : xs.flatMap enc = (xs.take q).flatMap enc ++ (xs.drop q).flatMap enc := by rw [← List.flatMap_append, List.take_append_drop]
    have h3 : (xs.flatMap enc).take (q * d.sz) = (xs.take q).flatMap enc := by rw [h2, ← h1, List.take_left]
    rw [← h3, ← h, List.take_take, Nat.min_eq_left]
    rw [Nat.add_mul] at hle
    omega
  have hdq : (xs.drop (q + 1)).flatMap enc = (cur.drop ((q + 1) * d.sz)).take ((xs.length - (q + 1)) * d.sz) := by
    have h1 : ((xs.take (q + 1)).flatMap enc).length = (q + 1) * d.sz := by rw [flat_len F w, List.length_take, Nat.min_eq_left (by omega)]
    have h2 : xs.flatMap enc = (xs.take (q + 1)).flatMap enc ++ (xs.drop (q + 1)).flatMap enc := by rw [← List.flatMap_append, List.take_append_drop]
    have h3 : (xs.flatMap enc).drop ((q + 1) * d.sz) = (xs.drop (q + 1)).flatMap enc := by rw [h2, ← h1, List.drop_left]
    rw [← h3, ← h, List.drop_take, Nat.sub_mul]
  have hcl : xs.length * d.sz ≤ cur.length := by
    have := congrArg List.length h
    rw [List.length_take, hl] at this
    omega
  rw [e1, List.flatMap_append, List.flatMap_cons, htq, hdq, hx, ← List.append_assoc]
  have l1 : (cur.take (q * d.sz) ++ enc x).length = (q + 1) * d.sz := by
    rw [List.length_append, List.length_take, hx, Nat.add_mul, Nat.one_mul, Nat.min_eq_left]
    rw [Nat.add_mul] at hle
    omega
  have l2 : xs.length * d.sz = (cur.take (q * d.sz) ++ enc x).length + (xs.length - (q + 1)) * d.sz := by
    rw [l1, Nat.sub_mul]
    omega
  rw [l2, List.take_length_add_append, show q * d.sz + d.sz = (q + 1) * d.sz by rw [Nat.add_mul]; omega]
/-- append(v, ys...), the two slices' types being unlike by name, elements flat. -/
theorem R_append_flat {α : Type} (d : Kd α) {enc : α → List Value} (F : Flat d enc) {ops : Array Oper} {rest : List Oper} {o : Oper} {a : Act} {w0 W : World} {Q : Exit → Act → World → Prop} (base : Nat) (hgd : o.guard = none) (s x : Operand) (t tx e e' : TypeId) (z : Value) (bytes : Nat)
    (ho : o.op = .call { callee := .builtin .append, args := #[s, x], argTypes := #[t, tx] })
    (ht : P.underlying t = some (.slice e)) (htx : P.underlying tx = some (.slice e')) (hinfo : (P.info? e).map (fun i => (i.zero, i.size, i.bytes)) = some (some z, d.sz, bytes)) (hz : z.cells.size = d.sz) (hb0 : 0 < bytes)
    (v : Value) (xs ys : List α) (A : Option Addr) (m c : Nat) (ok : Nat → Prop) (hs : a.eval s = v) (hx : a.eval x = .slice A m c)
    (HO : d.R e W base ok v xs) (HR : d.C W A m ys) (hfresh : ∀ k, W.heap.size ≤ k → ok k)
    (HB : Below base w0 W) (hbase : base ≤ W.heap.size) (hl : (xs.length + m) * bytes ≤ 140737488355328)
    (h : ∀ v1 w1, d.R e w1 base ok v1 (xs ++ ys) → Below base w0 w1 → W.grownBy w1 v.ownBlock → (v1.ownBlock = v.ownBlock ∨ ∃ b, v1.ownBlock = some b ∧ W.heap.size ≤ b) → wpList P ops Q rest (a.put o.dst v1) w1) :
    wpList P ops Q (o :: rest) a W := by
  obtain ⟨i0, hi, hzz⟩ := Option.map_eq_some_iff.1 hinfo
  simp only [Prod.mk.injEq] at hzz
  obtain ⟨hz0, hz1, hz2⟩ := hzz
  have hm : ys.length = m := HR.1
  have hown := F.own HO
  rcases Nat.eq_zero_or_pos m with hm0 | hm0
  · subst hm0
    obtain rfl : ys = [] := List.eq_nil_of_length_eq_zero hm
    have hr : (Builtin.append_ #[t, tx] o.type #[v, .slice A 0 c]).run P W = .ok v W := by
      have hld : ∀ (q : Addr), (loadCells q 0).run P W = .ok #[] W := fun q => by simpa using run_loadCells_list (P := P) W q [] (by simp)
      rcases hown.2 with ⟨rfl, hn⟩ | ⟨g, cap, cur, rfl, _, _, hnc, _⟩
      · cases A <;> simp [Builtin.append_, run_underlying ht, run_underlying htx, sizeOf, typeInfo, hi, Builtin.lenOf, Builtin.firstCells, hld]
      · cases A <;> simp [Builtin.append_, run_underlying ht, run_underlying htx, sizeOf, typeInfo, hi, Builtin.lenOf, Builtin.firstCells, hnc, storeCells, hld]
    refine wpList_run_append hgd s x t tx ho v _ hs hx hr ?_
    exact h v W (by rw [List.append_nil]; exact HO) HB (World.grownBy.refl W _) (.inl rfl)
  · obtain ⟨ad, rfl, hcell⟩ := F.read HR hm0
    obtain ⟨v', w', hr, q1, q2, q3⟩ := append_own (P := P) W base t tx o.type e e' i0 z d.sz bytes ht htx hi hz0 hz1 hz2 hz hb0 v xs.length (xs.flatMap enc) hown ad m c hm0 (ys.flatMap enc) (by rw [flat_len F W, hm]) hcell (flat_one F W ys) hl hbase
    refine wpList_run_append hgd s x t tx ho v _ hs hx hr ?_
    have hok : ∀ k, v'.ownBlock = some k → ok k := by
      intro k hk
      rcases q3 with e1 | e1
      · exact HO.1 k (by rw [← e1]; exact hk)
      · rw [e1] at hk
        injection hk with hk
        exact hfresh k (by omega)
    refine h v' w' (F.make ?_ hok) (HB.grown q2 hbase (fun k hk => (hown.lt k hk).1)) q2 (q3.imp id (fun e1 => ⟨_, e1, Nat.le_refl _⟩))
    rw [List.length_append, hm, List.flatMap_append]
    exact q1
/-- A row of the call's own, and a row behind it: what the builtin does. -/
theorem R_append_run {α : Type} (d : Kd α) {enc : α → List Value} (F : Flat d enc) {w0 W : World} (base : Nat) (t tx ty e e' : TypeId) (z : Value) (bytes : Nat)
    (ht : P.underlying t = some (.slice e)) (htx : P.underlying tx = some (.slice e')) (hinfo : (P.info? e).map (fun i => (i.zero, i.size, i.bytes)) = some (some z, d.sz, bytes)) (hz : z.cells.size = d.sz) (hb0 : 0 < bytes)
    (v : Value) (xs ys : List α) (A : Option Addr) (m c : Nat) (ok : Nat → Prop)
    (HO : d.R e W base ok v xs) (HR : d.C W A m ys) (hfresh : ∀ k, W.heap.size ≤ k → ok k)
    (HB : Below base w0 W) (hbase : base ≤ W.heap.size) (hl : (xs.length + m) * bytes ≤ 140737488355328) :
    ∃ v1 w1, (Builtin.append_ #[t, tx] ty #[v, .slice A m c]).run P W = .ok v1 w1 ∧ d.R e w1 base ok v1 (xs ++ ys) ∧ Below base w0 w1 ∧ W.grownBy w1 v.ownBlock ∧ (v1.ownBlock = v.ownBlock ∨ ∃ b, v1.ownBlock = some b ∧ W.heap.size ≤ b) := by
  obtain ⟨i0, hi, hzz⟩ := Option.map_eq_some_iff.1 hinfo
  simp only [Prod.mk.injEq] at hzz
  obtain ⟨hz0, hz1, hz2⟩ := hzz
  have hm : ys.length = m := HR.1
  have hown := F.own HO
  rcases Nat.eq_zero_or_pos m with hm0 | hm0
  · subst hm0
    obtain rfl : ys = [] := List.eq_nil_of_length_eq_zero hm
    have hr : (Builtin.append_ #[t, tx] ty #[v, .slice A 0 c]).run P W = .ok v W := by
      have hld : ∀ (q : Addr), (loadCells q 0).run P W = .ok #[] W := fun q => by simpa using run_loadCells_list (P := P) W q [] (by simp)
      rcases hown.2 with ⟨rfl, hn⟩ | ⟨g, cap, cur, rfl, _, _, hnc, _⟩
      · cases A <;> simp [Builtin.append_, run_underlying ht, run_underlying htx, sizeOf, typeInfo, hi, Builtin.lenOf, Builtin.firstCells, hld]
      · cases A <;> simp [Builtin.append_, run_underlying ht, run_underlying htx, sizeOf, typeInfo, hi, Builtin.lenOf, Builtin.firstCells, hnc, storeCells, hld]
    exact ⟨v, W, hr, by rw [List.append_nil]; exact HO, HB, World.grownBy.refl W _, .inl rfl⟩
  · obtain ⟨ad, rfl, hcell⟩ := F.read HR hm0
    obtain ⟨v', w', hr, q1, q2, q3⟩ := append_own (P := P) W base t tx ty e e' i0 z d.sz bytes ht htx hi hz0 hz1 hz2 hz hb0 v xs.length (xs.flatMap enc) hown ad m c hm0 (ys.flatMap enc) (by rw [flat_len F W, hm]) hcell (flat_one F W ys) hl hbase
    have hok : ∀ k, v'.ownBlock = some k → ok k := by
      intro k hk
      rcases q3 with e1 | e1
      · exact HO.1 k (by rw [← e1]; exact hk)
      · rw [e1] at hk
        injection hk with hk
        exact hfresh k (by omega)
    refine ⟨v', w', hr, F.make ?_ hok, HB.grown q2 hbase (fun k hk => (hown.lt k hk).1), q2, q3.imp id (fun e1 => ⟨_, e1, Nat.le_refl _⟩)⟩
    rw [List.length_append, hm, List.flatMap_append]
    exact q1
theorem step_run_append {ops : Array Oper} {o : Oper} {a : Act} {w : World} {K : Act → World → Prop} {Q : Exit → Act → World → Prop} {E : Prop} (hg : o.guard = none) (s x : Operand) (t tx : TypeId)
    (ho : o.op = .call { callee := .builtin .append, args := #[s, x], argTypes := #[t, tx] }) (v u : Value) (hs : a.eval s = v) (hx : a.eval x = u) {v' : Value} {w' : World}
    (hr : (Builtin.append_ #[t, tx] o.type #[v, u]).run P w = .ok v' w') (h : K (a.put o.dst v') w') : if Region.wanted o (yielded ops a.tmps) = true then Oper.wp P o a w K Q else E := by
  have hw : Region.wanted o (yielded ops a.tmps) = true := by simp [Region.wanted, hg]
  rw [if_pos hw]
  unfold Oper.wp execOp
  simp only [ho, resolve, invoke, builtin, Sem.run_bind, Sem.run_pure, Result.andThen_ok, List.map_toArray, List.map_cons, List.map_nil, hs, hx, hr]
  exact h
/-- The append of a row of the call's own and a row behind it, at a step of a region that draws its order. -/
theorem step_R_append {α : Type} (d : Kd α) {enc : α → List Value} (F : Flat d enc) {ops : Array Oper} {o : Oper} {a : Act} {w0 W : World} {K : Act → World → Prop} {Q : Exit → Act → World → Prop} {E : Prop} (base : Nat) (hgd : o.guard = none) (s x : Operand) (t tx e e' : TypeId) (z : Value) (bytes : Nat)
    (ho : o.op = .call { callee := .builtin .append, args := #[s, x], argTypes := #[t, tx] })
    (ht : P.underlying t = some (.slice e)) (htx : P.underlying tx = some (.slice e')) (hinfo : (P.info? e).map (fun i => (i.zero, i.size, i.bytes)) = some (some z, d.sz, bytes)) (hz : z.cells.size = d.sz) (hb0 : 0 < bytes)
    (v : Value) (xs ys : List α) (A : Option Addr) (m c : Nat) (ok : Nat → Prop) (hs : a.eval s = v) (hx : a.eval x = .slice A m c)
    (HO : d.R e W base ok v xs) (HR : d.C W A m ys) (hfresh : ∀ k, W.heap.size ≤ k → ok k)
    (HB : Below base w0 W) (hbase : base ≤ W.heap.size) (hl : (xs.length + m) * bytes ≤ 140737488355328)
    (h : ∀ v1 w1, d.R e w1 base ok v1 (xs ++ ys) → Below base w0 w1 → W.grownBy w1 v.ownBlock → (v1.ownBlock = v.ownBlock ∨ ∃ b, v1.ownBlock = some b ∧ W.heap.size ≤ b) → K (a.put o.dst v1) w1) :
    if Region.wanted o (yielded ops a.tmps) = true then Oper.wp P o a W K Q else E := by
  obtain ⟨v1, w1, hr, q1, q2, q3, q4⟩ := R_append_run (P := P) d F (w0 := w0) base t tx o.type e e' z bytes ht htx hinfo hz hb0 v xs ys A m c ok HO HR hfresh HB hbase hl
  exact step_run_append hgd s x t tx ho v _ hs hx hr (h v1 w1 q1 q2 q3 q4)
theorem flatInt (k : IntKind) : Flat (Kd.int k) (fun x => [.int k x]) := ⟨Iff.rfl, Iff.rfl⟩
theorem flatString : Flat Kd.string (fun x => [.string x]) := ⟨Iff.rfl, Iff.rfl⟩
theorem flatBool : Flat Kd.bool (fun x => [.bool x]) := ⟨Iff.rfl, Iff.rfl⟩
/-! ### clearing numbers -/
theorem clear_run (w : World) (t e ty : TypeId) (z : Value) (ht : P.underlying t = some (.slice e)) (hv : ∀ w, (zeroValue e).run P w = .ok z w) (hz : z.cells = #[z]) (h1 : z.oneCell' = true) (g o n c : Nat) (cur : Array Value) (e' : TypeId) (hg : w.heap[g]? = some (.cells cur e' (0, 0))) (hn : 0 < n) (hfit : o + n ≤ cur.size) :
    (Builtin.clear_ #[t] ty #[.slice (some ⟨g, o, none⟩) n c]).run P w = .ok (.tuple #[]) (w.setRow g (cur.toList.take o ++ List.replicate n z ++ cur.toList.drop (o + n)).toArray) := by
  have hzc : (Builtin.zeroCells z.cells n).toList = List.replicate n z := by
    rw [hz]
    simp [Builtin.zeroCells]
    apply List.ext_getElem
    · simp
    · intro i h1 h2
      simp [Nat.mod_one]
  have hst := run_storeCells_at P g o e' (List.replicate n z) 0 cur w hg (by simpa using hfit) (by intro v hv'; rw [List.eq_of_mem_replicate hv']; exact h1)
  simp only [Nat.add_zero, List.length_replicate] at hst
  obtain ⟨m, rfl⟩ : ∃ m, n = m + 1 := ⟨n - 1, by omega⟩
  simp [Builtin.clear_, run_underlying ht, hv, hzc, hst]
theorem wpList_clear (w : World) {ops : Array Oper} {rest : List Oper} {o : Oper} {a : Act} {Q : Exit → Act → World → Prop} (hgd : o.guard = none) (d : Operand) (t : TypeId)
    (ho : o.op = .call { callee := .builtin .clear, args := #[d], argTypes := #[t] }) (v : Value) (hd : a.eval d = v) {v' : Value} {w' : World}
    (hr : (Builtin.clear_ #[t] o.type #[v]).run P w = .ok v' w') (h : wpList P ops Q rest (a.put o.dst v') w') : wpList P ops Q (o :: rest) a w := by
  refine wpList_plain hgd fun K hK => ?_
  unfold Oper.wp execOp
  simp only [ho, resolve, invoke, builtin, Sem.run_bind, Sem.run_pure, Result.andThen_ok, List.map_toArray, List.map_cons, List.map_nil, hd, hr]
  exact hK _ _ h
end Go.Proofs.YtddaogebacigbaaGreatDoor.XMem
