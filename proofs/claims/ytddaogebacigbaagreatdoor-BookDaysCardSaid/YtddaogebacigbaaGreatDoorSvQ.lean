/- Symbolic runs of functions by the evaluator: the rules (SvD, SvE, SvF, SvG). Conditions: none. -/
import Derived.Test.YtddaogebacigbaaGreatDoorSvP
import Derived.Test.YtddaogebacigbaaGreatDoorRvQ
section
set_option linter.unusedVariables false
namespace Go.Proofs.YtddaogebacigbaaGreatDoor.RV
variable {cfg : Cfg} {cur : FuncId} {sz : Nat} {L : Fr} {M : Mem} {ops : Array Oper} {n i : Nat} {os : List Oper} {Q : St → Prop} {R : Ex → St → Prop} {ty : TypeId} {ps : String} {af : Array Edge}

/-! ### Struct and slice literals -/
def evpl (cfg : Cfg) (L : Fr) : List (Nat × Operand) → Option (List (Nat × PV))
  | [] => some []
  | (i, x) :: xs => match evl cfg L x with
    | some p => match evpl cfg L xs with | some ps => some ((i, p) :: ps) | none => none
    | none => none
theorem evpl_ok {env : Env} (h : Cv env L) : ∀ {xs : List (Nat × Operand)} {ps : List (Nat × PV)}, evpl cfg L xs = some ps → evParts cfg env xs = some ps
  | [], ps, e => e
  | (i, x) :: xs, ps, e => by
    unfold evpl at e
    unfold evParts
    split at e
    · rename_i p hp
      rw [evl_ok h hp]
      split at e
      · rename_i q hq
        dsimp only
        rw [evpl_ok h hq]
        exact e
      · cases e
    · cases e
def mkAgg (P : Program) (t : TypeId) (ps : List (Nat × PV)) : Option (List PV) :=
  match zeroO P t, P.underlying t with
  | some z, some (.struct fields) =>
    match sizesOk P fields.toList with
    | true => fillA (placeS P fields) z.cells ps
    | false => none
  | some z, some (.array _ elem) =>
    match szO P elem with
    | some size => fillA (fun i => some (i * size, size)) z.cells ps
    | none => none
  | _, _ => none
theorem Rs.build {d : Tmp} {t : TypeId} {parts : Array (Nat × Operand)} {qs : List (Nat × PV)} {l : List PV} (hlt : Nat.blt d sz = true) (hx : evpl cfg L parts.toList = some qs) (hl : mkAgg cfg.P t qs = some l) (k : Rs cfg cur ops n sz os (i + 1) ((d, .agg l) :: L) M Q) :
    Rs cfg cur ops n sz (⟨some d, .build t parts, ty, ps, af, none⟩ :: os) i L M Q := by
  refine Rs.pure rfl rfl hlt rfl rfl (fun env hE => ?_) k
  unfold aopPure buildA
  dsimp only
  rw [evpl_ok hE hx]
  unfold mkAgg at hl
  split at hl
  · rename_i z fields hz hu
    rw [hz, hu]
    dsimp only
    split at hl
    · rename_i hs; rw [hs]; dsimp only; rw [hl]; rfl
    · cases hl
  · rename_i z m elem hz hu
    rw [hz, hu]
    dsimp only
    split at hl
    · rename_i s hs; rw [hs]; dsimp only; rw [hl]; rfl
    · cases hl
  · cases hl
def snds : List (Nat × PV) → List PV
  | [] => []
  | (_, p) :: r => p :: snds r
theorem snds_eq : ∀ qs : List (Nat × PV), snds qs = qs.map (·.2)
  | [] => rfl
  | (_, p) :: r => by rw [snds, snds_eq r]; rfl
def mkSl (P : Program) (t : TypeId) (len : Nat) (qs : List (Nat × PV)) : Option (Nat × List PV) :=
  match P.underlying t with
  | some (.slice elem) =>
    match szO P elem, zeroO P elem with
    | some s, some z =>
      if qs.map (·.1) = List.range len then
        (if sizesAre s (snds qs) ∧ z.cells.length = s ∧ 0 < s ∧ len * s ≤ 2 ^ 20 then some (s, snds qs) else none)
      else none
    | _, _ => none
  | _ => none
theorem mkSl_ok {env : Env} {t : TypeId} {len : Nat} {parts : List (Nat × Operand)} {qs : List (Nat × PV)} {r : Nat × List PV} (h : evParts cfg env parts = some qs) (e : mkSl cfg.P t len qs = some r) : buildSliceA cfg env t len parts = some r := by
  unfold mkSl at e
  unfold buildSliceA
  rw [h]
  split at e
  · rename_i elem hu
    rw [hu]
    dsimp only
    split at e
    · rename_i s z hs hz
      rw [hs, hz]
      dsimp only
      unfold partsInOrder
      split at e
      · rename_i hr
        rw [if_pos hr]
        dsimp only
        rw [snds_eq] at e
        exact e
      · cases e
    · cases e
  · cases e
theorem Rs.buildSlice {d : Tmp} {t : TypeId} {len s : Nat} {parts : Array (Nat × Operand)} {qs : List (Nat × PV)} {l : List PV} (hlt : Nat.blt d sz = true) (ho : cfg.own cur d = false) (hx : evpl cfg L parts.toList = some qs) (hl : mkSl cfg.P t len qs = some (s, l)) (hd : deepL l = true)
    (k : Rs cfg cur ops n sz os (i + 1) ((d, .dsl s l (some len)) :: L) M Q) : Rs cfg cur ops n sz (⟨some d, .buildSlice t len parts, ty, ps, af, none⟩ :: os) i L M Q := by
  refine Rs.pure rfl rfl hlt (by simp [cls, ownDst, ho]) rfl (fun env hE => ?_) k
  unfold aopPure
  dsimp only
  rw [mkSl_ok (evpl_ok hE hx) hl]
  dsimp only
  rw [hd, if_pos rfl]
/-- A slice of a slice that stays. -/
def sliceD (s : Nat) (l0 : List PV) (cap : Option Nat) (lo hi : Option Nat) : Option PV :=
  let l := lo.getD 0
  let h := hi.getD l0.length
  if l ≤ h ∧ h ≤ l0.length then some (.dsl s ((l0.drop l).take (h - l)) none) else none
def optl (cfg : Cfg) (L : Fr) : Option Operand → Option (Option Nat)
  | none => some none
  | some x => match natLit (evl cfg L x) with | some n => some (some n) | none => none
theorem optl_ok {env : Env} (h : Cv env L) {x : Option Operand} {r : Option Nat} (e : optl cfg L x = some r) : optNat cfg env x = some r := by
  cases x with
  | none => exact e
  | some x =>
    unfold optl at e
    unfold optNat
    dsimp only at e ⊢
    cases hx : evl cfg L x with
    | none => rw [hx] at e; cases e
    | some p => rw [hx] at e; rw [evl_ok h hx]; exact e
theorem Rs.sliceD {d : Tmp} {t e : TypeId} {x : Operand} {lo hi : Option Operand} {lo' hi' : Option Nat} {s : Nat} {l : List PV} {c : Option Nat} (hlt : Nat.blt d sz = true) (hu : cfg.P.underlying t = some (.slice e)) (hs : szO cfg.P e = some s) (hx : evl cfg L x = some (.dsl s l c))
    (h1 : optl cfg L lo = some lo') (h2 : optl cfg L hi = some hi') (hb : lo'.getD 0 ≤ hi'.getD l.length ∧ hi'.getD l.length ≤ l.length)
    (k : Rs cfg cur ops n sz os (i + 1) ((d, .dsl s ((l.drop (lo'.getD 0)).take (hi'.getD l.length - lo'.getD 0)) none) :: L) M Q) : Rs cfg cur ops n sz (⟨some d, .slice t x lo hi none, ty, ps, af, none⟩ :: os) i L M Q := by
  refine Rs.pure rfl rfl hlt rfl rfl (fun env hE => ?_) k
  unfold aopPure sliceA
  dsimp only
  rw [evl_ok hE hx, optl_ok hE h1, optl_ok hE h2]
  dsimp only [optNat]
  rw [hu]
  dsimp only
  rw [hs, if_pos ⟨rfl, hb.1, hb.2⟩]

/-! ### The call's own memory -/
theorem Rs.new {o : Oper} {d : Tmp} {pf : Nat → PV} {ob : HObj} (hg : o.guard = none) (hd : o.dst = some d) (hlt : Nat.blt d sz = true) (hc : cls cfg cur o = .new) (hcal : callee? o.op = none)
    (h : ∀ env id, Cv env L → aopNew cfg env o id = some (pf id, ob)) (k : ∀ g, Rs cfg cur ops n sz os (i + 1) ((d, pf g) :: L) ((g, 0, ob) :: M) Q) : Rs cfg cur ops n sz (o :: os) i L M Q := by
  intro base env H m hn hm h1 h2 h3
  simp only [List.length_cons] at hn
  have hf : H.get (base + i) = none := h3 _ (by omega)
  refine Ro.step (s' := ⟨env.put d (pf (base + i)), H.put (base + i) (0, ob), m, sz⟩) ?_ (k (base + i) base _ _ m (by omega) hm (h1.put d _) (h2.new hf 0 ob) ?_)
  · have hlt : d < sz := Nat.le_of_ble_eq_true hlt
    unfold stepA effA wantA
    rw [hg]
    dsimp only
    rw [hc]
    dsimp only
    unfold newOf
    rw [hcal]
    dsimp only
    rw [h env _ h1]
    dsimp only
    rw [hf]
    dsimp only
    unfold setD
    rw [hd]
    dsimp only
    rw [if_pos hlt]
  · intro id hid
    rw [put_get, if_neg (by omega)]
    exact h3 id (by omega)
theorem Rs.alloc {d : Tmp} {t : TypeId} {z : PV} {c : Nat} (hlt : Nat.blt d sz = true) (hz : zeroO cfg.P t = some z) (hc : z.cells.length = c) (k : ∀ g, Rs cfg cur ops n sz os (i + 1) ((d, .ptr g 0 0 0) :: L) ((g, 0, .blk c [z] true) :: M) Q) :
    Rs cfg cur ops n sz (⟨some d, .alloc t, ty, ps, af, none⟩ :: os) i L M Q :=
  Rs.new (pf := fun g => .ptr g 0 0 0) rfl rfl hlt rfl rfl (fun env id hE => by unfold aopNew; dsimp only; rw [hz]; dsimp only; rw [hc]) k
theorem Rs.boxO {d : Tmp} {t : TypeId} {x : Operand} {p : PV} {c : Nat} (hlt : Nat.blt d sz = true) (ho : cfg.own cur d = true) (hx : evl cfg L x = some p) (hc : p.cells.length = c) (k : ∀ g, Rs cfg cur ops n sz os (i + 1) ((d, .ptr g 0 0 0) :: L) ((g, 0, .blk c [p] true) :: M) Q) :
    Rs cfg cur ops n sz (⟨some d, .box t x, ty, ps, af, none⟩ :: os) i L M Q :=
  Rs.new (pf := fun g => .ptr g 0 0 0) rfl rfl hlt (by simp [cls, ownDst, ho]) rfl (fun env id hE => by unfold aopNew; dsimp only; rw [evl_ok hE hx]; dsimp only; rw [hc]) k
theorem Rs.buildSliceO {d : Tmp} {t : TypeId} {len s : Nat} {parts : Array (Nat × Operand)} {qs : List (Nat × PV)} {l : List PV} (hlt : Nat.blt d sz = true) (ho : cfg.own cur d = true) (hx : evpl cfg L parts.toList = some qs) (hl : mkSl cfg.P t len qs = some (s, l))
    (k : ∀ g, Rs cfg cur ops n sz os (i + 1) ((d, .own g 0 s 0 len (some len)) :: L) ((g, 0, .blk s l true) :: M) Q) : Rs cfg cur ops n sz (⟨some d, .buildSlice t len parts, ty, ps, af, none⟩ :: os) i L M Q :=
  Rs.new (pf := fun g => .own g 0 s 0 len (some len)) rfl rfl hlt (by simp [cls, ownDst, ho]) rfl (fun env id hE => by unfold aopNew; dsimp only; rw [mkSl_ok (evpl_ok hE hx) hl]) k
/-- An operation that reads the call's own memory. -/
theorem Rs.read {o : Oper} {d : Tmp} {p : PV} (hg : o.guard = none) (hd : o.dst = some d) (hlt : Nat.blt d sz = true) (hc : cls cfg cur o = .read) (hcal : callee? o.op = none)
    (h : ∀ env H, Cv env L → CvH H M → aopRead cfg env H o = some p) (k : Rs cfg cur ops n sz os (i + 1) ((d, p) :: L) M Q) : Rs cfg cur ops n sz (o :: os) i L M Q := by
  intro base env H m hn hm h1 h2 h3
  simp only [List.length_cons] at hn
  refine Ro.step (s' := ⟨env.put d p, H, m, sz⟩) ?_ (k base _ H m (by omega) hm (h1.put d p) h2 h3.next)
  have hlt : d < sz := Nat.le_of_ble_eq_true hlt
  unfold stepA effA wantA
  rw [hg]
  dsimp only
  rw [hc]
  dsimp only
  unfold effRead
  rw [hcal]
  dsimp only
  rw [h env H h1 h2]
  dsimp only
  unfold setD
  rw [hd]
  dsimp only
  rw [if_pos hlt]
def partE (P : Program) (t : TypeId) (l : List PV) (ix off : Nat) : Option PV := match l[ix]? with | some e => partO P t e.cells off | none => none
theorem Rs.loadP {d : Tmp} {t : TypeId} {x : Operand} {id v ix off s : Nat} {l : List PV} {b : Bool} {p : PV} (j : Nat) (hlt : Nat.blt d sz = true) (hc : cls cfg cur ⟨some d, .load t x, ty, ps, af, none⟩ = .read) (hx : evl cfg L x = some (.ptr id v ix off)) (hj : M[j]? = some (id, v, .blk s l b)) (hp : partE cfg.P t l ix off = some p)
    (k : Rs cfg cur ops n sz os (i + 1) ((d, p) :: L) M Q) : Rs cfg cur ops n sz (⟨some d, .load t x, ty, ps, af, none⟩ :: os) i L M Q := by
  refine Rs.read rfl rfl hlt hc rfl (fun env H hE hH => ?_) k
  unfold aopRead
  dsimp only
  rw [evl_ok hE hx]
  dsimp only [loadA]
  rw [hH.obj hj]
  exact hp
/-- An operation that writes into the call's own memory. -/
theorem Rs.write {o : Oper} {p : PV} {M' : Mem} (hg : o.guard = none) (hlt : (match o.dst with | some d => Nat.blt d sz | none => true) = true) (hc : cls cfg cur o = .write)
    (h : ∀ env H fr, Cv env L → CvH H M → H.get fr = none → ∃ δ, aopWrite cfg env H o fr = some (p, δ) ∧ CvH (applyD H δ) M' ∧ ∀ id, id ≠ fr → H.get id = none → (applyD H δ).get id = none)
    (k : Rs cfg cur ops n sz os (i + 1) (putO o.dst p L) M' Q) : Rs cfg cur ops n sz (o :: os) i L M Q := by
  intro base env H m hn hm h1 h2 h3
  simp only [List.length_cons] at hn
  have hf : H.get (base + i) = none := h3 _ (by omega)
  obtain ⟨δ, ha, hcv, hfr⟩ := h env H (base + i) h1 h2 hf
  have he : effA cfg noX cur ops base i o env H m = some (p, applyD H δ, m) := by
    unfold effA wantA
    rw [hg]
    dsimp only
    rw [hc]
    dsimp only
    unfold effWrite
    rw [hf]
    dsimp only
    rw [ha]
  have hfre : Fre (applyD H δ) (base + (i + 1)) (base + n) m := fun id hid => hfr id (by omega) (h3 id (by omega))
  cases hd : o.dst with
  | none =>
    rw [hd] at k
    refine Ro.step (s' := ⟨env, applyD H δ, m, sz⟩) ?_ (k base _ _ m (by omega) hm h1 hcv hfre)
    unfold stepA
    dsimp only
    rw [he]
    dsimp only
    unfold setD
    rw [hd]
  | some d =>
    rw [hd] at k hlt
    refine Ro.step (s' := ⟨env.put d p, applyD H δ, m, sz⟩) ?_ (k base _ _ m (by omega) hm (h1.put d p) hcv hfre)
    have hlt : d < sz := Nat.le_of_ble_eq_true hlt
    unfold stepA
    dsimp only
    rw [he]
    dsimp only
    unfold setD
    rw [hd]
    dsimp only
    rw [if_pos hlt]
def storeB (P : Program) (t : TypeId) (l : List PV) (ix off : Nat) (v : PV) : Option (List PV) :=
  match szO P t with
  | some n => match l[ix]? with
    | some e =>
      if v.cells.length = n ∧ off + n ≤ e.cells.length ∧ scalars v.cells then
        match e with
        | .agg es => some (l.set ix (.agg (splice es off v.cells)))
        | _ => match v with
          | .agg _ => none
          | v => if n = 1 ∧ e.cells.length = 1 then some (l.set ix v) else none
      else none
    | none => none
  | none => none
theorem storeB_ok {H : Heap} {t : TypeId} {id ver ix off s : Nat} {l l' : List PV} {v : PV} (ho : obj H id ver = some (.blk s l true)) (h : storeB cfg.P t l ix off v = some l') : storeA cfg.P H t (.ptr id ver ix off) v = some [(id, ver, .blk s l' true)] := by
  unfold storeB at h
  unfold storeA
  dsimp only
  rw [ho]
  split at h
  · rename_i n hn
    rw [hn]
    dsimp only
    split at h
    · rename_i e he
      rw [he]
      dsimp only
      split at h
      · rename_i hc
        rw [if_pos hc]
        split at h
        · cases h; rfl
        · rename_i hne
          cases e with
          | agg es => exact absurd rfl (hne es)
          | _ =>
            dsimp only
            split at h
            · cases h
            · rename_i hv
              split at h
              · rename_i h1
                cases h
                cases v with
                | agg vs => exact absurd rfl (hv vs)
                | _ => dsimp only; rw [if_pos h1]
              · cases h
      · cases h
    · cases h
  · cases h
theorem Rs.store {t : TypeId} {a x : Operand} {id v ix off s : Nat} {l l' : List PV} {p : PV} (j : Nat) (ha : evl cfg L a = some (.ptr id v ix off)) (hx : evl cfg L x = some p) (hj : M[j]? = some (id, v, .blk s l true)) (hp : storeB cfg.P t l ix off p = some l')
    (k : Rs cfg cur ops n sz os (i + 1) L (M.set j (id, v, .blk s l' true)) Q) : Rs cfg cur ops n sz (⟨none, .store t a x, ty, ps, af, none⟩ :: os) i L M Q := by
  refine Rs.write (p := undefP) rfl rfl rfl (fun env H fr hE hH hf => ⟨[(id, v, .blk s l' true)], ?_, ?_, ?_⟩) k
  · unfold aopWrite
    dsimp only
    rw [evl_ok hE ha, evl_ok hE hx]
    dsimp only
    rw [storeB_ok (hH.obj hj) hp]
  · exact hH.set hj v _
  · intro i' hi hg
    show (H.put id _).get i' = none
    rw [put_get, if_neg (fun e => ?_)]
    · exact hg
    · have := hH.2 _ _ _ (List.mem_of_getElem? hj)
      rw [← e, hg] at this
      cases this

theorem Rs.store0 {t : TypeId} {a x : Operand} {id v ix off s : Nat} {l l' : List PV} {p : PV} {M0 : Mem} (ha : evl cfg L a = some (.ptr id v ix off)) (hx : evl cfg L x = some p) (hM : M = (id, v, .blk s l true) :: M0) (hp : storeB cfg.P t l ix off p = some l')
    (k : Rs cfg cur ops n sz os (i + 1) L ((id, v, .blk s l' true) :: M0) Q) : Rs cfg cur ops n sz (⟨none, .store t a x, ty, ps, af, none⟩ :: os) i L M Q := by subst hM; exact Rs.store 0 ha hx rfl hp k
theorem Rs.store1 {t : TypeId} {a x : Operand} {id v ix off s : Nat} {l l' : List PV} {p : PV} {M0 : Mem} {m1 : Nat × Nat × HObj} (ha : evl cfg L a = some (.ptr id v ix off)) (hx : evl cfg L x = some p) (hM : M = m1 :: (id, v, .blk s l true) :: M0) (hp : storeB cfg.P t l ix off p = some l')
    (k : Rs cfg cur ops n sz os (i + 1) L (m1 :: (id, v, .blk s l' true) :: M0) Q) : Rs cfg cur ops n sz (⟨none, .store t a x, ty, ps, af, none⟩ :: os) i L M Q := by subst hM; exact Rs.store 1 ha hx rfl hp k
theorem Rs.store2 {t : TypeId} {a x : Operand} {id v ix off s : Nat} {l l' : List PV} {p : PV} {M0 : Mem} {m1 m2 : Nat × Nat × HObj} (ha : evl cfg L a = some (.ptr id v ix off)) (hx : evl cfg L x = some p) (hM : M = m1 :: m2 :: (id, v, .blk s l true) :: M0) (hp : storeB cfg.P t l ix off p = some l')
    (k : Rs cfg cur ops n sz os (i + 1) L (m1 :: m2 :: (id, v, .blk s l' true) :: M0) Q) : Rs cfg cur ops n sz (⟨none, .store t a x, ty, ps, af, none⟩ :: os) i L M Q := by subst hM; exact Rs.store 2 ha hx rfl hp k
theorem Rs.store3 {t : TypeId} {a x : Operand} {id v ix off s : Nat} {l l' : List PV} {p : PV} {M0 : Mem} {m1 m2 m3 : Nat × Nat × HObj} (ha : evl cfg L a = some (.ptr id v ix off)) (hx : evl cfg L x = some p) (hM : M = m1 :: m2 :: m3 :: (id, v, .blk s l true) :: M0) (hp : storeB cfg.P t l ix off p = some l')
    (k : Rs cfg cur ops n sz os (i + 1) L (m1 :: m2 :: m3 :: (id, v, .blk s l' true) :: M0) Q) : Rs cfg cur ops n sz (⟨none, .store t a x, ty, ps, af, none⟩ :: os) i L M Q := by subst hM; exact Rs.store 3 ha hx rfl hp k

/-! ### Slices that grow -/
def gP (s : Nat) (a : Option (Nat × Nat)) (l : List PV) : PV := match a with | none => .lit (.slice none 0 0) | some (id, v) => .own id v s 0 l.length none
def gM (s : Nat) (a : Option (Nat × Nat)) (l : List PV) : Mem := match a with | none => [] | some (id, v) => [(id, v, .blk s l true)]
theorem Rs.append {d : Tmp} {x y : Operand} {t t2 e : TypeId} {s : Nat} {a : Option (Nat × Nat)} {l xs : List PV} {c : Option Nat} {inf : TypeInfo} {z : PV} (M1 : Mem) {M0 : Mem} (hlt : Nat.blt d sz = true) (hu : cfg.P.underlying t = some (.slice e)) (hu2 : ∃ e2, cfg.P.underlying t2 = some (.slice e2)) (hi : cfg.P.info? e = some inf) (hsz : inf.size = s) (hz : zeroO cfg.P e = some z) (hzl : z.cells.length = s) (hs0 : 0 < s)
    (hx : evl cfg L x = some (gP s a l)) (hy : evl cfg L y = some (.dsl s xs c)) (hM : M = M1 ++ (gM s a l ++ M0)) (hal : a = none ↔ l = []) (h1 : sizesAre s xs = true) (h2 : scalarsE xs = true) (hb : (l.length + xs.length) * inf.bytes ≤ 2 ^ 40 ∧ l.length + xs.length ≤ 2 ^ 40)
    (k : ∀ a', (a' = none ↔ l ++ xs = []) → Rs cfg cur ops n sz os (i + 1) ((d, gP s a' (l ++ xs)) :: L) (M1 ++ (gM s a' (l ++ xs) ++ M0)) Q) : Rs cfg cur ops n sz (⟨some d, .call ⟨.builtin .append, #[x, y], #[t, t2]⟩, ty, ps, af, none⟩ :: os) i L M Q := by
  obtain ⟨e2, hu2⟩ := hu2
  have main : ∀ (env : Env) (H : Heap) (fr : Nat), Cv env L → CvH H M → H.get fr = none → ∃ a' δ, (a' = none ↔ l ++ xs = []) ∧ (a' = none ∨ a' = some (fr, 0) ∨ ∃ id v, a = some (id, v) ∧ (a' = some (id, v) ∨ a' = some (id, v + 1))) ∧ aopWrite cfg env H ⟨some d, .call ⟨.builtin .append, #[x, y], #[t, t2]⟩, ty, ps, af, none⟩ fr = some (gP s a' (l ++ xs), δ) ∧ CvH (applyD H δ) (M1 ++ (gM s a' (l ++ xs) ++ M0)) ∧ ∀ id, id ≠ fr → H.get id = none → (applyD H δ).get id = none := by
    intro env H fr hE hH hf
    have hw : ∀ r, appendA cfg.P H e fr (gP s a l) (.dsl s xs c) = some r → aopWrite cfg env H ⟨some d, .call ⟨.builtin .append, #[x, y], #[t, t2]⟩, ty, ps, af, none⟩ fr = some r := by
      intro r hr
      unfold aopWrite
      dsimp only
      rw [hu, hu2, evl_ok hE hx, evl_ok hE hy]
      exact hr
    cases a with
    | none =>
      have hl := hal.1 rfl
      subst hl
      have hM' : M = M1 ++ M0 := hM
      subst hM'
      cases xs with
      | nil => exact ⟨none, [], ⟨fun _ => rfl, fun _ => rfl⟩, .inl rfl, hw _ (by unfold appendA gP; rw [hi, hz]; simp [elemsOf, hsz, hzl, hs0, sizesAre, scalarsE]), hH, fun id _ h => h⟩
      | cons x0 xs =>
        refine ⟨some (fr, 0), [(fr, 0, .blk s (x0 :: xs) true)], ⟨fun h => (by cases h), fun h => (by simp at h)⟩, .inr (.inl rfl), hw _ ?_, (hH.new hf 0 _).perm List.perm_middle.symm, ?_⟩
        · unfold appendA gP
          rw [hi, hz]
          simp only [elemsOf, hsz, hzl, hs0, h1, h2, if_true, and_self, List.nil_append]
          simp only [List.length_nil, Nat.zero_add] at hb
          rw [if_pos hb]
        · intro id hne h
          show (H.put fr _).get id = none
          rw [put_get, if_neg hne]
          exact h
    | some iv =>
      obtain ⟨id, v⟩ := iv
      have hM' : M = M1 ++ (id, v, .blk s l true) :: M0 := hM
      have hj : M[M1.length]? = some (id, v, .blk s l true) := by rw [hM']; simp
      have ho := hH.obj hj
      cases xs with
      | nil =>
        refine ⟨some (id, v), [], ⟨fun h => (by cases h), fun h => (by rw [List.append_nil] at h; exact absurd (hal.2 h) (by simp))⟩, .inr (.inr ⟨id, v, rfl, .inl rfl⟩), hw _ ?_, ?_, fun id _ h => h⟩
        · unfold appendA gP
          rw [hi, hz]
          simp only [elemsOf, hsz, hzl, hs0, sizesAre, scalarsE, if_true, and_self, ho, Nat.zero_add, Nat.le_refl, List.append_nil, List.length_nil, Nat.add_zero]
          simp only [List.length_nil, Nat.add_zero] at hb
          rw [if_pos (by exact ⟨trivial, trivial, trivial, hb.1, hb.2⟩)]
        · rw [List.append_nil]; rw [hM'] at hH; exact hH
      | cons x0 xs =>
        refine ⟨some (id, v + 1), [(id, v + 1, .blk s (l ++ x0 :: xs) true)], ⟨fun h => (by cases h), fun h => (by simp at h)⟩, .inr (.inr ⟨id, v, rfl, .inr rfl⟩), hw _ ?_, ?_, ?_⟩
        · unfold appendA gP
          rw [hi, hz]
          simp only [elemsOf, hsz, hzl, hs0, h1, h2, if_true, and_self, ho, Nat.zero_add, Nat.le_refl, List.drop_zero, List.take_length, List.length_append]
          rw [if_pos (by exact ⟨trivial, trivial, trivial, hb.1, hb.2⟩)]
        · have := hH.set hj (v + 1) (.blk s (l ++ x0 :: xs) true)
          rw [hM'] at this
          simp only [List.set_append_right _ _ (Nat.le_refl _), Nat.sub_self, List.set_cons_zero] at this
          exact this
        · intro i' hne h
          show (H.put id _).get i' = none
          rw [put_get, if_neg (fun e => ?_)]
          · exact h
          · have := hH.2 _ _ _ (List.mem_of_getElem? hj)
            rw [← e, h] at this
            cases this
  intro base env H m hn hm e1 e2' e3
  obtain ⟨a', δ, ha', _, hw, hcv, hfr⟩ := main env H (base + i) e1 e2' (e3 _ (by simp only [List.length_cons] at hn; omega))
  simp only [List.length_cons] at hn
  have hlt' : d < sz := Nat.le_of_ble_eq_true hlt
  refine Ro.step (s' := ⟨env.put d (gP s a' (l ++ xs)), applyD H δ, m, sz⟩) ?_ (k a' ha' base _ _ m (by omega) hm (e1.put d _) hcv (fun id hid => hfr id (by omega) (e3 id (by omega))))
  unfold stepA effA wantA
  dsimp only
  rw [show cls cfg cur ⟨some d, .call ⟨.builtin .append, #[x, y], #[t, t2]⟩, ty, ps, af, none⟩ = .write from rfl]
  dsimp only
  unfold effWrite
  rw [e3 (base + i) (by omega)]
  dsimp only
  rw [hw]
  dsimp only
  unfold setD
  dsimp only
  rw [if_pos hlt']
theorem Rs.append0 {d : Tmp} {x y : Operand} {t t2 e : TypeId} (s bs : Nat) {a : Option (Nat × Nat)} {l xs : List PV} {c : Option Nat} {inf : TypeInfo} {z : PV} {M0 : Mem} (hlt : Nat.blt d sz = true) (hu : cfg.P.underlying t = some (.slice e)) (hu2 : ∃ e2, cfg.P.underlying t2 = some (.slice e2)) (hi : cfg.P.info? e = some inf) (hsz : inf.size = s) (hbs : inf.bytes = bs) (hbb : Nat.ble bs 1000000 = true) (hz : zeroO cfg.P e = some z) (hzl : z.cells.length = s) (hs0 : Nat.blt 0 s = true)
    (hx : evl cfg L x = some (gP s a l)) (hy : evl cfg L y = some (.dsl s xs c)) (hM : M = (gM s a l ++ M0)) (hal : a = none ↔ l = []) (h1 : sizesAre s xs = true) (h2 : scalarsE xs = true) (hb : l.length + xs.length ≤ 1000000)
    (k : ∀ a', (a' = none ↔ l ++ xs = []) → Rs cfg cur ops n sz os (i + 1) ((d, gP s a' (l ++ xs)) :: L) ((gM s a' (l ++ xs) ++ M0)) Q) : Rs cfg cur ops n sz (⟨some d, .call ⟨.builtin .append, #[x, y], #[t, t2]⟩, ty, ps, af, none⟩ :: os) i L M Q :=
  Rs.append [] hlt hu hu2 hi hsz hz hzl (Nat.le_of_ble_eq_true hs0) hx hy hM hal h1 h2 (by
    have h1 := Nat.le_of_ble_eq_true hbb
    rw [hbs]
    have h2 : (l.length + xs.length) * bs ≤ 1000000 * 1000000 := Nat.mul_le_mul hb h1
    constructor <;> omega) k
theorem Rs.append1 {d : Tmp} {x y : Operand} {t t2 e : TypeId} (s bs : Nat) {a : Option (Nat × Nat)} {l xs : List PV} {c : Option Nat} {inf : TypeInfo} {z : PV} {M0 : Mem} {m1 : Nat × Nat × HObj} (hlt : Nat.blt d sz = true) (hu : cfg.P.underlying t = some (.slice e)) (hu2 : ∃ e2, cfg.P.underlying t2 = some (.slice e2)) (hi : cfg.P.info? e = some inf) (hsz : inf.size = s) (hbs : inf.bytes = bs) (hbb : Nat.ble bs 1000000 = true) (hz : zeroO cfg.P e = some z) (hzl : z.cells.length = s) (hs0 : Nat.blt 0 s = true)
    (hx : evl cfg L x = some (gP s a l)) (hy : evl cfg L y = some (.dsl s xs c)) (hM : M = m1 :: (gM s a l ++ M0)) (hal : a = none ↔ l = []) (h1 : sizesAre s xs = true) (h2 : scalarsE xs = true) (hb : l.length + xs.length ≤ 1000000)
    (k : ∀ a', (a' = none ↔ l ++ xs = []) → Rs cfg cur ops n sz os (i + 1) ((d, gP s a' (l ++ xs)) :: L) (m1 :: (gM s a' (l ++ xs) ++ M0)) Q) : Rs cfg cur ops n sz (⟨some d, .call ⟨.builtin .append, #[x, y], #[t, t2]⟩, ty, ps, af, none⟩ :: os) i L M Q :=
  Rs.append [m1] hlt hu hu2 hi hsz hz hzl (Nat.le_of_ble_eq_true hs0) hx hy hM hal h1 h2 (by
    have h1 := Nat.le_of_ble_eq_true hbb
    rw [hbs]
    have h2 : (l.length + xs.length) * bs ≤ 1000000 * 1000000 := Nat.mul_le_mul hb h1
    constructor <;> omega) k
theorem Rs.append2 {d : Tmp} {x y : Operand} {t t2 e : TypeId} (s bs : Nat) {a : Option (Nat × Nat)} {l xs : List PV} {c : Option Nat} {inf : TypeInfo} {z : PV} {M0 : Mem} {m1 m2 : Nat × Nat × HObj} (hlt : Nat.blt d sz = true) (hu : cfg.P.underlying t = some (.slice e)) (hu2 : ∃ e2, cfg.P.underlying t2 = some (.slice e2)) (hi : cfg.P.info? e = some inf) (hsz : inf.size = s) (hbs : inf.bytes = bs) (hbb : Nat.ble bs 1000000 = true) (hz : zeroO cfg.P e = some z) (hzl : z.cells.length = s) (hs0 : Nat.blt 0 s = true)
    (hx : evl cfg L x = some (gP s a l)) (hy : evl cfg L y = some (.dsl s xs c)) (hM : M = m1 :: m2 :: (gM s a l ++ M0)) (hal : a = none ↔ l = []) (h1 : sizesAre s xs = true) (h2 : scalarsE xs = true) (hb : l.length + xs.length ≤ 1000000)
    (k : ∀ a', (a' = none ↔ l ++ xs = []) → Rs cfg cur ops n sz os (i + 1) ((d, gP s a' (l ++ xs)) :: L) (m1 :: m2 :: (gM s a' (l ++ xs) ++ M0)) Q) : Rs cfg cur ops n sz (⟨some d, .call ⟨.builtin .append, #[x, y], #[t, t2]⟩, ty, ps, af, none⟩ :: os) i L M Q :=
  Rs.append [m1, m2] hlt hu hu2 hi hsz hz hzl (Nat.le_of_ble_eq_true hs0) hx hy hM hal h1 h2 (by
    have h1 := Nat.le_of_ble_eq_true hbb
    rw [hbs]
    have h2 : (l.length + xs.length) * bs ≤ 1000000 * 1000000 := Nat.mul_le_mul hb h1
    constructor <;> omega) k
theorem Rs.append3 {d : Tmp} {x y : Operand} {t t2 e : TypeId} (s bs : Nat) {a : Option (Nat × Nat)} {l xs : List PV} {c : Option Nat} {inf : TypeInfo} {z : PV} {M0 : Mem} {m1 m2 m3 : Nat × Nat × HObj} (hlt : Nat.blt d sz = true) (hu : cfg.P.underlying t = some (.slice e)) (hu2 : ∃ e2, cfg.P.underlying t2 = some (.slice e2)) (hi : cfg.P.info? e = some inf) (hsz : inf.size = s) (hbs : inf.bytes = bs) (hbb : Nat.ble bs 1000000 = true) (hz : zeroO cfg.P e = some z) (hzl : z.cells.length = s) (hs0 : Nat.blt 0 s = true)
    (hx : evl cfg L x = some (gP s a l)) (hy : evl cfg L y = some (.dsl s xs c)) (hM : M = m1 :: m2 :: m3 :: (gM s a l ++ M0)) (hal : a = none ↔ l = []) (h1 : sizesAre s xs = true) (h2 : scalarsE xs = true) (hb : l.length + xs.length ≤ 1000000)
    (k : ∀ a', (a' = none ↔ l ++ xs = []) → Rs cfg cur ops n sz os (i + 1) ((d, gP s a' (l ++ xs)) :: L) (m1 :: m2 :: m3 :: (gM s a' (l ++ xs) ++ M0)) Q) : Rs cfg cur ops n sz (⟨some d, .call ⟨.builtin .append, #[x, y], #[t, t2]⟩, ty, ps, af, none⟩ :: os) i L M Q :=
  Rs.append [m1, m2, m3] hlt hu hu2 hi hsz hz hzl (Nat.le_of_ble_eq_true hs0) hx hy hM hal h1 h2 (by
    have h1 := Nat.le_of_ble_eq_true hbb
    rw [hbs]
    have h2 : (l.length + xs.length) * bs ≤ 1000000 * 1000000 := Nat.mul_le_mul hb h1
    constructor <;> omega) k
end Go.Proofs.YtddaogebacigbaaGreatDoor.RV
end
section
set_option linter.unusedVariables false
namespace Go.Proofs.YtddaogebacigbaaGreatDoor.RV
variable {cfg : Cfg} {cur : FuncId} {sz : Nat} {L : Fr} {M : Mem} {ops : Array Oper} {n i : Nat} {os : List Oper} {Q : St → Prop} {R : Ex → St → Prop} {ty : TypeId} {ps : String} {af : Array Edge}

/-! ### Making deep: what is deep stays -/
/-- Deep, by so many levels at most. -/
def flatD : Nat → PV → Bool
  | _, .lit _ | _, .dsl .. | _, .dptr .. | _, .dmap .. => true
  | 0, _ => false
  | k + 1, .agg l | k + 1, .tup l => l.all (flatD k)
  | _, _ => false
theorem deepenL_all {H : Heap} {g : PV → Bool} {d : Nat} (hg : ∀ p, g p = true → ∀ k, d < k → deepen H k p = some p) : ∀ (l : List PV) (k : Nat), l.all g = true → d + l.length < k → deepenL H k l = some l
  | [], k, _, hk => by
    cases k with
    | zero => omega
    | succ k => rfl
  | p :: l, k, h, hk => by
    simp only [List.length_cons] at hk
    rw [List.all_cons, Bool.and_eq_true] at h
    cases k with
    | zero => omega
    | succ k =>
      unfold deepenL
      dsimp only
      rw [hg p h.1 k (by omega)]
      dsimp only
      rw [deepenL_all hg l k h.2 (by omega)]
theorem deepenL_id {H : Heap} (l : List PV) (k : Nat) (h : ∀ p ∈ l, ∀ k, 1000 < k → deepen H k p = some p) (hk : 1000 + l.length < k) : deepenL H k l = some l := by
  induction l generalizing k with
  | nil =>
    cases k with
    | zero => omega
    | succ k => rfl
  | cons p l ih =>
    simp only [List.length_cons] at hk
    cases k with
    | zero => omega
    | succ k =>
      unfold deepenL
      dsimp only
      rw [h p (.head _) k (by omega)]
      dsimp only
      rw [ih k (fun q hq => h q (.tail _ hq)) (by omega)]
/-- A value of plain cells stays as it is. -/
def cellP (p : PV) : Bool := match p with | .lit _ | .dsl .. | .dptr .. | .dmap .. => true | _ => false
def plainC (l : List PV) : Bool := l.all cellP
theorem deepen_plain {H : Heap} {p : PV} (h : (match p with | .lit _ | .dsl .. | .dptr .. | .dmap .. => true | .agg l => plainC l && decide (l.length < 900) | _ => false) = true) (k : Nat) (hk : 1000 < k) : deepen H k p = some p := by
  cases k with
  | zero => omega
  | succ k =>
    cases p <;> first | rfl | skip
    all_goals first | (simp at h; done) | skip
    rename_i l
    simp only [Bool.and_eq_true, decide_eq_true_eq] at h
    unfold deepen
    dsimp only
    rw [deepenL_all (d := 0) (g := cellP) ?_ l k h.1 (by omega)]
    intro q hq j hj
    cases j with
    | zero => omega
    | succ j => cases q <;> first | rfl | cases hq
theorem deepen_g {H : Heap} {s : Nat} {a : Option (Nat × Nat)} {l : List PV} (hal : a = none → l = []) (hH : CvH H (gM s a l)) (hl : deepenL H (fuelD - 1) l = some l) :
    ∃ q, deepen H fuelD (gP s a l) = some q ∧ ((a = none ∧ q = .lit (.slice none 0 0)) ∨ (a ≠ none ∧ q = .dsl s l none)) := by
  cases a with
  | none => exact ⟨_, rfl, .inl ⟨rfl, rfl⟩⟩
  | some iv =>
    obtain ⟨id, v⟩ := iv
    refine ⟨.dsl s l none, ?_, .inr ⟨by simp, rfl⟩⟩
    have ho := CvH.obj (k := 0) hH rfl
    have hf : fuelD = (fuelD - 1) + 1 := by decide
    rw [hf]
    unfold deepen gP
    dsimp only
    rw [ho]
    dsimp only
    rw [if_pos ⟨rfl, by omega⟩, List.drop_zero, List.take_length, hl]

/-! ### Calls -/
theorem Rs.callX {o : Oper} {d : Tmp} {P : PV → Prop} (hg : o.guard = none) (hd : o.dst = some d) (hlt : Nat.blt d sz = true)
    (h : ∀ base env H m, Cv env L → CvH H M → ∃ k p, effA cfg (exec cfg k) cur ops base i o env H m = some (p, H, m) ∧ P p)
    (k : ∀ p, P p → Rs cfg cur ops n sz os (i + 1) ((d, p) :: L) M Q) : Rs cfg cur ops n sz (o :: os) i L M Q := by
  intro base env H m hn hm h1 h2 h3
  simp only [List.length_cons] at hn
  obtain ⟨kk, p, he, hp⟩ := h base env H m h1 h2
  refine Ro.stepX (k := kk) (s' := ⟨env.put d p, H, m, sz⟩) ?_ (k p hp base _ H m (by omega) hm (h1.put d p) h2 h3.next)
  have hlt : d < sz := Nat.le_of_ble_eq_true hlt
  unfold stepA
  dsimp only
  rw [he]
  dsimp only
  unfold setD
  rw [hd]
  dsimp only
  rw [if_pos hlt]
/-- A call alone. -/
theorem Rs.call0 {d : Tmp} {g : FuncId} {xs : Array Operand} {ats : Array TypeId} {args : List PV} {P : PV → Prop} (hlt : Nat.blt d sz = true) (hm : cfg.mode g = 0) (hx : evls cfg L xs.toList = some args) (hF : Fn cfg g args P)
    (k : ∀ p, P p → Rs cfg cur ops n sz os (i + 1) ((d, p) :: L) M Q) : Rs cfg cur ops n sz (⟨some d, .call ⟨.value (.func g), xs, ats⟩, ty, ps, af, none⟩ :: os) i L M Q := by
  refine Rs.callX rfl rfl hlt (fun base env H m h1 h2 => ?_) k
  obtain ⟨kk, p, hp, hP⟩ := hF
  refine ⟨kk, p, ?_, hP⟩
  have hc : cls cfg cur ⟨some d, .call ⟨.value (.func g), xs, ats⟩, ty, ps, af, none⟩ = .pure := by unfold cls; dsimp only; rw [hm]; rfl
  unfold effA wantA
  dsimp only
  rw [hc]
  unfold effPure callee?
  dsimp only
  rw [evls_ok h1 hx]
  unfold pureCall
  rw [hm]
  simp only [hp]
/-- A told call. -/
theorem Rs.call3 {d : Tmp} {g : FuncId} {xs : Array Operand} {ats : Array TypeId} {args : List PV} {p : PV} (hlt : Nat.blt d sz = true) (hm : cfg.mode g = 3) (hx : evls cfg L xs.toList = some args) (hd : deepL args = true) (hF : cfg.spec g args = some p)
    (k : Rs cfg cur ops n sz os (i + 1) ((d, p) :: L) M Q) : Rs cfg cur ops n sz (⟨some d, .call ⟨.value (.func g), xs, ats⟩, ty, ps, af, none⟩ :: os) i L M Q := by
  refine Rs.callX (P := fun q => q = p) rfl rfl hlt (fun base env H m h1 h2 => ?_) (fun q hq => by rw [hq]; exact k)
  refine ⟨0, p, ?_, rfl⟩
  have hc : cls cfg cur ⟨some d, .call ⟨.value (.func g), xs, ats⟩, ty, ps, af, none⟩ = .pure := by unfold cls; dsimp only; rw [hm]; rfl
  unfold effA wantA
  dsimp only
  rw [hc]
  unfold effPure callee?
  dsimp only
  rw [evls_ok h1 hx]
  unfold pureCall
  rw [hm]
  simp only [hd, if_true, hF]
/-- A call whose arguments are read as they are. -/
theorem Rs.call1 {d : Tmp} {g : FuncId} {xs : Array Operand} {ats : Array TypeId} {args args' : List PV} {P : PV → Prop} (hlt : Nat.blt d sz = true) (hm : cfg.mode g = 1) (hx : evls cfg L xs.toList = some args) (hdp : ∀ H, CvH H M → deepenL H fuelD args = some args') (hF : Fn cfg g args' P) (hfl : ∀ p, P p → flatB p = true)
    (k : ∀ p, P p → Rs cfg cur ops n sz os (i + 1) ((d, p) :: L) M Q) : Rs cfg cur ops n sz (⟨some d, .call ⟨.value (.func g), xs, ats⟩, ty, ps, af, none⟩ :: os) i L M Q := by
  refine Rs.callX rfl rfl hlt (fun base env H m h1 h2 => ?_) k
  obtain ⟨kk, p, hp, hP⟩ := hF
  refine ⟨kk, p, ?_, hP⟩
  have hc : cls cfg cur ⟨some d, .call ⟨.value (.func g), xs, ats⟩, ty, ps, af, none⟩ = .read := by unfold cls; dsimp only; rw [hm]; rfl
  unfold effA wantA
  dsimp only
  rw [hc]
  unfold effRead callee?
  dsimp only
  rw [evls_ok h1 hx]
  dsimp only
  rw [hdp H h2]
  dsimp only
  rw [hp]
  dsimp only
  rw [if_pos (hfl p hP)]
/-- A call through a value, of a function that runs alone. -/
theorem Rs.callV {d : Tmp} {f : Operand} {g : FuncId} {fs cs : List PV} {xs : Array Operand} {ats : Array TypeId} {args : List PV} {P : PV → Prop} (hlt : Nat.blt d sz = true) (hnf : (match f with | .func _ => false | _ => true) = true) (hf : evl cfg L f = some (.clo g fs cs)) (hm : cfg.mode g = 0) (hx : evls cfg L xs.toList = some args) (hF : Fn cfg g (fs ++ (args ++ cs)) P)
    (k : ∀ p, P p → Rs cfg cur ops n sz os (i + 1) ((d, p) :: L) M Q) : Rs cfg cur ops n sz (⟨some d, .call ⟨.value f, xs, ats⟩, ty, ps, af, none⟩ :: os) i L M Q := by
  refine Rs.callX rfl rfl hlt (fun base env H m h1 h2 => ?_) k
  obtain ⟨kk, p, hp, hP⟩ := hF
  refine ⟨kk, p, ?_, hP⟩
  have hc : cls cfg cur ⟨some d, .call ⟨.value f, xs, ats⟩, ty, ps, af, none⟩ = .wild := by
    unfold cls
    cases f <;> first | rfl | cases hnf
  unfold effA wantA
  dsimp only
  rw [hc]
  unfold effWild
  dsimp only
  rw [evl_ok h1 hf, evls_ok h1 hx]
  dsimp only
  rw [hm]
  unfold pureCall
  rw [hm]
  simp only [hp]
/-- A callee whose slice becomes the caller's own. -/
def Fo (cfg : Cfg) (f : FuncId) (args : List PV) (P : Nat → List PV → Option Nat → Prop) : Prop :=
  ∃ k id v s l cap H m, deepL args = true ∧ callA cfg (exec cfg k) f args .e 0 = some (.own id v s 0 l.length cap, H, m) ∧ obj H id v = some (.blk s l true) ∧ deepL l = true ∧ P s l cap
theorem Rs.call5 {d : Tmp} {g : FuncId} {xs : Array Operand} {ats : Array TypeId} {args : List PV} {P : Nat → List PV → Option Nat → Prop} (hlt : Nat.blt d sz = true) (hm : cfg.mode g = 5) (hx : evls cfg L xs.toList = some args) (hF : Fo cfg g args P)
    (k : ∀ s l cap, P s l cap → ∀ id, Rs cfg cur ops n sz os (i + 1) ((d, .own id 0 s 0 l.length cap) :: L) ((id, 0, .blk s l true) :: M) Q) : Rs cfg cur ops n sz (⟨some d, .call ⟨.value (.func g), xs, ats⟩, ty, ps, af, none⟩ :: os) i L M Q := by
  intro base env H m hn hmm h1 h2 h3
  simp only [List.length_cons] at hn
  obtain ⟨kk, id, v, s, l, cap, H', m', hd, hcall, ho, hdl, hP⟩ := hF
  have hf : H.get (base + i) = none := h3 _ (by omega)
  refine Ro.stepX (k := kk) (s' := ⟨env.put d (.own (base + i) 0 s 0 l.length cap), H.put (base + i) (0, .blk s l true), m, sz⟩) ?_ (k s l cap hP (base + i) base _ _ m (by omega) hmm (h1.put d _) (h2.new hf 0 _) ?_)
  · have hlt : d < sz := Nat.le_of_ble_eq_true hlt
    have hc : cls cfg cur ⟨some d, .call ⟨.value (.func g), xs, ats⟩, ty, ps, af, none⟩ = .new := by unfold cls; dsimp only; rw [hm]; rfl
    unfold stepA effA wantA
    dsimp only
    rw [hc]
    unfold newOf callee?
    dsimp only
    rw [evls_ok h1 hx]
    dsimp only
    unfold importA
    rw [hd]
    dsimp only
    rw [hcall]
    dsimp only
    rw [ho]
    dsimp only
    rw [if_pos ⟨rfl, rfl, rfl, hdl⟩]
    dsimp only
    rw [hf]
    dsimp only
    unfold setD
    dsimp only
    rw [if_pos hlt]
  · intro id' hid
    rw [put_get, if_neg (by omega)]
    exact h3 id' (by omega)

/-! ### A function's end and its beginning -/
def resl (L : Fr) : List ResultVar → Option (List PV)
  | [] => some []
  | .tmp t :: rs => match lk L t with
    | some p => match resl L rs with | some ps => some (p :: ps) | none => none
    | none => none
  | _ => none
theorem resl_ok {P : Program} {s : St} (h : Cv s.env L) : ∀ {rs : List ResultVar} {ps : List PV}, resl L rs = some ps → resAll P s rs = some ps
  | [], ps, e => e
  | .tmp t :: rs, ps, e => by
    unfold resl at e
    unfold resAll resOne
    dsimp only
    split at e
    · rename_i p hp
      rw [h t p hp]
      split at e
      · rename_i q hq
        rw [resl_ok h hq]
        exact e
      · cases e
    · cases e
  | .cell .. :: rs, ps, e => by cases e
def one : List PV → PV
  | [p] => p
  | l => .tup l
/-- The function's end: its result, made deep. -/
def FinQ (cfg : Cfg) (fn : Func) (Q : PV → Prop) : Ex → St → Prop := fun e s => isEnd e = true ∧ ∃ p q, resA cfg.P s fn.results.toList = some p ∧ deepen s.H fuelD p = some q ∧ Q q
/-- The function's end in the caller's memory. -/
def FinM (cfg : Cfg) (fn : Func) (Q : PV → Heap → Nat → Prop) : Ex → St → Prop := fun e s => isEnd e = true ∧ ∃ p, resA cfg.P s fn.results.toList = some p ∧ Q p s.H s.m
theorem resA_of {P : Program} {s : St} {rs : List ResultVar} {l : List PV} (h : resAll P s rs = some l) : resA P s rs = some (one l) := by
  unfold resA
  rw [h]
  match l with
  | [] => rfl
  | [p] => rfl
  | p :: q :: r => rfl
theorem Ps.fin {fn : Func} {Q : PV → Prop} {e : Ex} {l : List PV} {q : PV} (he : isEnd e = true) (hr : resl L fn.results.toList = some l) (hd : ∀ H, CvH H M → deepen H fuelD (one l) = some q) (hq : Q q) : Ps sz L M (FinQ cfg fn Q e) :=
  fun env H m h1 h2 h3 => ⟨he, one l, q, resA_of (resl_ok (s := ⟨env, H, m, sz⟩) h1 hr), hd H h2, hq⟩
/-- A result of literals. -/
theorem Ps.finL {fn : Func} {Q : PV → Prop} {e : Ex} {l : List PV} (he : isEnd e = true) (hr : resl L fn.results.toList = some l) (hd : (match one l with | .lit _ | .dsl .. | .dptr .. | .dmap .. => true | .agg l => plainC l && decide (l.length < 900) | _ => false) = true) (hq : Q (one l)) : Ps sz L M (FinQ cfg fn Q e) :=
  Ps.fin he hr (fun H _ => deepen_plain hd fuelD (by decide)) hq
theorem Ps.finT {fn : Func} {Q : PV → Prop} {e : Ex} {l l' : List PV} (he : isEnd e = true) (hr : resl L fn.results.toList = some l) (ho : one l = .tup l) (hd : ∀ H, CvH H M → deepenL H (fuelD - 1) l = some l') (hq : Q (.tup l')) : Ps sz L M (FinQ cfg fn Q e) :=
  Ps.fin he hr (fun H hH => by
    rw [ho, show fuelD = (fuelD - 1) + 1 by decide]
    unfold deepen
    dsimp only
    rw [hd H hH]) hq
theorem Ps.finM {fn : Func} {Q : PV → Heap → Nat → Prop} {e : Ex} {l : List PV} (he : isEnd e = true) (hr : resl L fn.results.toList = some l) (hq : ∀ H m, CvH H M → (∀ id, m ≤ id → H.get id = none) → Q (one l) H m) : Ps sz L M (FinM cfg fn Q e) :=
  fun env H m h1 h2 h3 => ⟨he, one l, resA_of (resl_ok (s := ⟨env, H, m, sz⟩) h1 hr), hq H m h2 h3⟩
def num : Nat → List PV → Fr
  | _, [] => []
  | i, p :: ps => (i, p) :: num (i + 1) ps
theorem lk_num : ∀ (l : List PV) (i t : Nat) (p : PV), lk (num i l) t = some p → i ≤ t ∧ l[t - i]? = some p
  | [], i, t, p, h => by cases h
  | q :: l, i, t, p, h => by
    unfold num lk at h
    split at h
    · rename_i e
      cases h
      have := Nat.eq_of_beq_eq_true e
      subst this
      simp
    · rename_i e
      obtain ⟨h1, h2⟩ := lk_num l (i + 1) t p h
      refine ⟨by omega, ?_⟩
      rw [show t - i = t - (i + 1) + 1 by omega, List.getElem?_cons_succ]
      exact h2
theorem Cv.args (l : List PV) (hl : l.length ≤ 8000) : Cv (envOf l 0 .e) (num 0 l) := by
  intro t p h
  obtain ⟨_, h2⟩ := lk_num l 0 t p h
  unfold Env.at
  rw [envOf_get l 0 _ (by omega) t]
  have hlt := (List.getElem?_eq_some_iff.1 h2).1
  rw [if_pos (by omega), h2]
theorem Fn.go {f : FuncId} {fn : Func} {c : Code} {args : List PV} {Q : PV → Prop} (hf : cfg.P.funcs[f]? = some fn) (hc : fn.body = some c) (hs : cfg.fns f = true) (hn : (Nat.ble args.length fn.ntmps && Nat.ble fn.ntmps 8000) = true) (hd : deepL args = true) (hL : num 0 args = L)
    (h : Ps fn.ntmps L [] (fun s => Ev cfg f c s (FinQ cfg fn Q))) : Fn cfg f args Q := by
  subst hL
  exact
  have hn : args.length ≤ fn.ntmps ∧ fn.ntmps ≤ 8000 := by rw [Bool.and_eq_true] at hn; exact ⟨Nat.le_of_ble_eq_true hn.1, Nat.le_of_ble_eq_true hn.2⟩
  Fn.of hf hc hs hn hd (h _ _ _ (Cv.args args (by omega)) ⟨List.nodup_nil, fun _ _ _ hm => by cases hm⟩ fun id _ => by unfold Tr.get; rfl)
theorem Fm.go {f : FuncId} {fn : Func} {c : Code} {args : List PV} {H : Heap} {m : Nat} {Q : PV → Heap → Nat → Prop} (hf : cfg.P.funcs[f]? = some fn) (hc : fn.body = some c) (hs : cfg.fns f = true) (hn : (Nat.ble args.length fn.ntmps && Nat.ble fn.ntmps 8000) = true) (h2 : CvH H M) (h3 : ∀ id, m ≤ id → H.get id = none) (hL : num 0 args = L)
    (h : Ps fn.ntmps L M (fun s => Ev cfg f c s (FinM cfg fn Q))) : Fm cfg f args H m Q := by
  subst hL
  exact
  have hn : args.length ≤ fn.ntmps ∧ fn.ntmps ≤ 8000 := by rw [Bool.and_eq_true] at hn; exact ⟨Nat.le_of_ble_eq_true hn.1, Nat.le_of_ble_eq_true hn.2⟩
  Fm.of hf hc hs hn (h _ _ _ (Cv.args args (by omega)) h2 h3)
theorem Fn.mono {f : FuncId} {args : List PV} {P Q : PV → Prop} (h : Fn cfg f args P) (hq : ∀ p, P p → Q p) : Fn cfg f args Q := by
  obtain ⟨k, p, h1, h2⟩ := h
  exact ⟨k, p, h1, hq p h2⟩
end Go.Proofs.YtddaogebacigbaaGreatDoor.RV
end
section
set_option linter.unusedVariables false
namespace Go.Proofs.YtddaogebacigbaaGreatDoor.RV
variable {cfg : Cfg} {cur : FuncId} {sz : Nat} {L : Fr} {M : Mem} {ops : Array Oper} {n i : Nat} {os : List Oper} {Q : St → Prop} {R : Ex → St → Prop} {ty : TypeId} {ps : String} {af : Array Edge}
theorem W_i64 {n : Int} (h1 : -9223372036854775808 ≤ n) (h2 : n ≤ 9223372036854775807) : IntKind.i64.wrap n = n := by
  show (if (true && decide (n % 18446744073709551616 ≥ 9223372036854775808)) = true then n % 18446744073709551616 - 18446744073709551616 else n % 18446744073709551616) = n
  simp only [Bool.true_and, decide_eq_true_eq]
  split <;> omega
theorem W_i64s {j : Nat} (h : j < 9223372036854775807) : IntKind.i64.wrap ((j : Int) + 1) = ((j + 1 : Nat) : Int) := (W_i64 (by omega) (by omega)).trans (by omega)
theorem W_i64p {j : Nat} (h0 : 1 ≤ j) (h : j < 9223372036854775807) : IntKind.i64.wrap ((j : Int) - 1) = ((j - 1 : Nat) : Int) := (W_i64 (by omega) (by omega)).trans (by omega)
theorem drop_at {α : Type} {l : List α} {j : Nat} {x : α} (h : l[j]? = some x) : l.drop j = x :: l.drop (j + 1) := by
  obtain ⟨hlt, rfl⟩ := List.getElem?_eq_some_iff.1 h
  exact List.drop_eq_getElem_cons hlt
theorem HasL.nil {L : Fr} : HasL L [] := trivial
theorem HasL.cons {L r : Fr} {t : Nat} {p : PV} (h : RV.lk L t = some p) (h2 : HasL L r) : HasL L ((t, p) :: r) := ⟨h, h2⟩
theorem D1 {p : Prop} [Decidable p] (h : decide p = true) : p := of_decide_eq_true h
theorem D2 {p : Prop} [Decidable p] (h : decide p = false) : ¬ p := of_decide_eq_false h
theorem D3 {a b : Int} (h : (a == b) = true) : a = b := eq_of_beq h
theorem D4 {a b : Int} (h : (a == b) = false) : a ≠ b := by simpa using h
theorem D5 {a b : Int} (h : (a != b) = true) : a ≠ b := by simpa using h
theorem D6 {a b : Int} (h : (a != b) = false) : a = b := by simpa using h
theorem D7 {p : Prop} [Decidable p] (h : (!decide p) = true) : ¬ p := by simpa using h
theorem D8 {p : Prop} [Decidable p] (h : (!decide p) = false) : p := by simpa using h
theorem D9 {b : Bool} (h : (!b) = true) : b = false := by simpa using h
theorem D10 {b : Bool} (h : (!b) = false) : b = true := by simpa using h
theorem W_i32 {n : Int} (h1 : -2147483648 ≤ n) (h2 : n ≤ 2147483647) : IntKind.i32.wrap n = n := by
  show (if (true && decide (n % 4294967296 ≥ 2147483648)) = true then n % 4294967296 - 4294967296 else n % 4294967296) = n
  simp only [Bool.true_and, decide_eq_true_eq]
  split <;> omega
theorem W_i16 {n : Int} (h1 : -32768 ≤ n) (h2 : n ≤ 32767) : IntKind.i16.wrap n = n := by
  show (if (true && decide (n % 65536 ≥ 32768)) = true then n % 65536 - 65536 else n % 65536) = n
  simp only [Bool.true_and, decide_eq_true_eq]
  split <;> omega
theorem W_i8 {n : Int} (h1 : -128 ≤ n) (h2 : n ≤ 127) : IntKind.i8.wrap n = n := by
  show (if (true && decide (n % 256 ≥ 128)) = true then n % 256 - 256 else n % 256) = n
  simp only [Bool.true_and, decide_eq_true_eq]
  split <;> omega
theorem W_u64 {n : Int} (h1 : 0 ≤ n) (h2 : n ≤ 18446744073709551615) : IntKind.u64.wrap n = n := by
  show n % 18446744073709551616 = n
  omega
theorem W_u32 {n : Int} (h1 : 0 ≤ n) (h2 : n ≤ 4294967295) : IntKind.u32.wrap n = n := by
  show n % 4294967296 = n
  omega
theorem W_u16 {n : Int} (h1 : 0 ≤ n) (h2 : n ≤ 65535) : IntKind.u16.wrap n = n := by
  show n % 65536 = n
  omega
theorem W_u8 {n : Int} (h1 : 0 ≤ n) (h2 : n ≤ 255) : IntKind.u8.wrap n = n := by
  show n % 256 = n
  omega
theorem Q_i64 {a b : Int} (h0 : 0 ≤ a) (h1 : 0 < b) (h2 : a ≤ 9223372036854775807) : IntKind.i64.wrap (a.tdiv b) = a / b := by
  rw [Int.tdiv_eq_ediv_of_nonneg h0]
  have h3 := Int.ediv_le_self b h0
  have h4 := Int.ediv_nonneg h0 (Int.le_of_lt h1)
  exact W_i64 (by omega) (by omega)
theorem Q_i32 {a b : Int} (h0 : 0 ≤ a) (h1 : 0 < b) (h2 : a ≤ 2147483647) : IntKind.i32.wrap (a.tdiv b) = a / b := by
  rw [Int.tdiv_eq_ediv_of_nonneg h0]
  have h3 := Int.ediv_le_self b h0
  have h4 := Int.ediv_nonneg h0 (Int.le_of_lt h1)
  exact W_i32 (by omega) (by omega)
theorem Q_i16 {a b : Int} (h0 : 0 ≤ a) (h1 : 0 < b) (h2 : a ≤ 32767) : IntKind.i16.wrap (a.tdiv b) = a / b := by
  rw [Int.tdiv_eq_ediv_of_nonneg h0]
  have h3 := Int.ediv_le_self b h0
  have h4 := Int.ediv_nonneg h0 (Int.le_of_lt h1)
  exact W_i16 (by omega) (by omega)
theorem Q_i8 {a b : Int} (h0 : 0 ≤ a) (h1 : 0 < b) (h2 : a ≤ 127) : IntKind.i8.wrap (a.tdiv b) = a / b := by
  rw [Int.tdiv_eq_ediv_of_nonneg h0]
  have h3 := Int.ediv_le_self b h0
  have h4 := Int.ediv_nonneg h0 (Int.le_of_lt h1)
  exact W_i8 (by omega) (by omega)
theorem Q_u64 {a b : Int} (h0 : 0 ≤ a) (h1 : 0 < b) (h2 : a ≤ 18446744073709551615) : IntKind.u64.wrap (a.tdiv b) = a / b := by
  rw [Int.tdiv_eq_ediv_of_nonneg h0]
  have h3 := Int.ediv_le_self b h0
  have h4 := Int.ediv_nonneg h0 (Int.le_of_lt h1)
  exact W_u64 (by omega) (by omega)
theorem Q_u32 {a b : Int} (h0 : 0 ≤ a) (h1 : 0 < b) (h2 : a ≤ 4294967295) : IntKind.u32.wrap (a.tdiv b) = a / b := by
  rw [Int.tdiv_eq_ediv_of_nonneg h0]
  have h3 := Int.ediv_le_self b h0
  have h4 := Int.ediv_nonneg h0 (Int.le_of_lt h1)
  exact W_u32 (by omega) (by omega)
theorem Q_u16 {a b : Int} (h0 : 0 ≤ a) (h1 : 0 < b) (h2 : a ≤ 65535) : IntKind.u16.wrap (a.tdiv b) = a / b := by
  rw [Int.tdiv_eq_ediv_of_nonneg h0]
  have h3 := Int.ediv_le_self b h0
  have h4 := Int.ediv_nonneg h0 (Int.le_of_lt h1)
  exact W_u16 (by omega) (by omega)
theorem Q_u8 {a b : Int} (h0 : 0 ≤ a) (h1 : 0 < b) (h2 : a ≤ 255) : IntKind.u8.wrap (a.tdiv b) = a / b := by
  rw [Int.tdiv_eq_ediv_of_nonneg h0]
  have h3 := Int.ediv_le_self b h0
  have h4 := Int.ediv_nonneg h0 (Int.le_of_lt h1)
  exact W_u8 (by omega) (by omega)
theorem Rs.add {d : Tmp} {t t2 : TypeId} {x y : Operand} {ik : IntKind} {a b c : Int} (hlt : Nat.blt d sz = true) (hx : evl cfg L x = some (.lit (.int ik a))) (hy : evl cfg L y = some (.lit (.int ik b)))
    (h : ik.wrap (a + b) = c) (k : Rs cfg cur ops n sz os (i + 1) ((d, .lit (.int ik c)) :: L) M Q) : Rs cfg cur ops n sz (⟨some d, .binOp .add t x y t2, ty, ps, af, none⟩ :: os) i L M Q := Rs.arith hlt hx hy h k
theorem Rs.sub {d : Tmp} {t t2 : TypeId} {x y : Operand} {ik : IntKind} {a b c : Int} (hlt : Nat.blt d sz = true) (hx : evl cfg L x = some (.lit (.int ik a))) (hy : evl cfg L y = some (.lit (.int ik b)))
    (h : ik.wrap (a - b) = c) (k : Rs cfg cur ops n sz os (i + 1) ((d, .lit (.int ik c)) :: L) M Q) : Rs cfg cur ops n sz (⟨some d, .binOp .sub t x y t2, ty, ps, af, none⟩ :: os) i L M Q := Rs.arith hlt hx hy h k
theorem Rs.mul {d : Tmp} {t t2 : TypeId} {x y : Operand} {ik : IntKind} {a b c : Int} (hlt : Nat.blt d sz = true) (hx : evl cfg L x = some (.lit (.int ik a))) (hy : evl cfg L y = some (.lit (.int ik b)))
    (h : ik.wrap (a * b) = c) (k : Rs cfg cur ops n sz os (i + 1) ((d, .lit (.int ik c)) :: L) M Q) : Rs cfg cur ops n sz (⟨some d, .binOp .mul t x y t2, ty, ps, af, none⟩ :: os) i L M Q := Rs.arith hlt hx hy h k
theorem Rs.convI {d : Tmp} {s t : TypeId} {x : Operand} {ik jk : IntKind} {a c : Int} (hlt : Nat.blt d sz = true) (h1 : isSliceT cfg.P s = false) (hs : ∃ u, cfg.P.underlying s = some u) (ht : cfg.P.underlying t = some (.int jk)) (hx : evl cfg L x = some (.lit (.int ik a)))
    (h : jk.wrap a = c) (k : Rs cfg cur ops n sz os (i + 1) ((d, .lit (.int jk c)) :: L) M Q) : Rs cfg cur ops n sz (⟨some d, .convert s t x, ty, ps, af, none⟩ :: os) i L M Q := by
  refine Rs.conv (a := .int ik a) (v := .int jk c) hlt h1 (by unfold isSliceT; rw [ht]) hx rfl ?_ rfl k
  obtain ⟨u, hu⟩ := hs
  have hu' : ∀ t u, cfg.P.underlying t = some u → pureRun cfg.P (Go.underlying t) = some u := by
    intro t u h
    show pureRun cfg.P (match cfg.P.underlying t with | some u => _ | none => _) = _
    rw [h]
    rfl
  unfold convert
  rw [pureRun_bind, hu' s u hu]
  dsimp only [Option.bind]
  rw [pureRun_bind, hu' t _ ht]
  subst h
  rfl
/-- A choice: both ways. -/
theorem Rs.pick {d c : Tmp} {a b : Operand} {p q : PV} {t : Bool} (hlt : Nat.blt d sz = true) (hc : evl cfg L (.tmp c) = some (.lit (.bool t))) (ha : evl cfg L a = some p) (hb : evl cfg L b = some q)
    (k1 : t = true → Rs cfg cur ops n sz os (i + 1) ((d, p) :: (c, .lit (.bool true)) :: L) M Q) (k2 : t = false → Rs cfg cur ops n sz os (i + 1) ((d, q) :: (c, .lit (.bool false)) :: L) M Q) :
    Rs cfg cur ops n sz (⟨some d, .pick (.tmp c) a b, ty, ps, af, none⟩ :: os) i L M Q := by
  have up : ∀ (w : Bool) (r : PV), t = w → Rs cfg cur ops n sz os (i + 1) ((d, r) :: (c, .lit (.bool w)) :: L) M Q → Rs cfg cur ops n sz os (i + 1) ((d, r) :: L) M Q := by
    intro w r hw h
    subst hw
    intro base env H m hn hm h1 h2 h3
    refine h base env H m hn hm ?_ h2 h3
    intro t' p' hp'
    have hc' : lk L c = some (.lit (.bool t)) := hc
    unfold lk at hp'
    split at hp'
    · rename_i e
      cases hp'
      exact h1 t' _ (by unfold lk; rw [e])
    · rename_i e
      unfold lk at hp'
      split at hp'
      · rename_i e2
        cases hp'
        have := Nat.eq_of_beq_eq_true e2
        subst this
        exact h1 _ _ (by unfold lk; rw [e]; exact hc')
      · exact h1 t' p' (by unfold lk; rw [e]; exact hp')
  cases t with
  | true => exact Rs.pickT hlt hc ha hb (up true p rfl (k1 rfl))
  | false => exact Rs.pickF hlt hc ha hb (up false q rfl (k2 rfl))
theorem Rs.lenA {d : Tmp} {x : Operand} {t : TypeId} {s : Nat} {a : Option (Nat × Nat)} {l : List PV} (hlt : Nat.blt d sz = true) (ht : isSliceT cfg.P t = true) (hm : isMapT cfg.P t = false) (hx : evl cfg L x = some (gP s a l)) (hal : a = none ↔ l = []) (k : Rs cfg cur ops n sz os (i + 1) ((d, .lit (.int .i64 l.length)) :: L) M Q) :
    Rs cfg cur ops n sz (⟨some d, .call ⟨.builtin .len, #[x], #[t]⟩, ty, ps, af, none⟩ :: os) i L M Q := by
  cases a with
  | none =>
    have := hal.1 rfl
    subst this
    refine Rs.lenL (v := .int .i64 0) hlt hm hx ?_ rfl k
    unfold isSliceT at ht
    split at ht
    · rename_i e hu
      have hu' : pureRun cfg.P (Go.underlying t) = some (.slice e) := by
        show pureRun cfg.P (match cfg.P.underlying t with | some u => _ | none => _) = _
        rw [hu]
        rfl
      show pureRun cfg.P (Go.underlying t >>= fun u => _) = _
      rw [pureRun_bind, hu']
      rfl
    · cases ht
  | some iv => exact Rs.lenO hlt ht hm hx k
/-- A load from memory that stays, among operations that read. -/
theorem Rs.loadR {d : Tmp} {t : TypeId} {x : Operand} {off : Nat} {l : List PV} {p : PV} (hlt : Nat.blt d sz = true) (hc : cls cfg cur ⟨some d, .load t x, ty, ps, af, none⟩ = .read) (hx : evl cfg L x = some (.dptr l off)) (hp : partO cfg.P t l off = some p) (k : Rs cfg cur ops n sz os (i + 1) ((d, p) :: L) M Q) :
    Rs cfg cur ops n sz (⟨some d, .load t x, ty, ps, af, none⟩ :: os) i L M Q := by
  refine Rs.read rfl rfl hlt hc rfl (fun env H hE hH => ?_) k
  unfold aopRead
  dsimp only
  rw [evl_ok hE hx]
  exact hp
theorem map_at {α β : Type} {f : α → β} {l : List α} {j : Nat} {x : α} (h : l[j]? = some x) : (l.map f)[j]? = some (f x) := by rw [List.getElem?_map, h]; rfl
theorem at_lt {α : Type} {l : List α} {j : Nat} (h : j < l.length) : ∃ x, l[j]? = some x := ⟨l[j], List.getElem?_eq_getElem h⟩
theorem Rs.binB {d : Tmp} {op : BinOp} {t t2 : TypeId} {x y : Operand} {p q : PV} {a b : Value} {r : Bool} (hlt : Nat.blt d sz = true) (hx : evl cfg L x = some p) (hp : toVal p = some a) (hy : evl cfg L y = some q) (hq : toVal q = some b)
    (h : pureRun cfg.P (do eqGuard op t x y a b; binOp op t a b) = some (.bool r)) (k : Rs cfg cur ops n sz os (i + 1) ((d, .lit (.bool r)) :: L) M Q) : Rs cfg cur ops n sz (⟨some d, .binOp op t x y t2, ty, ps, af, none⟩ :: os) i L M Q :=
  Rs.bin hlt hx hp hy hq h rfl k
theorem Rs.binI {d : Tmp} {op : BinOp} {t t2 : TypeId} {x y : Operand} {ik jk kk : IntKind} {a b c : Int} (hlt : Nat.blt d sz = true) (hx : evl cfg L x = some (.lit (.int ik a))) (hy : evl cfg L y = some (.lit (.int jk b)))
    (h : pureRun cfg.P (do eqGuard op t x y (.int ik a) (.int jk b); binOp op t (.int ik a) (.int jk b)) = some (.int kk c)) (k : Rs cfg cur ops n sz os (i + 1) ((d, .lit (.int kk c)) :: L) M Q) : Rs cfg cur ops n sz (⟨some d, .binOp op t x y t2, ty, ps, af, none⟩ :: os) i L M Q :=
  Rs.bin hlt hx rfl hy rfl h rfl k
theorem Rs.rem {d : Tmp} {t t2 : TypeId} {x y : Operand} {ik : IntKind} {a b c : Int} (hlt : Nat.blt d sz = true) (hx : evl cfg L x = some (.lit (.int ik a))) (hy : evl cfg L y = some (.lit (.int ik b))) (h0 : b ≠ 0) (hc : a.tmod b = c)
    (k : Rs cfg cur ops n sz os (i + 1) ((d, .lit (.int ik c)) :: L) M Q) : Rs cfg cur ops n sz (⟨some d, .binOp .rem t x y t2, ty, ps, af, none⟩ :: os) i L M Q := by
  refine Rs.binI (c := c) (kk := ik) hlt hx hy ?_ k
  subst hc
  have : pureRun cfg.P (Op.intDiv .rem ik a b) = some (.int ik (a.tmod b)) := by
    unfold Op.intDiv
    rw [if_neg h0]
    rfl
  cases ik <;> exact this
theorem Rs.quo {d : Tmp} {t t2 : TypeId} {x y : Operand} {ik : IntKind} {a b c : Int} (hlt : Nat.blt d sz = true) (hx : evl cfg L x = some (.lit (.int ik a))) (hy : evl cfg L y = some (.lit (.int ik b))) (h0 : b ≠ 0) (hc : ik.wrap (a.tdiv b) = c)
    (k : Rs cfg cur ops n sz os (i + 1) ((d, .lit (.int ik c)) :: L) M Q) : Rs cfg cur ops n sz (⟨some d, .binOp .quo t x y t2, ty, ps, af, none⟩ :: os) i L M Q := by
  refine Rs.binI (c := c) (kk := ik) hlt hx hy ?_ k
  subst hc
  have : pureRun cfg.P (Op.intDiv .quo ik a b) = some (.int ik (ik.wrap (a.tdiv b))) := by
    unfold Op.intDiv
    rw [if_neg h0]
    rfl
  cases ik <;> exact this
theorem Rs.not {d : Tmp} {t : TypeId} {x : Operand} {b : Bool} (hlt : Nat.blt d sz = true) (hx : evl cfg L x = some (.lit (.bool b))) (k : Rs cfg cur ops n sz os (i + 1) ((d, .lit (.bool (!b))) :: L) M Q) : Rs cfg cur ops n sz (⟨some d, .unOp .not t x, ty, ps, af, none⟩ :: os) i L M Q :=
  Rs.un (v := .bool !b) hlt hx rfl rfl rfl k
theorem Rs.neg {d : Tmp} {t : TypeId} {x : Operand} {ik : IntKind} {a c : Int} (hlt : Nat.blt d sz = true) (hx : evl cfg L x = some (.lit (.int ik a))) (h : ik.wrap (0 - a) = c) (k : Rs cfg cur ops n sz os (i + 1) ((d, .lit (.int ik c)) :: L) M Q) : Rs cfg cur ops n sz (⟨some d, .unOp .neg t x, ty, ps, af, none⟩ :: os) i L M Q :=
  Rs.un (v := .int ik c) hlt hx rfl (by rw [← h]; rfl) rfl k
theorem Rs.lenI {d : Tmp} {x : Operand} {t : TypeId} {a : Value} {c : Int} (hlt : Nat.blt d sz = true) (hm : isMapT cfg.P t = false) (hx : evl cfg L x = some (.lit a)) (h : pureRun cfg.P (Builtin.len_ #[t] ty #[a]) = some (.int .i64 c)) (k : Rs cfg cur ops n sz os (i + 1) ((d, .lit (.int .i64 c)) :: L) M Q) :
    Rs cfg cur ops n sz (⟨some d, .call ⟨.builtin .len, #[x], #[t]⟩, ty, ps, af, none⟩ :: os) i L M Q := Rs.lenL hlt hm hx h rfl k
end Go.Proofs.YtddaogebacigbaaGreatDoor.RV
end
section
set_option linter.unusedVariables false
namespace Go.Proofs.YtddaogebacigbaaGreatDoor.RV
variable {cfg : Cfg} {cur : FuncId} {sz : Nat} {L : Fr} {M : Mem} {ops : Array Oper} {n i : Nat} {os : List Oper} {Q : St → Prop} {R : Ex → St → Prop} {ty : TypeId} {ps : String} {af : Array Edge}

/-! ### Slices that stay, nil among them -/
def IsSl (s : Nat) (l : List PV) (p : PV) : Prop := (∃ c, p = .dsl s l c) ∨ (l = [] ∧ p = .lit (.slice none 0 0))
def slP (s : Nat) (l : List PV) : PV := match l with | [] => .lit (.slice none 0 0) | x :: xs => .dsl s (x :: xs) none
theorem slP_is (s : Nat) (l : List PV) : IsSl s l (slP s l) := by
  cases l with
  | nil => exact .inr ⟨rfl, rfl⟩
  | cons x xs => exact .inl ⟨none, rfl⟩
theorem slP_ne {s : Nat} {l : List PV} (h : l ≠ []) : slP s l = .dsl s l none := by
  cases l with
  | nil => exact absurd rfl h
  | cons x xs => rfl
theorem dsl_is {s : Nat} {l : List PV} {c : Option Nat} : IsSl s l (.dsl s l c) := .inl ⟨c, rfl⟩
theorem nil_is {s : Nat} : IsSl s [] (.lit (.slice none 0 0)) := .inr ⟨rfl, rfl⟩
theorem IsSl.deep {s : Nat} {l : List PV} {p : PV} (h : IsSl s l p) : deepB p = true := by
  rcases h with ⟨c, rfl⟩ | ⟨_, rfl⟩ <;> rfl
theorem IsSl.cells {s : Nat} {l : List PV} {p : PV} (h : IsSl s l p) : p.cells = [p] := by
  rcases h with ⟨c, rfl⟩ | ⟨_, rfl⟩ <;> rfl
theorem IsSl.scalar {s : Nat} {l : List PV} {p : PV} (h : IsSl s l p) : p.scalar = true := by
  rcases h with ⟨c, rfl⟩ | ⟨_, rfl⟩ <;> rfl
theorem IsSl.deepen {H : Heap} {s : Nat} {l : List PV} {p : PV} (h : IsSl s l p) {k : Nat} : deepen H (k + 1) p = some p := by
  rcases h with ⟨c, rfl⟩ | ⟨_, rfl⟩ <;> rfl
theorem Rs.lenS {d : Tmp} {x : Operand} {t : TypeId} {s : Nat} {l : List PV} {p : PV} (hlt : Nat.blt d sz = true) (ht : isSliceT cfg.P t = true) (hm : isMapT cfg.P t = false) (hx : evl cfg L x = some p) (hp : IsSl s l p) (k : Rs cfg cur ops n sz os (i + 1) ((d, .lit (.int .i64 l.length)) :: L) M Q) :
    Rs cfg cur ops n sz (⟨some d, .call ⟨.builtin .len, #[x], #[t]⟩, ty, ps, af, none⟩ :: os) i L M Q := by
  rcases hp with ⟨c, rfl⟩ | ⟨rfl, rfl⟩
  · exact Rs.lenD hlt ht hm hx k
  · exact Rs.lenA (s := s) (a := none) (l := []) hlt ht hm hx (by simp) k
theorem Rs.indexS {d : Tmp} {t e : TypeId} {x y : Operand} {s j : Nat} {jk : IntKind} {ji : Int} {l lc : List PV} {p q : PV} (hlt : Nat.blt d sz = true) (hu : cfg.P.underlying t = some (.slice e)) (hs : szO cfg.P e = some s) (hx : evl cfg L x = some q) (hy : evl cfg L y = some (.lit (.int jk ji))) (hq : IsSl s l q) (hj : ji = (j : Int)) (hl : l[j]? = some p) (hlc : p.cells = lc) (k : Rs cfg cur ops n sz os (i + 1) ((d, .dptr lc 0) :: L) M Q) :
    Rs cfg cur ops n sz (⟨some d, .indexAddr t x y, ty, ps, af, none⟩ :: os) i L M Q := by
  rcases hq with ⟨c, rfl⟩ | ⟨rfl, rfl⟩
  · exact Rs.indexD hlt hu hs hx hy hj hl hlc k
  · simp at hl
/-- A part of a slice, from 'lo' to 'hi'. -/
theorem Rs.sliceS {d : Tmp} {t e : TypeId} {x : Operand} {lo hi : Option Operand} {lo' hi' : Option Nat} {s : Nat} {l : List PV} {q : PV} (hlt : Nat.blt d sz = true) (hu : cfg.P.underlying t = some (.slice e)) (hs : szO cfg.P e = some s) (hx : evl cfg L x = some q) (hne : l ≠ []) (hq : IsSl s l q)
    (h1 : optl cfg L lo = some lo') (h2 : optl cfg L hi = some hi') (hb : lo'.getD 0 ≤ hi'.getD l.length ∧ hi'.getD l.length ≤ l.length)
    (k : Rs cfg cur ops n sz os (i + 1) ((d, .dsl s ((l.drop (lo'.getD 0)).take (hi'.getD l.length - lo'.getD 0)) none) :: L) M Q) : Rs cfg cur ops n sz (⟨some d, .slice t x lo hi none, ty, ps, af, none⟩ :: os) i L M Q := by
  rcases hq with ⟨c, rfl⟩ | ⟨rfl, rfl⟩
  · exact Rs.sliceD hlt hu hs hx h1 h2 hb k
  · exact absurd rfl hne

/-! ### Results -/
inductive ResR (cfg : Cfg) (L : Fr) (M : Mem) : List ResultVar → List PV → Prop
  | nil : ResR cfg L M [] []
  | tmp {t : Nat} {p : PV} {rs : List ResultVar} {ps : List PV} (h : lk L t = some p) (r : ResR cfg L M rs ps) : ResR cfg L M (.tmp t :: rs) (p :: ps)
  | cell (j : Nat) {a : Nat} {t : TypeId} {id v ix off s : Nat} {l : List PV} {b : Bool} {p : PV} {rs : List ResultVar} {ps : List PV} (ha : lk L a = some (.ptr id v ix off)) (hj : M[j]? = some (id, v, .blk s l b)) (hp : partE cfg.P t l ix off = some p) (r : ResR cfg L M rs ps) : ResR cfg L M (.cell a t :: rs) (p :: ps)
theorem loadA_of {H : Heap} {j : Nat} {t : TypeId} {id v ix off s : Nat} {l : List PV} {b : Bool} {p : PV} (h : CvH H M) (hj : M[j]? = some (id, v, .blk s l b)) (hp : partE cfg.P t l ix off = some p) : loadA cfg.P H t (.ptr id v ix off) = some p := by
  unfold loadA
  dsimp only
  rw [h.obj hj]
  exact hp
theorem ResR.ok {s : St} {rs : List ResultVar} {ps : List PV} (h : ResR cfg L M rs ps) (h1 : Cv s.env L) (h2 : CvH s.H M) : resAll cfg.P s rs = some ps := by
  induction h with
  | nil => rfl
  | tmp h _ ih =>
    unfold resAll resOne
    dsimp only
    rw [h1 _ _ h, ih]
  | cell j ha hj hp _ ih =>
    unfold resAll resOne
    dsimp only
    rw [h1 _ _ ha]
    rw [loadA_of h2 hj hp, ih]
theorem Ps.finR {fn : Func} {Q : PV → Prop} {e : Ex} {l : List PV} {q : PV} (he : isEnd e = true) (hr : ResR cfg L M fn.results.toList l) (hd : ∀ H, CvH H M → deepen H fuelD (one l) = some q) (hq : Q q) : Ps sz L M (FinQ cfg fn Q e) :=
  fun env H m h1 h2 h3 => ⟨he, one l, q, resA_of (hr.ok (s := ⟨env, H, m, sz⟩) h1 h2), hd H h2, hq⟩
theorem Ps.finMR {fn : Func} {Q : PV → Heap → Nat → Prop} {e : Ex} {l : List PV} (he : isEnd e = true) (hr : ResR cfg L M fn.results.toList l) (hq : ∀ H m, CvH H M → (∀ id, m ≤ id → H.get id = none) → Q (one l) H m) : Ps sz L M (FinM cfg fn Q e) :=
  fun env H m h1 h2 h3 => ⟨he, one l, resA_of (hr.ok (s := ⟨env, H, m, sz⟩) h1 h2), hq H m h2 h3⟩

/-! ### Made deep -/
def plainP (p : PV) : Bool := match p with | .lit _ | .dsl .. | .dptr .. | .dmap .. => true | .agg l => plainC l && decide (l.length < 900) | _ => false
theorem deepen_pl {H : Heap} {p : PV} (h : plainP p = true) {k : Nat} (hk : 1000 < k) : deepen H k p = some p := deepen_plain h k hk
def Dp (n : Nat) (H : Heap) (p q : PV) : Prop := ∀ k, n < k → deepen H k p = some q
theorem Dp.plain {H : Heap} {p : PV} (n : Nat) (hn : Nat.ble 1000 n = true) (h : plainP p = true) : Dp n H p p := fun k hk => deepen_pl h (by have := Nat.le_of_ble_eq_true hn; omega)
theorem Dp.sl {H : Heap} {s : Nat} {l : List PV} {p : PV} (n : Nat) (h : IsSl s l p) : Dp n H p p := fun k hk => by
  cases k with
  | zero => omega
  | succ k => exact h.deepen
theorem CvH.g {H : Heap} {s id v : Nat} {l : List PV} (h : CvH H M) (hm : (id, v, .blk s l true) ∈ M) : RV.obj H id v = some (.blk s l true) := by
  obtain ⟨j, hj⟩ := List.getElem?_of_mem hm
  exact h.obj hj
theorem Dp.g {H : Heap} {s : Nat} {a : Option (Nat × Nat)} {l : List PV} (hal : a = none ↔ l = []) (hH : CvH H M) (hm : ∀ x ∈ gM s a l, x ∈ M) (hl : ∀ p ∈ l, plainP p = true) (hn : l.length ≤ 90000) : Dp 95000 H (gP s a l) (slP s l) := by
  intro k hk
  cases a with
  | none =>
    obtain rfl := hal.1 rfl
    cases k with
    | zero => omega
    | succ k => rfl
  | some iv =>
    obtain ⟨id, v⟩ := iv
    have hne : l ≠ [] := fun e => by have := hal.2 e; cases this
    rw [slP_ne hne]
    have ho := hH.g (hm _ (by unfold gM; exact .head _))
    cases k with
    | zero => omega
    | succ k =>
      unfold deepen gP
      dsimp only
      rw [ho]
      dsimp only
      rw [if_pos ⟨rfl, by omega⟩, List.drop_zero, List.take_length, deepenL_id l k (fun p hp k hk => deepen_pl (hl p hp) hk) (by omega)]
inductive DpL (n : Nat) (H : Heap) : List PV → List PV → Prop
  | nil : DpL n H [] []
  | cons {p q : PV} {ps qs : List PV} (h : Dp n H p q) (t : DpL n H ps qs) : DpL n H (p :: ps) (q :: qs)
theorem DpL.ok {n : Nat} {H : Heap} {ps qs : List PV} (h : DpL n H ps qs) : ∀ k, n + ps.length + 1 < k → deepenL H k ps = some qs := by
  induction h with
  | nil =>
    intro k hk
    cases k with
    | zero => omega
    | succ k => rfl
  | cons hp _ ih =>
    intro k hk
    simp only [List.length_cons] at hk
    cases k with
    | zero => omega
    | succ k =>
      unfold deepenL
      dsimp only
      rw [hp k (by omega), ih k (by omega)]
theorem Dp.tup {n m : Nat} {H : Heap} {ps qs : List PV} (h : DpL n H ps qs) (hm : Nat.ble (n + ps.length + 2) m = true) : Dp m H (.tup ps) (.tup qs) := by
  intro k hk
  have := Nat.le_of_ble_eq_true hm
  cases k with
  | zero => omega
  | succ k =>
    unfold deepen
    dsimp only
    rw [h.ok k (by omega)]
theorem Dp.agg {n m : Nat} {H : Heap} {ps qs : List PV} (h : DpL n H ps qs) (hm : Nat.ble (n + ps.length + 2) m = true) : Dp m H (.agg ps) (.agg qs) := by
  intro k hk
  have := Nat.le_of_ble_eq_true hm
  cases k with
  | zero => omega
  | succ k =>
    unfold deepen
    dsimp only
    rw [h.ok k (by omega)]
theorem Dp.top {n : Nat} {H : Heap} {p q : PV} (h : Dp n H p q) (hn : Nat.blt n 100000 = true) : deepen H fuelD p = some q := h _ (Nat.le_of_ble_eq_true hn)
theorem DpL.top {n : Nat} {H : Heap} {ps qs : List PV} (h : DpL n H ps qs) (hn : Nat.blt (n + ps.length + 1) 100000 = true) : deepenL H fuelD ps = some qs := h.ok _ (Nat.le_of_ble_eq_true hn)
theorem deepenL_plain {H : Heap} : ∀ (l : List PV) (k : Nat), l.all plainP = true → 1000 + l.length < k → deepenL H k l = some l :=
  fun l k h hk => deepenL_id l k (fun p hp k hk => deepen_pl (List.all_eq_true.1 h p hp) hk) hk
/-- The end of a function whose results are plain. -/
theorem Ps.finP {fn : Func} {Q : PV → Prop} {e : Ex} {l : List PV} (he : isEnd e = true) (hr : ResR cfg L M fn.results.toList l) (hp : l.all plainP = true) (hn : Nat.blt l.length 900 = true) (hq : Q (one l)) : Ps sz L M (FinQ cfg fn Q e) := by
  refine Ps.finR he hr (fun H hH => ?_) hq
  have hn : l.length < 900 := Nat.le_of_ble_eq_true hn
  match l, hp, hn with
  | [], _, _ => rfl
  | [p], hp, _ =>
    rw [List.all_cons, Bool.and_eq_true] at hp
    exact deepen_pl hp.1 (by decide)
  | p :: q :: r, hp, hn =>
    show deepen H fuelD (.tup (p :: q :: r)) = _
    rw [show fuelD = 99999 + 1 from rfl]
    unfold deepen
    dsimp only
    rw [deepenL_plain _ _ hp (by omega)]
    rfl
/-- The end of a function whose one result has grown. -/
theorem Ps.finG {fn : Func} {Q : PV → Prop} {e : Ex} {s : Nat} {a : Option (Nat × Nat)} {l : List PV} (he : isEnd e = true) (hr : ResR cfg L M fn.results.toList [gP s a l]) (hal : a = none ↔ l = []) (hm : (gM s a l).Sublist M) (hl : ∀ p ∈ l, plainP p = true) (hn : l.length ≤ 90000) (hq : Q (slP s l)) : Ps sz L M (FinQ cfg fn Q e) :=
  Ps.finR he hr (fun H hH => (Dp.g hal hH (fun x hx => hm.subset hx) hl hn).top rfl) hq
theorem IsSl.plain {s : Nat} {l : List PV} {p : PV} (h : IsSl s l p) : plainP p = true := by
  rcases h with ⟨c, rfl⟩ | ⟨_, rfl⟩ <;> rfl
theorem Fn.det {f : FuncId} {args : List PV} {P : PV → Prop} (h : Fn cfg f args P) : ∃ p, P p ∧ Fn cfg f args (· = p) := by
  obtain ⟨k, p, h1, h2⟩ := h
  exact ⟨p, h2, k, p, h1, rfl⟩
end Go.Proofs.YtddaogebacigbaaGreatDoor.RV
end
