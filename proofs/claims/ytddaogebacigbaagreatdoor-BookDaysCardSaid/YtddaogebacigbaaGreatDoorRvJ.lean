/- A part of the evaluator over abstract values, and that it is right (RvJ). Conditions: none. -/
import Derived.Test.YtddaogebacigbaaGreatDoorRvI
set_option linter.constructorNameAsVariable false
namespace Go.Proofs.YtddaogebacigbaaGreatDoor.RV
open Go.RowKit (Below)

theorem pureRun_bind {α β : Type} {P : Program} (f : α → Sem β) : ∀ (s : Sem α), pureRun P (s >>= f) = (pureRun P s).bind fun a => pureRun P (f a) := by
  intro s
  show pureRun P (s.bind f) = _
  induction s with
  | pure a => rfl
  | program k ih => simp only [Sem.bind, pureRun]; exact ih P
  | _ => rfl

theorem findNow_rel (kind : TypeDesc) (k : Value) : ∀ (es es' : List MapEntry) (n : Nat), es.map (·.key) = es'.map (·.key) →
    (Instr.findNow kind k es n = none ∧ Instr.findNow kind k es' n = none) ∨ (Instr.findNow kind k es n = some none ∧ Instr.findNow kind k es' n = some none) ∨
      ∃ i v e', Instr.findNow kind k es n = some (some (i, v)) ∧ n ≤ i ∧ es'[i - n]? = some e' ∧ Instr.findNow kind k es' n = some (some (i, e'.val))
  | [], [], n, _ => .inr (.inl ⟨rfl, rfl⟩)
  | [], _ :: _, n, h => by simp at h
  | _ :: _, [], n, h => by simp at h
  | e :: es, e' :: es', n, h => by
    simp only [List.map_cons, List.cons.injEq] at h
    obtain ⟨hk, hks⟩ := h
    simp only [Instr.findNow, ← hk]
    cases hs : Instr.sameNow kind k e.key with
    | none => exact .inl ⟨rfl, rfl⟩
    | some b =>
      cases b with
      | true => exact .inr (.inr ⟨n, e.val, e', rfl, Nat.le_refl _, by simp, rfl⟩)
      | false =>
        rcases findNow_rel kind k es es' (n + 1) hks with h1 | h1 | ⟨i, v, x, h1, h2, h3, h4⟩
        · exact .inl h1
        · exact .inr (.inl h1)
        · exact .inr (.inr ⟨i, v, x, h1, by omega, by rw [show i - n = i - (n + 1) + 1 by omega]; simpa using h3, h4⟩)

theorem findAsking_rel {P : Program} (kt : TypeId) (k : Value) : ∀ (es es' : List MapEntry) (n : Nat) (r : Option (Nat × Value)), es.map (·.key) = es'.map (·.key) → pureRun P (Instr.findAsking kt k es n) = some r →
    (r = none ∧ pureRun P (Instr.findAsking kt k es' n) = some none) ∨ ∃ i v e', r = some (i, v) ∧ n ≤ i ∧ es'[i - n]? = some e' ∧ pureRun P (Instr.findAsking kt k es' n) = some (some (i, e'.val))
  | [], [], n, r, _, h => by
    simp only [Instr.findAsking] at h ⊢
    have : r = none := by simpa [pureRun, pure] using h.symm
    exact .inl ⟨this, rfl⟩
  | [], _ :: _, n, _, h, _ => by simp at h
  | _ :: _, [], n, _, h, _ => by simp at h
  | e :: es, e' :: es', n, r, h, hr => by
    simp only [List.map_cons, List.cons.injEq] at h
    obtain ⟨hk, hks⟩ := h
    simp only [Instr.findAsking, pureRun_bind, ← hk] at hr ⊢
    cases hq : pureRun P (Op.equal kt k e.key) with
    | none => rw [hq] at hr; simp at hr
    | some b =>
      rw [hq] at hr
      simp only [Option.bind_some] at hr ⊢
      cases b with
      | true =>
        have : r = some (n, e.val) := by simpa [pureRun, pure] using hr.symm
        exact .inr ⟨n, e.val, e', this, Nat.le_refl _, by simp, rfl⟩
      | false =>
        simp only [Bool.false_eq_true, if_false] at hr ⊢
        rcases findAsking_rel kt k es es' (n + 1) r hks hr with h1 | ⟨i, v, x, h1, h2, h3, h4⟩
        · exact .inl h1
        · exact .inr ⟨i, v, x, h1, by omega, by rw [show i - n = i - (n + 1) + 1 by omega]; simpa using h3, h4⟩

theorem findKey_rel {P : Program} {kt : TypeId} {k : Value} {es es' : List MapEntry} {r : Option (Nat × Value)} (hk : es.map (·.key) = es'.map (·.key)) (hr : pureRun P (Instr.findKey kt k es) = some r) :
    (r = none ∧ pureRun P (Instr.findKey kt k es') = some none) ∨ ∃ i v e', r = some (i, v) ∧ es'[i]? = some e' ∧ pureRun P (Instr.findKey kt k es') = some (some (i, e'.val)) := by
  unfold Instr.findKey at hr ⊢
  rw [pureRun_bind] at hr ⊢
  cases hu : pureRun P (underlying kt) with
  | none => rw [hu] at hr; simp at hr
  | some d =>
    rw [hu] at hr
    simp only [Option.bind_some] at hr ⊢
    rcases findNow_rel d k es es' 0 hk with ⟨h1, h2⟩ | ⟨h1, h2⟩ | ⟨i, v, e', h1, h2, h3, h4⟩
    · rw [h1] at hr
      rw [h2]
      simp only at hr ⊢
      rcases findAsking_rel kt k es es' 0 r hk hr with h | ⟨i, v, e', h3, h4, h5, h6⟩
      · exact .inl h
      · exact .inr ⟨i, v, e', h3, h5, h6⟩
    · rw [h1] at hr
      rw [h2]
      have : r = none := by simpa [pureRun, pure] using hr.symm
      exact .inl ⟨this, rfl⟩
    · rw [h1] at hr
      rw [h4]
      have : r = some (i, v) := by simpa [pureRun, pure] using hr.symm
      exact .inr ⟨i, v, e', this, by simpa using h3, rfl⟩

theorem entsOf_keys : ∀ {ks : List Value} {bs : List Nat}, ks.length = bs.length → (entsOf ks bs).map (·.key) = ks
  | [], [], _ => rfl
  | k :: ks, b :: bs, h => by
    simp only [entsOf, List.zipWith_cons_cons, List.map_cons]
    congr 1
    exact entsOf_keys (by simpa using h)
  | [], _ :: _, h => by simp at h
  | _ :: _, [], h => by simp at h

section
variable {cfg : Cfg} {O0 : Nat → Prop} {ι : Iota} {H : Heap} {w : World} {env : Env} {ρ : Operand → Value}

/-- What is known of a map. -/
def MapR (w : World) (O : Nat → Prop) (ι : Iota) (x : Value) (ks : List Value) (vs : List PV) (bs : List Nat) (clock : Nat) : Prop :=
  (x = .map none ∧ ks = [] ∧ vs = [] ∧ bs = [] ∧ clock = 0) ∨ ∃ b ents, x = .map (some b) ∧ w.heap[b]? = some (.map ents clock) ∧ ks = ents.toList.map (·.key) ∧ bs = ents.toList.map (·.born) ∧ VL w O ι vs (ents.toList.map (·.val))

theorem mapOf_sound {m : PV} {x : Value} {ks : List Value} {vs : List PV} {bs : List Nat} {clock : Nat} (hI : Inv cfg O0 ι H w) (hx : V w (Owns O0 ι H) ι m x) (h : mapOf H m = some (ks, vs, bs, clock)) :
    MapR w (Owns O0 ι H) ι x ks vs bs clock := by
  unfold mapOf at h
  split at h
  · cases h; exact .inl ⟨V.lit_iff.1 hx, rfl, rfl, rfl, rfl⟩
  · rename_i id ver
    split at h
    · rename_i ho
      cases h
      simp only [V] at hx
      obtain ⟨L, hL, hxx⟩ := hx
      obtain ⟨L', hL', ents, h1, h2, h3, h4⟩ := hI.obj _ _ _ (obj_spec ho)
      rw [hL] at hL'
      cases hL'
      exact .inr ⟨_, ents, hxx, h1, h2, h3, h4⟩
    · cases h
  · cases h
    simp only [V] at hx
    obtain ⟨b, ents, hxx, _, h1, h2, h3, h4⟩ := hx
    exact .inr ⟨b, ents, hxx, h1, h2, h3, h4.lift⟩
  · cases h

theorem keyOk_spec {P : Program} {b : Bool} {kt : TypeId} {k : Value} (h : keyOk P b kt k = true) (w : World) : (Instr.checkKey b 10000 kt k).run P w = .ok () w := by
  unfold keyOk at h
  split at h
  · rename_i u hu; cases u; exact pureRun_sound hu
  · cases h

theorem run_lookup {P : Program} {t kt vt : TypeId} {x k : Value} {ents : Array MapEntry} {clock : Nat} {ok : Bool} {r : Option (Nat × Value)} {y : Value} {b : Bool} (hu : P.underlying t = some (.map kt vt))
    (hx : (x = .map none ∧ ents = #[]) ∨ ∃ b, x = .map (some b) ∧ w.heap[b]? = some (.map ents clock)) (hkey : (Instr.checkKey ents.isEmpty 10000 kt k).run P w = .ok () w)
    (hf : (Instr.findKey kt k ents.toList).run P w = .ok r w) (hr : (∃ i, r = some (i, y) ∧ b = true) ∨ (r = none ∧ (zeroValue vt).run P w = .ok y w ∧ b = false)) :
    (Instr.lookup t x k ok).run P w = .ok (if ok then .tuple #[y, .bool b] else y) w := by
  unfold Instr.lookup
  rcases hx with ⟨rfl, rfl⟩ | ⟨bb, rfl, hb⟩ <;> rcases hr with ⟨i, rfl, rfl⟩ | ⟨rfl, hz, rfl⟩
  · simp [run_underlying hu] at hkey hf ⊢; simp [hkey, hf]
  · simp [run_underlying hu] at hkey hf ⊢; simp [hkey, hf, hz]
  · simp [run_underlying hu, getObj, Sem.run, hb] at hkey hf ⊢; simp [hkey, hf]
  · simp [run_underlying hu, getObj, Sem.run, hb] at hkey hf ⊢; simp [hkey, hf, hz]

theorem lookupA_sound {t : TypeId} {m : PV} {x k : Value} {v : PV} {b ok : Bool} (hI : Inv cfg O0 ι H w) (hx : V w (Owns O0 ι H) ι m x) (h : lookupA cfg.P H t m k = some (v, b)) :
    ∃ y, (Instr.lookup t x k ok).run cfg.P w = .ok (if ok then .tuple #[y, .bool b] else y) w ∧ V w (Owns O0 ι H) ι v y := by
  unfold lookupA at h
  split at h
  · rename_i kt vt hu
    split at h
    · rename_i ks vs bs clock hm
      split at h
      · rename_i hkey
        have hM := mapOf_sound hI hx hm
        have hes : ∃ ents : Array MapEntry, ks = ents.toList.map (·.key) ∧ bs = ents.toList.map (·.born) ∧ VL w (Owns O0 ι H) ι vs (ents.toList.map (·.val)) ∧
            ((x = .map none ∧ ents = #[]) ∨ ∃ b, x = .map (some b) ∧ w.heap[b]? = some (.map ents clock)) := by
          rcases hM with ⟨rfl, rfl, rfl, rfl, _⟩ | ⟨r, ents, rfl, hb, h1, h2, h3⟩
          · exact ⟨#[], rfl, rfl, by simp [VL.nil_iff], .inl ⟨rfl, rfl⟩⟩
          · exact ⟨ents, h1, h2, h3, .inr ⟨r, rfl, hb⟩⟩
        obtain ⟨ents, hk, hbs, hvl, hxe⟩ := hes
        have hemp : ks.isEmpty = ents.isEmpty := by rw [hk]; cases ents with | mk l => cases l <;> rfl
        rw [hemp] at hkey
        unfold findE at h
        cases hp : pureRun cfg.P (Instr.findKey kt k (entsOf ks bs)) with
        | none => rw [hp] at h; cases h
        | some r =>
          have hrel := findKey_rel (es' := ents.toList) (by rw [entsOf_keys (by rw [hk, hbs]; simp), hk]) hp
          rw [hp] at h
          rcases hrel with ⟨rfl, hpr⟩ | ⟨i, u, e', rfl, he', hpr⟩
          · simp only at h
            split at h <;> cases h
            rename_i z hz
            obtain ⟨i, zv, hi, hzv, _, hV⟩ := zeroO_spec hz
            exact ⟨zv, run_lookup hu hxe (keyOk_spec hkey w) (pureRun_sound hpr) (.inr ⟨rfl, run_zeroValue hi hzv w, rfl⟩), hV _ _ _⟩
          · simp only at h
            split at h <;> cases h
            rename_i hv
            obtain ⟨y, hy, hVy⟩ := hvl.get _ _ hv
            have hy' : e'.val = y := by simpa [he'] using hy
            subst hy'
            exact ⟨e'.val, run_lookup hu hxe (keyOk_spec hkey w) (pureRun_sound hpr) (.inl ⟨i, rfl, rfl⟩), hVy⟩
      · cases h
    · cases h
  · cases h

theorem zip_find {ks : List Value} {vs : List PV} {bs : List Nat} {O : Nat → Prop} : ∀ {ents : List MapEntry}, ks = ents.map (·.key) → bs = ents.map (·.born) → VL w O ι vs (ents.map (·.val)) → ∀ {b : Nat} {k : Value} {v : PV} {c : Nat},
    (ks.zip (vs.zip bs)).find? (fun e => e.2.2 == b) = some (k, v, c) → ∃ e, ents.find? (·.born == b) = some e ∧ e.key = k ∧ V w O ι v e.val := by
  intro ents hk hb hv b k v c h
  induction ents generalizing ks vs bs with
  | nil => subst hk; simp at h
  | cons e ents ih =>
    subst hk hb
    simp only [List.map_cons] at hv h
    cases vs with
    | nil => simp at h
    | cons u vs =>
      obtain ⟨y, ys, he, hy, hys⟩ := VL.cons_iff.1 hv
      cases he
      simp only [List.zip_cons_cons, List.find?_cons] at h ⊢
      cases hq : e.born == b with
      | true =>
        rw [hq] at h
        simp at h
        obtain ⟨rfl, rfl, rfl⟩ := h
        exact ⟨e, rfl, rfl, hy⟩
      | false =>
        rw [hq] at h
        exact ih rfl rfl hys h

theorem aopRead_sound {o : Oper} {p : PV} (hI : Inv cfg O0 ι H w) (hE : ∀ x q, evO cfg env x = some q → V w (Owns O0 ι H) ι q (ρ x)) (h : aopRead cfg env H o = some p) :
    ∃ x, (execOp ρ o).run cfg.P w = .ok (.value x) w ∧ V w (Owns O0 ι H) ι p x := by
  obtain ⟨dst, op, ty, pos, after, guard⟩ := o
  cases op
  case load t x =>
    simp only [aopRead] at h
    split at h
    · rename_i q hq
      obtain ⟨a, y, hx, hr, hv⟩ := loadA_sound hI (hE x q hq) h
      refine ⟨y, run_v (s := Instr.loadAt t (ρ x)) ?_, hv⟩
      rw [hx]
      exact run_loadAt hr
    · cases h
  case convert src dst x =>
    simp only [aopRead] at h
    split at h
    · rename_i e hsrc hdst
      split at h
      · rename_i id ver s off len cap he hx
        split at h
        · rename_i s' l live ho
          split at h
          · rename_i hc
            obtain ⟨rfl, rfl, hle⟩ := hc
            split at h <;> cases h
            rename_i bs hbs
            obtain ⟨L, c, hL, hs, hxx, _⟩ := V.own_iff.1 (hE x _ hx)
            obtain ⟨L', hL', hs', _, _, hVE, _⟩ := hI.obj _ _ _ (obj_spec ho)
            rw [hL] at hL'
            cases hL'
            have hr := run_bytesToString (P := cfg.P) (c := c) ((hVE.drop off).take len) hbs
            have hlen : ((l.drop off).take len).length = len := by simp; omega
            rw [hlen] at hr
            refine ⟨_, run_v (s := convert src dst (ρ x)) ?_, V.lit_iff.2 rfl⟩
            rw [hxx, Go.run_convert_bytes_string w _ _ _ _ _ _ hsrc he hdst, hr]
          · cases h
        · cases h
      · rename_i id ver idx off len he hx
        split at h
        · rename_i s l live ho
          split at h
          · rename_i e2 he2
            split at h
            · rename_i hle
              split at h <;> cases h
              rename_i bs hbs
              have hv := hE x _ hx
              simp only [V] at hv
              obtain ⟨L, c, hL, hxx⟩ := hv
              obtain ⟨L', hL', hs', _, _, hVE, _⟩ := hI.obj _ _ _ (obj_spec ho)
              rw [hL] at hL'
              cases hL'
              obtain ⟨y, hy, _, cs, ct, fz, hb, hget⟩ := hVE.get idx e2 he2
              have hr := run_bytesToStringC (P := cfg.P) (b := L.b) (o := L.base + idx * L.s + off) (c := c) ((hy.cells.drop off).take len) (.inr ⟨cs, ct, fz, hb, fun j z hz => by
                rw [List.getElem?_take] at hz
                split at hz
                · rw [List.getElem?_drop] at hz
                  have := hget _ z hz
                  rw [hs', Nat.add_assoc (L.base + idx * s)]
                  exact this
                · cases hz⟩) hbs
              have hlen : ((e2.cells.drop off).take len).length = len := by simp; omega
              rw [hlen] at hr
              refine ⟨_, run_v (s := convert src dst (ρ x)) ?_, V.lit_iff.2 rfl⟩
              rw [hxx, Go.run_convert_bytes_string w _ _ _ _ _ _ hsrc he hdst, hr]
            · cases h
          · cases h
        · cases h
      · rename_i s l cap he hx
        split at h
        · rename_i hs
          subst hs
          split at h <;> cases h
          rename_i bs hbs
          obtain ⟨a, c, hxx, _, _, hr⟩ := V.dsl_iff.1 (hE x _ hx)
          rcases hr with rfl | ⟨b, o, rfl, _, hVE⟩
          · simp only [bytesOf, Option.some.injEq] at hbs
            subst hbs
            refine ⟨.string .empty, run_v (s := convert src dst (ρ x)) ?_, V.lit_iff.2 rfl⟩
            rw [hxx, Go.run_convert_bytes_string w _ _ _ _ _ _ hsrc he hdst]
            cases a <;> simp [Conv.bytesToString, loadCells, loadCellsFrom]
          · have hr := run_bytesToString (P := cfg.P) (c := c) hVE hbs
            refine ⟨_, run_v (s := convert src dst (ρ x)) ?_, V.lit_iff.2 rfl⟩
            rw [hxx, Go.run_convert_bytes_string w _ _ _ _ _ _ hsrc he hdst, hr]
        · cases h
      · rename_i a b he hx
        cases h
        have hxx := V.lit_iff.1 (hE x _ hx)
        refine ⟨.string .empty, run_v (s := convert src dst (ρ x)) ?_, V.lit_iff.2 rfl⟩
        rw [hxx, Go.run_convert_bytes_string w _ _ _ _ _ _ hsrc he hdst]
        simp [Conv.bytesToString]
      · cases h
    · cases h
  case entry it =>
    simp only [aopRead] at h
    split at h
    · rename_i id ver hit
      split at h
      · rename_i m since seen stepped ho
        split at h
        · rename_i b ks vs bs clock hlast hm
          split at h
          · rename_i hc
            subst hc
            split at h <;> cases h
            rename_i k v c hfind
            have hx := hE it _ hit
            simp only [V] at hx
            obtain ⟨L, hL, hxx⟩ := hx
            obtain ⟨L', hL', mr, h1, h2⟩ := hI.obj _ _ _ (obj_spec ho)
            rw [hL] at hL'
            cases hL'
            have hM := mapOf_sound hI h2 hm
            rcases hM with ⟨hmr, rfl, rfl, rfl, _⟩ | ⟨mb, ents, hmr, hb, hk, hbs, hvl⟩
            · simp at hfind
            · cases hmr
              obtain ⟨e, he, hek, hev⟩ := zip_find hk hbs hvl hfind
              have hback : seen.toArray.back? = some b := by simpa [Array.back?, List.getLast?_eq_getElem?] using hlast
              refine ⟨.tuple #[e.key, e.val], run_v (s := Instr.entry (ρ it)) ?_, V.tup_iff.2 ⟨_, rfl, ?_⟩⟩
              · have he' : ents.find? (fun x => x.born == b) = some e := by rw [← Array.find?_toList]; exact he
                simp [Instr.entry, hxx, getObj, Sem.run, h1, hb, hback, he']
              · subst hek
                exact VL.cons (V.ofVal1 _) (VL.cons hev (VL.nil_iff.2 rfl))
          · cases h
        · cases h
      · cases h
    · cases h
  case lookup t m k ok =>
    simp only [aopRead] at h
    split at h
    · rename_i pm pk hm hk
      split at h
      · rename_i kv hkv
        split at h <;> cases h
        rename_i v b hl
        have hkv' := toVal_sound pk (hE k _ hk) hkv
        obtain ⟨y, hr, hv⟩ := lookupA_sound (ok := ok) hI (hE m _ hm) hl
        refine ⟨_, run_v (s := Instr.lookup t (ρ m) (ρ k) ok) (by rw [hkv']; exact hr), ?_⟩
        cases ok
        · simpa using hv
        · exact V.tup_iff.2 ⟨_, rfl, VL.cons hv (VL.cons (V.lit_iff.2 rfl) (VL.nil_iff.2 rfl))⟩
      · cases h
    · cases h
  case call c =>
    simp only [aopRead] at h
    obtain ⟨callee, args, argTypes⟩ := c
    cases callee
    case value f => cases h
    case invoke r m => cases h
    case builtin b =>
      cases b
      case len =>
        simp only at h
        split at h
        · rename_i x t hargs ht
          have hargs' : args = #[x] := by simpa using congrArg List.toArray hargs
          subst hargs'
          have hmt : isMapT cfg.P t = true → ∃ a b, cfg.P.underlying t = some (.map a b) := fun hh => by
            unfold isMapT at hh
            split at hh
            · rename_i a b hab; exact ⟨a, b, hab⟩
            · cases hh
          split at h
          · rename_i hmap hx
            cases h
            obtain ⟨a, b, hu⟩ := hmt hmap
            have hxx := V.lit_iff.1 (hE x _ hx)
            exact ⟨.int .i64 0, by simp [execOp, resolve, invoke, builtin, Builtin.len_, ht, run_underlying hu, hxx, goInt], V.lit_iff.2 rfl⟩
          · rename_i ks vs bs clock hmap hx
            cases h
            obtain ⟨a, b, hu⟩ := hmt hmap
            have hxx := hE x _ hx
            simp only [V] at hxx
            obtain ⟨bb, ents, hxx, _, h1, _, _, h4⟩ := hxx
            have hlen : ents.size = vs.length := by simpa using h4.length
            exact ⟨.int .i64 vs.length, by simp [execOp, resolve, invoke, builtin, Builtin.len_, ht, run_underlying hu, hxx, goInt, getObj, Sem.run, h1, hlen], V.lit_iff.2 rfl⟩
          · rename_i id ver hmap hx
            split at h <;> cases h
            rename_i ks vs bs clock ho
            obtain ⟨a, b, hu⟩ := hmt hmap
            have hxx := hE x _ hx
            simp only [V] at hxx
            obtain ⟨L, hL, hxx⟩ := hxx
            obtain ⟨L', hL', ents, h1, _, _, h4⟩ := hI.obj _ _ _ (obj_spec ho)
            rw [hL] at hL'
            cases hL'
            have hlen : ents.size = vs.length := by simpa using h4.length
            exact ⟨.int .i64 vs.length, by simp [execOp, resolve, invoke, builtin, Builtin.len_, ht, run_underlying hu, hxx, goInt, getObj, Sem.run, h1, hlen], V.lit_iff.2 rfl⟩
          · cases h
        · cases h
      all_goals cases h
  all_goals (simp only [aopRead] at h; cases h)
end
end Go.Proofs.YtddaogebacigbaaGreatDoor.RV
