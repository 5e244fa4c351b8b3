/- A part of the evaluator over abstract values, and that it is right (RvF). Conditions: none. -/
import Derived.Test.YtddaogebacigbaaGreatDoorRvE
set_option linter.constructorNameAsVariable false
namespace Go.Proofs.YtddaogebacigbaaGreatDoor.RV
open Go.RowKit (Below)

section
variable {cfg : Cfg} {env : Env} {w : World} {O : Nat → Prop} {ι : Iota} {ρ : Operand → Value}

theorem partO_sound {P : Program} {t : TypeId} {l : List PV} {cs : Array Value} {off : Nat} {p : PV} (hl : VL w O ι l cs.toList) (h : partO P t l off = some p) :
    ∃ x, (part t cs off).run P w = .ok x w ∧ V w O ι p x := by
  unfold partO at h
  unfold part
  split at h
  · rename_i n ha hn
    split at h <;> cases h
    refine ⟨.agg (cs.extract off (off + n)), ?_, V.agg_iff.2 ⟨_, rfl, ?_⟩⟩
    · simp [run_isAgg ha, run_sizeOf hn]
    · have := (hl.drop off).take n
      simpa [List.extract_eq_take_drop] using this
  · rename_i n ha hn
    obtain ⟨x, hx, hv⟩ := hl.get _ _ h
    refine ⟨x, ?_, hv⟩
    simp [run_isAgg ha] at hx ⊢
    simp [hx]
  · cases h

theorem fieldA_sound {t : TypeId} {x : Operand} {i : Nat} {p : PV} (hE : ∀ x q, evO cfg env x = some q → V w O ι q (ρ x)) (h : fieldA cfg env t x i = some p) :
    ∃ y, (Instr.field t (ρ x) i).run cfg.P w = .ok y w ∧ V w O ι p y := by
  unfold fieldA at h
  split at h
  · rename_i fields l hu hx
    split at h
    · rename_i f hf
      obtain ⟨cs, hcs, hl⟩ := V.agg_iff.1 (hE x _ hx)
      obtain ⟨y, hy, hv⟩ := partO_sound hl h
      refine ⟨y, ?_, hv⟩
      simp [Instr.field, run_underlying hu, hf, hcs, asAgg, hy]
    · cases h
  · cases h

theorem V.ptr_iff {id ver idx off : Nat} {x : Value} : V w O ι (.ptr id ver idx off) x ↔ ∃ L, ι id ver = some L ∧ x = .pointer (some ⟨L.b, L.base + idx * L.s + off, none⟩) := by simp only [V]
theorem V.dptr_iff {l : List PV} {off : Nat} {x : Value} : V w O ι (.dptr l off) x ↔ ∃ b o ys, x = .pointer (some ⟨b, o + off, none⟩) ∧ ¬ O b ∧ CellsAt w b o ys ∧ VL w O iota0 l ys := by simp only [V]
theorem V.own_iff {id ver s off len : Nat} {cap : Option Nat} {x : Value} : V w O ι (.own id ver s off len cap) x ↔ ∃ L c, ι id ver = some L ∧ L.s = s ∧ x = .slice (some ⟨L.b, L.base + off * s, none⟩) len c ∧ L.base + off * s + c * s ≤ L.ce ∧ len ≤ c ∧ (∀ k, cap = some k → c = k) := by simp only [V]
theorem V.dsl_iff {s : Nat} {l : List PV} {cap : Option Nat} {x : Value} : V w O ι (.dsl s l cap) x ↔ ∃ a c, x = .slice a l.length c ∧ l.length ≤ c ∧ (∀ k, cap = some k → c = k) ∧ (l = [] ∨ ∃ b o, a = some ⟨b, o, none⟩ ∧ ¬ O b ∧ VE w O iota0 s b o l) := by simp only [V]
theorem V.clo_iff {f : FuncId} {a l : List PV} {x : Value} : V w O ι (.clo f a l) x ↔ ∃ ys xs, x = .func (.func f) ys xs ∧ VL w O ι a ys.toList ∧ VL w O ι l xs.toList := by simp only [V]

theorem fieldAddrA_sound {t : TypeId} {x : Operand} {i : Nat} {p : PV} (hE : ∀ x q, evO cfg env x = some q → V w O ι q (ρ x)) (h : fieldAddrA cfg env t x i = some p) :
    ∃ y, (Instr.fieldAt t (ρ x) i).run cfg.P w = .ok y w ∧ V w O ι p y := by
  unfold fieldAddrA at h
  split at h
  · rename_i fields hu
    split at h
    · rename_i f hf
      split at h
      · cases h
      · cases h
      · rename_i n hn0 hn
        have hne : n ≠ 0 := hn0
        split at h
        · rename_i id ver idx off hx
          cases h
          obtain ⟨L, hL, hxx⟩ := V.ptr_iff.1 (hE x _ hx)
          refine ⟨.pointer (some ⟨L.b, L.base + idx * L.s + (off + f.offset), none⟩), ?_, V.ptr_iff.2 ⟨L, hL, rfl⟩⟩
          simp [Instr.fieldAt, run_underlying hu, hf, hxx, Instr.sureAddr, fieldPlace, run_sizeOf hn, hne, Addr.add_mid, Nat.add_assoc]
        · rename_i l off hx
          cases h
          obtain ⟨b, o, ys, hxx, r⟩ := V.dptr_iff.1 (hE x _ hx)
          refine ⟨.pointer (some ⟨b, o + (off + f.offset), none⟩), ?_, V.dptr_iff.2 ⟨b, o, ys, rfl, r⟩⟩
          simp [Instr.fieldAt, run_underlying hu, hf, hxx, Instr.sureAddr, fieldPlace, run_sizeOf hn, hne, Addr.add_mid, Nat.add_assoc]
        · cases h
    · cases h
  · cases h

theorem natLit_spec {x : Option PV} {n : Nat} (h : natLit x = some n) : ∃ k, x = some (.lit (.int k n)) := by
  unfold natLit at h
  split at h <;> cases h
  rename_i k
  exact ⟨k, rfl⟩

theorem nat_operand {x : Operand} {n : Nat} (hE : ∀ x q, evO cfg env x = some q → V w O ι q (ρ x)) (h : natLit (evO cfg env x) = some n) : ∃ k, ρ x = .int k n := by
  obtain ⟨k, hk⟩ := natLit_spec h
  exact ⟨k, V.lit_iff.1 (hE x _ hk)⟩

theorem indexAddrA_sound {t : TypeId} {x ix : Operand} {p : PV} (hE : ∀ x q, evO cfg env x = some q → V w O ι q (ρ x)) (h : indexAddrA cfg env t x ix = some p) :
    ∃ y, (Instr.indexAt t (ρ x) (ρ ix)).run cfg.P w = .ok y w ∧ V w O ι p y := by
  unfold indexAddrA at h
  split at h
  · cases h
  rename_i i hi
  obtain ⟨k, hk⟩ := nat_operand hE hi
  split at h
  · rename_i elem hu
    split at h
    · rename_i sz hsz
      split at h
      · rename_i id ver s off len cap hx
        split at h <;> cases h
        rename_i hc
        obtain ⟨hlt, rfl⟩ := hc
        obtain ⟨L, c, hL, hs, hxx, _⟩ := V.own_iff.1 (hE x _ hx)
        refine ⟨.pointer (some ⟨L.b, L.base + (off + i) * L.s + 0, none⟩), ?_, V.ptr_iff.2 ⟨L, hL, rfl⟩⟩
        simp [Instr.indexAt, hk, asIntOf, run_underlying hu, hxx, hlt, run_sizeOf hsz, Addr.add_mid, hs, Nat.add_mul, Nat.add_assoc]
      · rename_i s l cap hx
        split at h <;> try cases h
        rename_i hs
        subst hs
        split at h <;> cases h
        rename_i q hq
        obtain ⟨a, c, hxx, _, _, hr⟩ := V.dsl_iff.1 (hE x _ hx)
        have hlt : i < l.length := (List.getElem?_eq_some_iff.1 hq).1
        rcases hr with rfl | ⟨b, o, rfl, hO, hVE⟩
        · simp at hlt
        obtain ⟨y, hy, hys, hc⟩ := hVE.get i q hq
        refine ⟨.pointer (some ⟨b, o + i * s + 0, none⟩), ?_, V.dptr_iff.2 ⟨b, o + i * s, _, rfl, hO, hc, hy.cells⟩⟩
        simp [Instr.indexAt, hk, asIntOf, run_underlying hu, hxx, hlt, run_sizeOf hsz, Addr.add_mid]
      · cases h
    · cases h
  · rename_i n elem hu
    split at h
    · rename_i sz hsz
      split at h <;> try cases h
      rename_i hlt
      split at h
      · rename_i id ver idx off hx
        cases h
        obtain ⟨L, hL, hxx⟩ := V.ptr_iff.1 (hE x _ hx)
        refine ⟨.pointer (some ⟨L.b, L.base + idx * L.s + (off + i * sz), none⟩), ?_, V.ptr_iff.2 ⟨L, hL, rfl⟩⟩
        simp [Instr.indexAt, hk, asIntOf, run_underlying hu, hxx, hlt, run_sizeOf hsz, Instr.sureAddr, Addr.add_mid, Nat.add_assoc]
      · rename_i l off hx
        cases h
        obtain ⟨b, o, ys, hxx, r⟩ := V.dptr_iff.1 (hE x _ hx)
        refine ⟨.pointer (some ⟨b, o + (off + i * sz), none⟩), ?_, V.dptr_iff.2 ⟨b, o, ys, rfl, r⟩⟩
        simp [Instr.indexAt, hk, asIntOf, run_underlying hu, hxx, hlt, run_sizeOf hsz, Instr.sureAddr, Addr.add_mid, Nat.add_assoc]
      · cases h
    · cases h
  · cases h

/-- An operand that may be left out. -/
theorem optNat_spec {x : Option Operand} {n : Option Nat} (hE : ∀ x q, evO cfg env x = some q → V w O ι q (ρ x)) (h : optNat cfg env x = some n) :
    (x = none ∧ n = none) ∨ ∃ y m k, x = some y ∧ n = some m ∧ ρ y = .int k m := by
  unfold optNat at h
  split at h
  · cases h; exact .inl ⟨rfl, rfl⟩
  · split at h <;> cases h
    rename_i y _ m hm
    obtain ⟨k, hk⟩ := nat_operand hE hm
    exact .inr ⟨y, m, k, rfl, rfl, hk⟩

theorem run_bound {P : Program} {k : IntKind} {i y : Nat} {code : BoundsCode} (h : i ≤ y) (w : World) : (Instr.sliceBound (.int k i) y code).run P w = .ok i w := by
  simp [Instr.sliceBound, asIntOf, h]

/-- The machine's slicing, its bounds given. -/
theorem run_sliceGen {P : Program} {t elem : TypeId} {sz : Nat} {a : Option Addr} {len cap : Nat} {lo hi mx : Option Value} {l h m : Nat} (hu : P.underlying t = some (.slice elem)) (hsz : szO P elem = some sz)
    (hlo : (lo = none ∧ l = 0) ∨ ∃ k, lo = some (.int k l)) (hhi : (hi = none ∧ h = len ∧ mx = none) ∨ ∃ k, hi = some (.int k h)) (hmx : (mx = none ∧ m = cap) ∨ ∃ k, mx = some (.int k m))
    (h1 : l ≤ h) (h2 : h ≤ m) (h3 : m ≤ cap) :
    (Instr.sliceAt t (.slice a len cap) lo hi mx).run P w = .ok (.slice (if m = l then a else a.map (·.add (l * sz))) (h - l) (m - l)) w := by
  have hb : (Instr.sliceBounds true len cap lo hi mx).run P w = .ok (l, h, m) w := by
    unfold Instr.sliceBounds
    rcases hlo with ⟨hl, hl'⟩ | ⟨kl, hl⟩ <;> rcases hhi with ⟨hh, hh', hh''⟩ | ⟨kh, hh⟩ <;> rcases hmx with ⟨hm, hm'⟩ | ⟨km, hm⟩ <;> simp_all [run_bound]
  simp [Instr.sliceAt, Instr.slice, run_underlying hu, hb, run_sizeOf hsz]

theorem sliceA_sound {t : TypeId} {x : Operand} {lo hi mx : Option Operand} {p : PV} (hE : ∀ x q, evO cfg env x = some q → V w O ι q (ρ x)) (h : sliceA cfg env t x lo hi mx = some p) :
    ∃ y, (Instr.sliceAt t (ρ x) (lo.map ρ) (hi.map ρ) (mx.map ρ)).run cfg.P w = .ok y w ∧ V w O ι p y := by
  unfold sliceA at h
  split at h
  · rename_i id ver s off len cap lo' hi' mx' hx hlo hhi hmx
    split at h
    · rename_i elem hu
      simp only at h
      split at h <;> try cases h
      rename_i hc
      obtain ⟨hsz, h1, h2⟩ := hc
      obtain ⟨L, c, hL, hs, hxx, hce, hlc, hk⟩ := V.own_iff.1 (hE x _ hx)
      have Hlo : (lo.map ρ = none ∧ lo'.getD 0 = 0) ∨ ∃ k, lo.map ρ = some (.int k (lo'.getD 0 : Nat)) := by
        rcases optNat_spec hE hlo with ⟨rfl, rfl⟩ | ⟨y, m, k, rfl, rfl, hy⟩
        · exact .inl ⟨rfl, rfl⟩
        · exact .inr ⟨k, by simp [hy]⟩
      rw [hxx]
      split at h
      · rename_i m
        split at h <;> try cases h
        rename_i hc
        obtain ⟨hhs, h3, h4⟩ := hc
        have Hhi : ∃ k, hi.map ρ = some (.int k (hi'.getD len : Nat)) := by
          rcases optNat_spec hE hhi with ⟨rfl, rfl⟩ | ⟨y, m, k, rfl, rfl, hy⟩
          · cases hhs
          · exact ⟨k, by simp [hy]⟩
        have Hmx : ∃ k, mx.map ρ = some (.int k (m : Nat)) := by
          rcases optNat_spec hE hmx with ⟨_, h⟩ | ⟨y, m', k, rfl, h, hy⟩
          · cases h
          · cases h; exact ⟨k, by simp [hy]⟩
        refine ⟨_, run_sliceGen (m := m) hu hsz Hlo (.inr Hhi) (.inr Hmx) h1 h3 (by omega), ?_⟩
        split at h
        · rename_i e
          cases h
          rw [if_pos e]
          refine V.own_iff.2 ⟨L, 0, hL, hs, ?_, by omega, by omega, by simp⟩
          rw [show hi'.getD len - lo'.getD 0 = 0 by omega, show m - lo'.getD 0 = 0 by omega]
        · rename_i e
          cases h
          rw [if_neg e]
          refine V.own_iff.2 ⟨L, m - lo'.getD 0, hL, hs, ?_, ?_, by omega, by simp⟩
          · simp [Addr.add_mid, Nat.add_mul, Nat.add_assoc]
          · have : (off + lo'.getD 0) * s + (m - lo'.getD 0) * s ≤ off * s + c * s := by
              rw [← Nat.add_mul, ← Nat.add_mul]
              exact Nat.mul_le_mul_right _ (by omega)
            omega
      · have Hmx : mx.map ρ = none := by
          rcases optNat_spec hE hmx with ⟨rfl, _⟩ | ⟨y, m', k, _, h, _⟩
          · rfl
          · cases h
        have Hhi : (hi.map ρ = none ∧ hi'.getD len = len ∧ mx.map ρ = none) ∨ ∃ k, hi.map ρ = some (.int k (hi'.getD len : Nat)) := by
          rcases optNat_spec hE hhi with ⟨rfl, rfl⟩ | ⟨y, m, k, rfl, rfl, hy⟩
          · exact .inl ⟨rfl, rfl, Hmx⟩
          · exact .inr ⟨k, by simp [hy]⟩
        refine ⟨_, run_sliceGen (m := c) hu hsz Hlo Hhi (.inl ⟨Hmx, rfl⟩) h1 (by omega) (Nat.le_refl _), ?_⟩
        split at h
        · rename_i e
          cases h
          refine V.own_iff.2 ⟨L, c, hL, hs, ?_, hce, by omega, hk⟩
          rw [e]
          split <;> simp [Addr.add_mid]
        · rename_i e
          split at h
          · rename_i e2
            cases h
            rw [if_neg (by omega)]
            refine V.own_iff.2 ⟨L, c - lo'.getD 0, hL, hs, ?_, ?_, by omega, ?_⟩
            · simp [Addr.add_mid, Nat.add_mul, Nat.add_assoc]
            · have : (off + lo'.getD 0) * s + (c - lo'.getD 0) * s ≤ off * s + c * s := by
                rw [← Nat.add_mul, ← Nat.add_mul]
                exact Nat.mul_le_mul_right _ (by omega)
              omega
            · intro k hk'
              simp only [Option.map_eq_some_iff] at hk'
              obtain ⟨k', hk1, rfl⟩ := hk'
              rw [hk k' hk1]
          · rename_i e2
            cases h
            rw [show hi'.getD len - lo'.getD 0 = 0 by omega]
            refine V.dsl_iff.2 ⟨_, c - lo'.getD 0, rfl, by simp, ?_, .inl rfl⟩
            intro k hk
            cases hk
    · cases h
  · rename_i s l0 cap0 lo' hi' mx' hx hlo hhi hmx
    split at h
    · rename_i elem hu
      simp only at h
      split at h <;> try cases h
      rename_i hc
      obtain ⟨hsz, h1, h2⟩ := hc
      obtain ⟨a, c, hxx, hlc, hk, hr⟩ := V.dsl_iff.1 (hE x _ hx)
      have Hlo : (lo.map ρ = none ∧ lo'.getD 0 = 0) ∨ ∃ k, lo.map ρ = some (.int k (lo'.getD 0 : Nat)) := by
        rcases optNat_spec hE hlo with ⟨rfl, rfl⟩ | ⟨y, m, k, rfl, rfl, hy⟩
        · exact .inl ⟨rfl, rfl⟩
        · exact .inr ⟨k, by simp [hy]⟩
      have fin : ∀ m, hi'.getD l0.length ≤ m → m ≤ c → ∀ cap', (∀ k, cap' = some k → m - lo'.getD 0 = k) →
          V w O ι (.dsl s ((l0.drop (lo'.getD 0)).take (hi'.getD l0.length - lo'.getD 0)) cap') (.slice (if m = lo'.getD 0 then a else a.map (·.add (lo'.getD 0 * s))) (hi'.getD l0.length - lo'.getD 0) (m - lo'.getD 0)) := by
        intro m hm1 hm2 cap' hcap'
        have hlen : ((l0.drop (lo'.getD 0)).take (hi'.getD l0.length - lo'.getD 0)).length = hi'.getD l0.length - lo'.getD 0 := by simp; omega
        refine V.dsl_iff.2 ⟨_, _, by rw [hlen], by rw [hlen]; omega, fun k hk => hcap' k hk, ?_⟩
        by_cases hem : hi'.getD l0.length - lo'.getD 0 = 0
        · left; rw [hem]; simp
        · right
          rcases hr with rfl | ⟨b, o, rfl, hO, hVE⟩
          · exfalso
            have h2' : hi'.getD ([] : List PV).length ≤ 0 := h2
            exact hem (by omega)
          · rw [if_neg (by omega)]
            exact ⟨b, o + lo'.getD 0 * s, by simp [Addr.add_mid], hO, (hVE.drop _).take _⟩
      rw [hxx]
      split at h
      · rename_i m
        split at h <;> try cases h
        rename_i hc
        obtain ⟨hhs, h3, h4⟩ := hc
        have Hhi : ∃ k, hi.map ρ = some (.int k (hi'.getD l0.length : Nat)) := by
          rcases optNat_spec hE hhi with ⟨rfl, rfl⟩ | ⟨y, m, k, rfl, rfl, hy⟩
          · cases hhs
          · exact ⟨k, by simp [hy]⟩
        have Hmx : ∃ k, mx.map ρ = some (.int k (m : Nat)) := by
          rcases optNat_spec hE hmx with ⟨_, h⟩ | ⟨y, m', k, rfl, h, hy⟩
          · cases h
          · cases h; exact ⟨k, by simp [hy]⟩
        exact ⟨_, run_sliceGen (m := m) hu hsz Hlo (.inr Hhi) (.inr Hmx) h1 h3 (by omega), fin m h3 (by omega) _ (by simp)⟩
      · cases h
        have Hmx : mx.map ρ = none := by
          rcases optNat_spec hE hmx with ⟨rfl, _⟩ | ⟨y, m', k, _, h, _⟩
          · rfl
          · cases h
        have Hhi : (hi.map ρ = none ∧ hi'.getD l0.length = l0.length ∧ mx.map ρ = none) ∨ ∃ k, hi.map ρ = some (.int k (hi'.getD l0.length : Nat)) := by
          rcases optNat_spec hE hhi with ⟨rfl, rfl⟩ | ⟨y, m, k, rfl, rfl, hy⟩
          · exact .inl ⟨rfl, rfl, Hmx⟩
          · exact .inr ⟨k, by simp [hy]⟩
        exact ⟨_, run_sliceGen (m := c) hu hsz Hlo Hhi (.inl ⟨Hmx, rfl⟩) h1 (by omega) (Nat.le_refl _), fin c (by omega) (Nat.le_refl _) _ (fun k hk => by cases hk)⟩
    · cases h
  · rename_i id ver idx off lo' hi' hx hlo hhi hmx
    split at h
    · rename_i n elem hu
      simp only at h
      split at h <;> cases h
      rename_i hc
      obtain ⟨hsz, h1, h2, h3⟩ := hc
      obtain ⟨L, hL, hxx⟩ := V.ptr_iff.1 (hE x _ hx)
      have Hlo : (lo.map ρ = none ∧ lo'.getD 0 = 0) ∨ ∃ k, lo.map ρ = some (.int k (lo'.getD 0 : Nat)) := by
        rcases optNat_spec hE hlo with ⟨rfl, rfl⟩ | ⟨y, m, k, rfl, rfl, hy⟩
        · exact .inl ⟨rfl, rfl⟩
        · exact .inr ⟨k, by simp [hy]⟩
      have Hmx : mx.map ρ = none := by
        rcases optNat_spec hE hmx with ⟨rfl, _⟩ | ⟨y, m', k, _, h, _⟩
        · rfl
        · cases h
      have Hhi : (hi.map ρ = none ∧ hi'.getD n = n) ∨ ∃ k, hi.map ρ = some (.int k (hi'.getD n : Nat)) := by
        rcases optNat_spec hE hhi with ⟨rfl, rfl⟩ | ⟨y, m, k, rfl, rfl, hy⟩
        · exact .inl ⟨rfl, rfl⟩
        · exact .inr ⟨k, by simp [hy]⟩
      have hb : (Instr.sliceBounds false n n (lo.map ρ) (hi.map ρ) (mx.map ρ)).run cfg.P w = .ok (lo'.getD 0, hi'.getD n, n) w := by
        unfold Instr.sliceBounds
        rw [Hmx]
        rcases Hlo with ⟨hl, hl'⟩ | ⟨kl, hl⟩ <;> rcases Hhi with ⟨hh, hh'⟩ | ⟨kh, hh⟩ <;> rw [hl, hh]
        · simp [hl', hh']
        · simp [run_bound h2, hl']
        · simp [hh', hh' ▸ h1, run_bound]
        · simp [run_bound h1, run_bound h2]
      refine ⟨.slice (some ⟨L.b, L.base + idx * L.s + (off + lo'.getD 0), none⟩) (hi'.getD n - lo'.getD 0) (n - lo'.getD 0), ?_, by simp only [V]; exact ⟨L, _, hL, rfl⟩⟩
      rw [hxx]
      have hne : ¬ n = lo'.getD 0 := by omega
      simp [Instr.sliceAt, run_underlying hu, Instr.sureAddr, hb, run_sizeOf hsz, hne, Addr.add_mid, Nat.add_assoc]
    · cases h
  · cases h
end
end Go.Proofs.YtddaogebacigbaaGreatDoor.RV
