/- A part of the evaluator over abstract values, and that it is right (RvI). Conditions: none. -/
import Derived.Test.YtddaogebacigbaaGreatDoorRvH
import Derived.Laws.BytesString
set_option linter.constructorNameAsVariable false
namespace Go.Proofs.YtddaogebacigbaaGreatDoor.RV
open Go.RowKit (Below)

section
variable {cfg : Cfg} {O0 : Nat → Prop} {ι : Iota} {H : Heap} {w : World} {env : Env} {ρ : Operand → Value}

theorem obj_spec {id ver : Nat} {o : HObj} (h : obj H id ver = some o) : H.get id = some (ver, o) := by
  unfold obj at h
  split at h
  · rename_i v o' hg
    split at h <;> cases h
    rename_i hv
    rw [hg, hv]
  · cases h

theorem loadA_sound {t : TypeId} {p q : PV} {x : Value} (hI : Inv cfg O0 ι H w) (hx : V w (Owns O0 ι H) ι q x) (h : loadA cfg.P H t q = some p) :
    ∃ a y, x = .pointer (some a) ∧ (loadVar t a).run cfg.P w = .ok y w ∧ V w (Owns O0 ι H) ι p y := by
  unfold loadA at h
  split at h
  · rename_i id ver idx off
    split at h
    · rename_i s l live ho
      split at h
      · rename_i e he
        obtain ⟨L, hL, hxx⟩ := V.ptr_iff.1 hx
        obtain ⟨L', hL', hs, _, _, hVE, _⟩ := hI.obj _ _ _ (obj_spec ho)
        rw [hL] at hL'
        cases hL'
        obtain ⟨y, hy, _, hc⟩ := hVE.get idx e he
        rw [← hs] at hc
        obtain ⟨z, hz, hv⟩ := load_at hc hy.cells h
        exact ⟨_, z, hxx, hz, hv⟩
      · cases h
    · cases h
  · rename_i l off
    obtain ⟨b, o, ys, hxx, _, hc, hl⟩ := V.dptr_iff.1 hx
    obtain ⟨z, hz, hv⟩ := load_at hc hl h
    exact ⟨_, z, hxx, hz, hv.lift⟩
  · cases h

theorem run_loadAt {P : Program} {t : TypeId} {a : Addr} {y : Value} (h : (loadVar t a).run P w = .ok y w) : (Instr.loadAt t (.pointer (some a))).run P w = .ok y w := by
  simp [Instr.loadAt, Instr.sureAddr, h]

/-! ### Bytes to a string -/
theorem bytesOf_vals {O : Nat → Prop} : ∀ {l : List PV} {xs : List Value} {bs : List UInt8}, VL w O ι l xs → bytesOf l = some bs → ∃ ns : List Int, xs = ns.map (Value.int .u8) ∧ bs = ns.map (fun n => UInt8.ofNat n.toNat)
  | [], xs, bs, hl, h => by
    rw [VL.nil_iff] at hl
    simp only [bytesOf, Option.some.injEq] at h
    subst hl; subst h
    exact ⟨[], rfl, rfl⟩
  | p :: ps, xs, bs, hl, h => by
    obtain ⟨y, ys, rfl, hy, hs⟩ := VL.cons_iff.1 hl
    unfold bytesOf at h
    split at h
    · rename_i n
      split at h <;> cases h
      rename_i cs hcs
      obtain rfl := V.lit_iff.1 hy
      obtain ⟨ns, rfl, rfl⟩ := bytesOf_vals hs hcs
      exact ⟨n :: ns, rfl, rfl⟩
    · cases h

theorem foldl_push (f : Int → UInt8) : ∀ (ns : List Int) (acc : ByteArray), ns.foldl (fun r n => r.push (f n)) acc = ⟨(acc.data.toList ++ ns.map f).toArray⟩
  | [], acc => by simp
  | n :: ns, acc => by rw [List.foldl_cons, foldl_push f ns]; simp [ByteArray.push]

theorem cellsOf_VE1 {O : Nat → Prop} {b : Nat} : ∀ {l : List PV} {o : Nat} {bs : List UInt8}, VE w O ι 1 b o l → bytesOf l = some bs → ∃ ys, VL w O ι l ys ∧ (l = [] ∨ CellsAt w b o ys)
  | [], o, bs, _, _ => ⟨[], VL.nil_iff.2 rfl, .inl rfl⟩
  | p :: ps, o, bs, h, hb => by
    obtain ⟨⟨y, hy, hys, hc⟩, hs⟩ := VE.cons_iff.1 h
    unfold bytesOf at hb
    split at hb
    · rename_i n
      split at hb <;> cases hb
      rename_i cs hcs
      obtain rfl := V.lit_iff.1 hy
      obtain ⟨ys, hl, hr⟩ := cellsOf_VE1 hs hcs
      refine ⟨.int .u8 n :: ys, VL.cons hy hl, .inr ?_⟩
      obtain ⟨cs1, t, fz, hbk, hget⟩ := hc
      refine ⟨cs1, t, fz, hbk, fun i z hz => ?_⟩
      cases i with
      | zero => exact hget 0 z (by simpa [Value.cells] using hz)
      | succ i =>
        rcases hr with rfl | ⟨cs2, t2, fz2, hbk2, hget2⟩
        · rw [VL.nil_iff] at hl; subst hl; simp at hz
        · rw [hbk] at hbk2
          cases hbk2
          rw [show o + (i + 1) = o + 1 + i by omega]
          exact hget2 i z (by simpa using hz)
    · cases hb

theorem run_bytesToStringC {O : Nat → Prop} {P : Program} {l : List PV} {ys : List Value} {bs : List UInt8} {b o c : Nat} (hl : VL w O ι l ys) (hr : l = [] ∨ CellsAt w b o ys) (h : bytesOf l = some bs) :
    (Conv.bytesToString (.slice (some ⟨b, o, none⟩) l.length c)).run P w = .ok (.string ⟨bs.toArray⟩) w := by
  have hload : (loadCells ⟨b, o, none⟩ l.length).run P w = .ok ys.toArray w := by
    rw [← hl.length]
    refine run_loadCells_list (P := P) w _ ys (fun j v hv => ?_)
    rcases hr with rfl | ⟨cs, t, fz, hbk, hget⟩
    · rw [VL.nil_iff] at hl; subst hl; simp at hv
    · rw [Addr.add_mid, cell_of_row w b _ cs t fz hbk]
      exact hget j v hv
  obtain ⟨ns, rfl, rfl⟩ := bytesOf_vals hl h
  rw [Go.run_bytesToString w _ _ _ ns hload, foldl_push]
  rfl

theorem run_bytesToString {O : Nat → Prop} {P : Program} {l : List PV} {bs : List UInt8} {b o c : Nat} (hVE : VE w O ι 1 b o l) (h : bytesOf l = some bs) :
    (Conv.bytesToString (.slice (some ⟨b, o, none⟩) l.length c)).run P w = .ok (.string ⟨bs.toArray⟩) w := by
  obtain ⟨ys, hl, hr⟩ := cellsOf_VE1 hVE h
  exact run_bytesToStringC hl hr h
end
end Go.Proofs.YtddaogebacigbaaGreatDoor.RV
