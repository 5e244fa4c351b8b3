/- A part of the evaluator over abstract values, and that it is right (RvD). Conditions: none. -/
import Derived.Test.YtddaogebacigbaaGreatDoorRvC
set_option linter.constructorNameAsVariable false
namespace Go.Proofs.YtddaogebacigbaaGreatDoor.RV
open Go.RowKit (Below)

def Own (ι : Iota) (H : Heap) (b : Nat) : Prop := ∃ id ver o L, H.get id = some (ver, o) ∧ o.live = true ∧ ι id ver = some L ∧ L.b = b
def Owns (O0 : Nat → Prop) (ι : Iota) (H : Heap) (b : Nat) : Prop := O0 b ∨ Own ι H b

def ObjR (w : World) (O : Nat → Prop) (ι : Iota) (L : Loc) : HObj → Prop
  | .blk s l live => L.s = s ∧ (∃ cs t fz, w.heap[L.b]? = some (.cells cs t fz) ∧ L.ce ≤ cs.size ∧ (∀ i, fz.1 ≤ i → i < fz.2 → L.ce ≤ i)) ∧ L.base + l.length * s ≤ L.ce ∧ VE w O ι s L.b L.base l ∧ (live = false → ¬ O L.b)
  | .str s pos => w.heap[L.b]? = some (.stringIter s pos)
  | .mp ks vs bs clock => ∃ ents, w.heap[L.b]? = some (.map ents clock) ∧ ks = ents.toList.map (·.key) ∧ bs = ents.toList.map (·.born) ∧ VL w O ι vs (ents.toList.map (·.val))
  | .mit m since seen stepped => ∃ mr, w.heap[L.b]? = some (.mapIter mr since seen.toArray stepped) ∧ V w O ι m (.map mr)

theorem ObjR.lt {w : World} {O : Nat → Prop} {ι : Iota} {L : Loc} {o : HObj} (h : ObjR w O ι L o) : L.b < w.heap.size := by
  cases o with
  | blk s l live => obtain ⟨_, ⟨cs, t, fz, h, _⟩, _⟩ := h; exact (Array.getElem?_eq_some_iff.1 h).1
  | str s pos => exact (Array.getElem?_eq_some_iff.1 h).1
  | mp ks vs bs clock => obtain ⟨_, h, _⟩ := h; exact (Array.getElem?_eq_some_iff.1 h).1
  | mit m since seen stepped => obtain ⟨_, h, _⟩ := h; exact (Array.getElem?_eq_some_iff.1 h).1

theorem ObjR.mono {w w' : World} {O O' : Nat → Prop} {ι ι' : Iota} {L : Loc} {o : HObj} (h : ObjR w O ι L o) (he : Ext w O ι w' O' ι') (hb : w'.heap[L.b]? = w.heap[L.b]?) : ObjR w' O' ι' L o := by
  have hlt := h.lt
  cases o with
  | blk s l live =>
    obtain ⟨hs, ⟨cs, t, fz, hc, h1, h2⟩, h3, h4, h5⟩ := h
    exact ⟨hs, ⟨cs, t, fz, hb.trans hc, h1, h2⟩, h3, VE.mono he hb l _ h4, fun hl => (he.block _ hlt (h5 hl)).1⟩
  | str s pos => exact hb.trans h
  | mp ks vs bs clock =>
    obtain ⟨ents, h, h1, h2, h3⟩ := h
    exact ⟨ents, hb.trans h, h1, h2, VL.mono he _ _ h3⟩
  | mit m since seen stepped =>
    obtain ⟨mr, h, h1⟩ := h
    exact ⟨mr, hb.trans h, V.mono he _ _ h1⟩

structure Inv (cfg : Cfg) (O0 : Nat → Prop) (ι : Iota) (H : Heap) (w : World) : Prop where
  obj : ∀ id ver o, H.get id = some (ver, o) → ∃ L, ι id ver = some L ∧ ObjR w (Owns O0 ι H) ι L o
  inj : ∀ id id' ver ver' o o' L L', H.get id = some (ver, o) → H.get id' = some (ver', o') → o.live = true → o'.live = true → ι id ver = some L → ι id' ver' = some L' → L.b = L'.b → id = id'
  foreign : ∀ b, O0 b → b < w.heap.size ∧ ¬ Own ι H b
  glob : ∀ g l, cfg.glob g = some l → V w (Owns O0 ι H) iota0 (.dptr l 0) (.pointer (some ⟨g, 0, none⟩))
  fresh : ∀ id v L, ι id v = some L → ∃ ver o, H.get id = some (ver, o) ∧ v ≤ ver
  low : ∀ b, b < cfg.gl → b < w.heap.size ∧ ¬ Owns O0 ι H b
  ginv : cfg.ginv w

/-- What one step may do to the world. -/
structure Step (ι : Iota) (H : Heap) (w : World) (ι' : Iota) (H' : Heap) (w' : World) : Prop where
  iota : ∀ id ver L, ι id ver = some L → ι' id ver = some L
  os : w'.os = w.os
  tape : w'.tape = w.tape
  output : w'.output = w.output
  size : w.heap.size ≤ w'.heap.size
  keep : ∀ b, b < w.heap.size → ¬ Own ι H b → w'.heap[b]? = w.heap[b]?
  grow : ∀ b, Own ι' H' b → Own ι H b ∨ w.heap.size ≤ b

theorem Step.refl {ι : Iota} {H : Heap} {w : World} : Step ι H w ι H w := ⟨fun _ _ _ h => h, rfl, rfl, rfl, Nat.le_refl _, fun _ _ _ => rfl, fun _ h => .inl h⟩
theorem Step.trans {ι ι' ι'' : Iota} {H H' H'' : Heap} {w w' w'' : World} (h : Step ι H w ι' H' w') (k : Step ι' H' w' ι'' H'' w'') : Step ι H w ι'' H'' w'' where
  iota := fun id ver L hL => k.iota _ _ _ (h.iota _ _ _ hL)
  os := k.os.trans h.os
  tape := k.tape.trans h.tape
  output := k.output.trans h.output
  size := Nat.le_trans h.size k.size
  keep := fun b hb ho => (k.keep b (Nat.lt_of_lt_of_le hb h.size) (fun hx => (h.grow b hx).elim ho (fun hy => by omega))).trans (h.keep b hb ho)
  grow := fun b hb => (k.grow b hb).elim (fun hx => h.grow b hx) (fun hx => .inr (Nat.le_trans h.size hx))

/-- Nothing but new blocks, and draws. -/
structure Grown (w w' : World) : Prop where
  os : w'.os = w.os
  tape : w'.tape = w.tape
  output : w'.output = w.output
  size : w.heap.size ≤ w'.heap.size
  block : ∀ b, b < w.heap.size → w'.heap[b]? = w.heap[b]?
theorem Grown.refl {w : World} : Grown w w := ⟨rfl, rfl, rfl, Nat.le_refl _, fun _ _ => rfl⟩
theorem Grown.alloc (w : World) (o : Obj) : Grown w (w.alloc o) := ⟨rfl, rfl, rfl, by simp, fun b hb => heap_alloc_old w o b hb⟩
theorem Grown.of_below {w w' : World} (h : Below w.heap.size w w') : Grown w w' := ⟨h.os, h.tape, h.output, h.size, h.block⟩
theorem Grown.below {w w' : World} (h : Grown w w') : Below w.heap.size w w' := ⟨h.os, h.tape, h.output, h.size, h.block⟩
theorem Grown.step {w w' : World} (h : Grown w w') {ι : Iota} {H : Heap} : Step ι H w ι H w' := ⟨fun _ _ _ h => h, h.os, h.tape, h.output, h.size, fun b hb _ => h.block b hb, fun _ h => .inl h⟩
theorem Grown.ext {w w' : World} (h : Grown w w') {O : Nat → Prop} {ι : Iota} : Ext w O ι w' O ι := ⟨fun b hb hO => ⟨hO, h.block b hb⟩, fun _ _ _ h => h⟩
theorem Grown.trans {w w' w'' : World} (h : Grown w w') (k : Grown w' w'') : Grown w w'' := ⟨k.os.trans h.os, k.tape.trans h.tape, k.output.trans h.output, Nat.le_trans h.size k.size, fun b hb => (k.block b (Nat.lt_of_lt_of_le hb h.size)).trans (h.block b hb)⟩

section
variable {cfg : Cfg} {O0 : Nat → Prop} {ι : Iota} {H : Heap} {w w' : World}

theorem Inv.own_lt (hI : Inv cfg O0 ι H w) {b : Nat} (h : Own ι H b) : b < w.heap.size := by
  obtain ⟨id, ver, o, L, hg, hl, hL, rfl⟩ := h
  obtain ⟨L', hL', ho⟩ := hI.obj id ver o hg
  rw [hL] at hL'
  cases hL'
  exact ho.lt

theorem Inv.owns_lt (hI : Inv cfg O0 ι H w) {b : Nat} (h : Owns O0 ι H b) : b < w.heap.size := h.elim (fun h => (hI.foreign b h).1) hI.own_lt

theorem Step.ext {ι' : Iota} {H' : Heap} (h : Step ι H w ι' H' w') : Ext w (Owns O0 ι H) ι w' (Owns O0 ι' H') ι' :=
  ⟨fun b hb hO => ⟨fun hx => hx.elim (fun h0 => hO (.inl h0)) (fun h1 => (h.grow b h1).elim (fun h2 => hO (.inr h2)) (fun h3 => by omega)), h.keep b hb (fun hx => hO (.inr hx))⟩, h.iota⟩

theorem Inv.grown (hI : Inv cfg O0 ι H w) (h : Grown w w') : Inv cfg O0 ι H w' where
  obj := fun id ver o hg => by
    obtain ⟨L, hL, ho⟩ := hI.obj id ver o hg
    exact ⟨L, hL, ho.mono h.ext (h.block _ ho.lt)⟩
  inj := hI.inj
  foreign := fun b hb => ⟨Nat.lt_of_lt_of_le (hI.foreign b hb).1 h.size, (hI.foreign b hb).2⟩
  glob := fun g l hg => V.mono (h.ext (ι := ι)).iota0 _ _ (hI.glob g l hg)
  fresh := hI.fresh
  low := fun b hb => ⟨Nat.lt_of_lt_of_le (hI.low b hb).1 h.size, (hI.low b hb).2⟩
  ginv := cfg.gst w w' hI.ginv fun b hb => h.block b (hI.low b hb).1

def upd (ι : Iota) (k ver : Nat) (L : Loc) : Iota := fun id v => if id = k ∧ v = ver then some L else ι id v

theorem put_get {α : Type} {t : Tr α} {k : Nat} (x : α) (q : Nat) : (t.put k x).get q = if q = k then some x else t.get q := by
  rw [Tr.put_eq]
  exact Tr.get_set (depth k) t k x q (depth_ok k)

theorem Inv.set {ι' : Iota} {k ver' : Nat} {o' : HObj} {L' : Loc} (hI : Inv cfg O0 ι H w)
    (hι' : ι' = upd ι k ver' L') (hver : ∀ ver o, H.get k = some (ver, o) → ver ≤ ver') (hiota : ∀ L, ι k ver' = some L → L = L')
    (hos : w'.os = w.os) (htape : w'.tape = w.tape) (hout : w'.output = w.output) (hsz : w.heap.size ≤ w'.heap.size)
    (hkeep : ∀ b, b < w.heap.size → b ≠ L'.b → w'.heap[b]? = w.heap[b]?)
    (hL : w.heap.size ≤ L'.b ∨ ∃ ver o L, H.get k = some (ver, o) ∧ o.live = true ∧ ι k ver = some L ∧ L.b = L'.b)
    (hobj : Ext w (Owns O0 ι H) ι w' (Owns O0 ι' (H.put k (ver', o'))) ι' → ObjR w' (Owns O0 ι' (H.put k (ver', o'))) ι' L' o') :
    Inv cfg O0 ι' (H.put k (ver', o')) w' ∧ Step ι H w ι' (H.put k (ver', o')) w' := by
  have hup : ∀ id ver L, ι id ver = some L → ι' id ver = some L := fun id ver L h => by
    subst hι'
    unfold upd
    split
    · rename_i hc
      obtain ⟨rfl, rfl⟩ := hc
      rw [hiota L h]
    · exact h
  have hnew : ι' k ver' = some L' := by subst hι'; simp [upd]
  have hother : ∀ id ver, id ≠ k → ι' id ver = ι id ver := fun id ver h => by subst hι'; simp [upd, h]
  have hLown : ∀ b, b < w.heap.size → b = L'.b → Own ι H b := fun b hb e => by
    rcases hL with h | ⟨ver, o, L, h1, h2, h3, h4⟩
    · omega
    · exact ⟨k, ver, o, L, h1, h2, h3, h4.trans e.symm⟩
  have hstep : Step ι H w ι' (H.put k (ver', o')) w' := {
    iota := hup
    os := hos, tape := htape, output := hout, size := hsz
    keep := fun b hb ho => hkeep b hb (fun e => ho (hLown b hb e))
    grow := fun b hb => by
      obtain ⟨id, ver, o, L, hg, hl, hι, rfl⟩ := hb
      rw [put_get] at hg
      split at hg
      · rename_i e
        subst e
        cases hg
        rw [hnew] at hι
        cases hι
        rcases hL with h | h
        · exact .inr h
        · obtain ⟨ver, o, L, h1, h2, h3, h4⟩ := h
          exact .inl ⟨_, ver, o, L, h1, h2, h3, h4⟩
      · rename_i e
        rw [hother id ver e] at hι
        exact .inl ⟨id, ver, o, L, hg, hl, hι, rfl⟩ }
  have hext : Ext w (Owns O0 ι H) ι w' (Owns O0 ι' (H.put k (ver', o'))) ι' := hstep.ext
  refine ⟨?_, hstep⟩
  constructor
  · intro id ver o hg
    rw [put_get] at hg
    split at hg
    · rename_i e
      subst e
      cases hg
      exact ⟨L', hnew, hobj hext⟩
    · rename_i e
      obtain ⟨L, hι, ho⟩ := hI.obj id ver o hg
      refine ⟨L, hup _ _ _ hι, ho.mono hext (hkeep _ ho.lt fun hb => ?_)⟩
      have hown : Own ι H L.b := hLown _ ho.lt hb
      by_cases hlv : o.live = true
      · obtain ⟨ver2, o2, L2, h1, h2, h3, h4⟩ : ∃ ver2 o2 L2, H.get k = some (ver2, o2) ∧ o2.live = true ∧ ι k ver2 = some L2 ∧ L2.b = L'.b := by
          rcases hL with h | h
          · exact absurd ho.lt (by omega)
          · exact h
        exact e (hI.inj _ _ _ _ _ _ _ _ hg h1 hlv h2 hι h3 (hb.trans h4.symm))
      · cases o with
        | blk s l live =>
          obtain ⟨_, _, _, _, h5⟩ := ho
          exact h5 (by simpa [HObj.live] using hlv) (.inr hown)
        | _ => simp [HObj.live] at hlv
  · intro id id' ver ver'' o o'' L L'' hg hg' hl hl' hι hι2 hb
    rw [put_get] at hg hg'
    have two : ∀ (id ver : Nat) (o : HObj) (L : Loc), H.get id = some (ver, o) → o.live = true → ι id ver = some L → L.b = L'.b → id ≠ k → False := by
      intro id ver o L hg hl hι hb e
      obtain ⟨L2, hL2, ho⟩ := hI.obj id ver o hg
      rw [hι] at hL2
      cases hL2
      rcases hL with h | ⟨ver2, o2, L2, h1, h2, h3, h4⟩
      · have := ho.lt; omega
      · exact e (hI.inj _ _ _ _ _ _ _ _ hg h1 hl h2 hι h3 (hb.trans h4.symm))
    split at hg
    · rename_i e
      split at hg'
      · rename_i e'; rw [e, e']
      · rename_i e'
        cases hg
        rw [e, hnew] at hι
        cases hι
        rw [hother _ _ e'] at hι2
        exact (two _ _ _ _ hg' hl' hι2 hb.symm e').elim
    · rename_i e
      split at hg'
      · rename_i e'
        cases hg'
        rw [e', hnew] at hι2
        cases hι2
        rw [hother _ _ e] at hι
        exact (two _ _ _ _ hg hl hι hb e).elim
      · rename_i e'
        rw [hother _ _ e] at hι
        rw [hother _ _ e'] at hι2
        exact hI.inj _ _ _ _ _ _ _ _ hg hg' hl hl' hι hι2 hb
  · intro b hb
    obtain ⟨h1, h2⟩ := hI.foreign b hb
    exact ⟨by omega, fun h => (hstep.grow b h).elim h2 (fun h => by omega)⟩
  · intro g l hg
    exact V.mono hext.iota0 _ _ (hI.glob g l hg)
  · intro id v L h
    by_cases e : id = k
    · subst e
      refine ⟨ver', o', by rw [put_get]; simp, ?_⟩
      subst hι'
      unfold upd at h
      split at h
      · rename_i hc; omega
      · obtain ⟨ver, o, h1, h2⟩ := hI.fresh _ _ _ h
        exact Nat.le_trans h2 (hver ver o h1)
    · rw [hother _ _ e] at h
      obtain ⟨ver, o, h1, h2⟩ := hI.fresh _ _ _ h
      exact ⟨ver, o, by rw [put_get, if_neg e]; exact h1, h2⟩
  · intro b hb
    obtain ⟨h1, h2⟩ := hI.low b hb
    exact ⟨by omega, (hext.block b h1 h2).1⟩
  · exact cfg.gst w w' hI.ginv fun b hb => (hext.block b (hI.low b hb).1 (hI.low b hb).2).2

/-- A block is shut: it stays as it is from here on. -/
theorem Inv.shut {k ver s : Nat} {l : List PV} {live : Bool} (hI : Inv cfg O0 ι H w) (hg : H.get k = some (ver, .blk s l live)) :
    Inv cfg O0 ι (H.put k (ver, .blk s l false)) w ∧ Step ι H w ι (H.put k (ver, .blk s l false)) w := by
  have hgrow : ∀ b, Own ι (H.put k (ver, .blk s l false)) b → Own ι H b ∧ ∀ L, ι k ver = some L → L.b ≠ b ∨ live = false := by
    rintro b ⟨id, v, o, L, h1, h2, h3, h4⟩
    rw [put_get] at h1
    split at h1
    · cases h1; simp [HObj.live] at h2
    · rename_i e
      refine ⟨⟨id, v, o, L, h1, h2, h3, h4⟩, fun L' hL' => ?_⟩
      cases hlv : live with
      | false => exact .inr rfl
      | true =>
        refine .inl fun hb => e ?_
        exact hI.inj _ _ _ _ _ _ _ _ h1 hg h2 (by simpa [HObj.live] using hlv) h3 hL' (h4.trans hb.symm)
  have hstep : Step ι H w ι (H.put k (ver, .blk s l false)) w := ⟨fun _ _ _ h => h, rfl, rfl, rfl, Nat.le_refl _, fun _ _ _ => rfl, fun b hb => .inl (hgrow b hb).1⟩
  have hext : Ext w (Owns O0 ι H) ι w (Owns O0 ι (H.put k (ver, .blk s l false))) ι := hstep.ext
  refine ⟨⟨?_, ?_, ?_, ?_, ?_, ?_, ?_⟩, hstep⟩
  · intro id v o h
    rw [put_get] at h
    split at h
    · rename_i e
      subst e
      cases h
      obtain ⟨L, hL, ho⟩ := hI.obj _ _ _ hg
      obtain ⟨h1, h2, h3, h4, h5⟩ := ho.mono hext rfl
      refine ⟨L, hL, h1, h2, h3, h4, fun _ hO => ?_⟩
      rcases hO with hO | hO
      · cases hlv : live with
        | false => exact h5 hlv (.inl hO)
        | true => exact (hI.foreign _ hO).2 ⟨_, ver, _, L, hg, by simpa [HObj.live] using hlv, hL, rfl⟩
      · rcases (hgrow _ hO).2 L hL with h | h
        · exact h rfl
        · exact h5 h (.inr hO)
    · obtain ⟨L, hL, ho⟩ := hI.obj id v o h
      exact ⟨L, hL, ho.mono hext rfl⟩
  · intro id id' v v' o o' L L' h h' hl hl' hι hι' hb
    rw [put_get] at h h'
    split at h
    · cases h; simp [HObj.live] at hl
    · split at h'
      · cases h'; simp [HObj.live] at hl'
      · exact hI.inj _ _ _ _ _ _ _ _ h h' hl hl' hι hι' hb
  · exact fun b hb => ⟨(hI.foreign b hb).1, fun h => (hI.foreign b hb).2 (hgrow b h).1⟩
  · exact fun g l hg => V.mono hext.iota0 _ _ (hI.glob g l hg)
  · intro id v L h
    obtain ⟨ver', o, h1, h2⟩ := hI.fresh _ _ _ h
    by_cases e : id = k
    · subst e
      rw [hg] at h1
      cases h1
      exact ⟨ver, _, by rw [put_get, if_pos rfl], h2⟩
    · exact ⟨ver', o, by rw [put_get, if_neg e]; exact h1, h2⟩
  · exact fun b hb => ⟨(hI.low b hb).1, (hext.block b (hI.low b hb).1 (hI.low b hb).2).1⟩
  · exact hI.ginv

structure Rel (cfg : Cfg) (O0 : Nat → Prop) (ι : Iota) (s : St) (a : Act) (w : World) : Prop where
  inv : Inv cfg O0 ι s.H w
  env : ∀ t, V w (Owns O0 ι s.H) ι (s.env.at t) (a.tmps.getD t undef)
  size : a.tmps.size = s.sz
  sz : s.sz ≤ 8000
  defers : a.defers = []

theorem Rel.setD {s s' : St} {a : Act} {ι' : Iota} {H' : Heap} {m' : Nat} {dst : Option Tmp} {p : PV} {x : Value} (hR : Rel cfg O0 ι s a w) (hs : Step ι s.H w ι' H' w') (hI : Inv cfg O0 ι' H' w')
    (hv : V w' (Owns O0 ι' H') ι' p x) (h : setD { s with H := H', m := m' } dst p = some s') : Rel cfg O0 ι' s' (a.put dst x) w' ∧ s'.H = H' := by
  unfold RV.setD at h
  cases dst with
  | none =>
    cases h
    exact ⟨⟨hI, fun t => V.mono hs.ext _ _ (hR.env t), hR.size, hR.sz, hR.defers⟩, rfl⟩
  | some d =>
    simp only at h
    split at h <;> cases h
    rename_i hd
    have hd : d < s.sz := hd
    have hsz := hR.sz
    refine ⟨⟨hI, fun t => ?_, by simp [Act.put, hR.size], hR.sz, hR.defers⟩, rfl⟩
    show V w' (Owns O0 ι' H') ι' (Env.at (s.env.put d p) t) _
    unfold Env.at
    rw [put_get]
    by_cases e : t = d
    · subst e
      rw [if_pos rfl]
      have : (a.put (some t) x).tmps.getD t undef = x := by
        have ht : t < a.tmps.size := by rw [hR.size]; exact hd
        simp [Act.put, ht]
      rw [this]
      exact hv
    · rw [if_neg e]
      have : (a.put (some d) x).tmps.getD t undef = a.tmps.getD t undef := by
        simp [Act.put, Ne.symm e]
      rw [this]
      exact V.mono hs.ext _ _ (hR.env t)
end
end Go.Proofs.YtddaogebacigbaaGreatDoor.RV
