/- A part of the evaluator over abstract values, and that it is right (RvN). Conditions: none. -/
import Derived.Test.YtddaogebacigbaaGreatDoorRvM
set_option linter.constructorNameAsVariable false
namespace Go.Proofs.YtddaogebacigbaaGreatDoor.RV
open Go.RowKit (Below)

section
variable {cfg : Cfg} {O0 : Nat → Prop} {ι : Iota} {H : Heap} {w : World} {env : Env} {ρ : Operand → Value} {O : Nat → Prop}

theorem Grown.drewAlloc (w : World) (o : Obj) : Grown w (w.drew.alloc o) := ⟨rfl, rfl, rfl, by simp, fun b hb => heap_alloc_old w.drew o b hb⟩

theorem RowR.append {s : Nat} {ys zs : List Value} {l l' : List PV} (h : RowR w O ι s ys.toArray l) (h' : RowR w O ι s zs.toArray l') (hl : ys.length = l.length * s) : RowR w O ι s (ys ++ zs).toArray (l ++ l') := by
  intro m p hp
  rw [List.getElem?_append] at hp
  split at hp
  · obtain ⟨y, hy, hs, hget⟩ := h m p hp
    refine ⟨y, hy, hs, fun j z hz => ?_⟩
    have := hget j z hz
    rw [List.getElem?_toArray] at this ⊢
    rw [List.getElem?_append_left (List.getElem?_eq_some_iff.1 this).1]
    exact this
  · rename_i hm
    obtain ⟨y, hy, hs, hget⟩ := h' (m - l.length) p hp
    refine ⟨y, hy, hs, fun j z hz => ?_⟩
    have := hget j z hz
    rw [List.getElem?_toArray] at this ⊢
    have e : m * s + j = ys.length + ((m - l.length) * s + j) := by
      rw [hl, Nat.sub_mul]
      have : l.length * s ≤ m * s := Nat.mul_le_mul_right _ (by omega)
      omega
    rw [e, List.getElem?_append_right (by omega)]
    rw [← this]
    congr 1
    omega

theorem RowR.more {s : Nat} {ys zs : List Value} {l : List PV} (h : RowR w O ι s ys.toArray l) : RowR w O ι s (ys ++ zs).toArray l := by
  intro m p hp
  obtain ⟨y, hy, hs, hget⟩ := h m p hp
  refine ⟨y, hy, hs, fun j z hz => ?_⟩
  have := hget j z hz
  rw [List.getElem?_toArray] at this ⊢
  rw [List.getElem?_append_left (List.getElem?_eq_some_iff.1 this).1]
  exact this

/-- A new row: its answer is the call's own. -/
theorem wrote_new {k s n cap : Nat} {xs : List PV} {cells : List Value} {e : TypeId} {w' : World} (hI : Inv cfg O0 ι H w) (hn : H.get k = none) (hw : w' = w.drew.alloc (.cells cells.toArray e))
    (hrow : RowR w (Owns O0 ι H) ι s cells.toArray xs) (hlen : xs.length = n) (hcap : n ≤ cap) (hsz : cap * s ≤ cells.length) :
    Wrote cfg O0 ι H w (.own k 0 s 0 n none) [(k, 0, .blk s xs true)] (.slice (some ⟨w.heap.size, 0, none⟩) n cap) w' := by
  subst hw
  have hxs : xs.length * s ≤ cells.length := by
    rw [hlen]
    exact Nat.le_trans (Nat.mul_le_mul_right _ hcap) hsz
  have := Inv.new (L := ⟨w.heap.size, 0, cells.length, s⟩) (ob := .blk s xs true) (p := .own k 0 s 0 n none) (x := .slice (some ⟨w.heap.size, 0, none⟩) n cap) hI hn (Grown.drewAlloc w (.cells cells.toArray e)) (Nat.le_refl _)
    (fun O' ι' he _ hL => ⟨V.own_iff.2 ⟨_, cap, hL, rfl, by simp, by simpa using hsz, hcap, fun k h => by cases h⟩,
      rfl, ⟨_, _, _, heap_alloc_new w.drew _, by simp, fun i h1 h2 => by simp at h2⟩, by simpa using hxs, hrow.ve he (heap_alloc_new w.drew _), fun h => by cases h⟩)
  exact ⟨_, this.1, this.2.1, this.2.2⟩

theorem wrote_none {p : PV} {x : Value} (hI : Inv cfg O0 ι H w) (hv : V w (Owns O0 ι H) ι p x) : Wrote cfg O0 ι H w p [] x w := ⟨ι, hI, .refl, hv⟩

theorem list_three (a b c : List Value) (j : Nat) : (a ++ b ++ c)[j]? = if j < a.length then a[j]? else if j < a.length + b.length then b[j - a.length]? else c[j - a.length - b.length]? := by
  rw [List.append_assoc, List.getElem?_append]
  split
  · rfl
  · rw [List.getElem?_append]
    split
    · rw [if_pos (by omega)]
    · rw [if_neg (by omega)]

/-- What a write of elements in the middle of a row leaves. -/
theorem VE.overwrite {s b base c t' : Nat} {l xs : List PV} {cs : Array Value} {t : TypeId} {fz : Nat × Nat} {ys : List Value} {O' : Nat → Prop} {ι' : Iota} (hVE : VE w O ι s b base l) (hb : w.heap[b]? = some (.cells cs t fz))
    (hrow : RowR w O ι s ys.toArray xs) (hl : ys.length = xs.length * s) (hfit : base + c * s + ys.length ≤ cs.size) (hcl : c ≤ l.length) (cs' : Array Value)
    (hcs' : cs' = (cs.toList.take (base + c * s) ++ ys ++ cs.toList.drop (base + c * s + ys.length)).toArray) (he : Ext w O ι (w.setRow b cs') O' ι') (ht : t' ≤ c) :
    VE (w.setRow b cs') O' ι' s b (base + t' * s) ((l.drop t').take (c - t') ++ (xs ++ l.drop (c + xs.length))) := by
  have hb' := setRow_heap w b cs cs' t fz hb
  have hget : ∀ j, cs'[j]? = if j < base + c * s then cs[j]? else if j < base + c * s + ys.length then ys[j - (base + c * s)]? else cs[j]? := fun j => by
    rw [hcs', List.getElem?_toArray, list_three]
    have h1 : (cs.toList.take (base + c * s)).length = base + c * s := by simp; omega
    rw [h1]
    split
    · rename_i h; rw [List.getElem?_take, if_pos h]; simp
    · split
      · rfl
      · rw [List.getElem?_drop]
        simp
        congr 1
        omega
  refine VE.of_get fun i p hp => ?_
  have h1 : ((l.drop t').take (c - t')).length = c - t' := by simp; omega
  rw [List.getElem?_append, h1] at hp
  split at hp
  · rename_i hi
    rw [List.getElem?_take, if_pos hi, List.getElem?_drop] at hp
    obtain ⟨y, hy, hs, cs2, t2, fz2, hb2, hg2⟩ := hVE.get _ p hp
    rw [hb] at hb2
    cases hb2
    refine ⟨y, V.mono he _ _ hy, hs, cs', t, fz, hb', fun j z hz => ?_⟩
    have hj : j < s := by have := (List.getElem?_eq_some_iff.1 hz).1; simpa [hs] using this
    have hm : (t' + i + 1) * s ≤ c * s := Nat.mul_le_mul_right _ (by omega)
    rw [Nat.add_mul, Nat.add_mul, Nat.one_mul] at hm
    rw [hget, if_pos (by omega)]
    rw [← hg2 j z hz]
    congr 1
    rw [Nat.add_mul]
    omega
  · rename_i hi
    rw [List.getElem?_append] at hp
    split at hp
    · rename_i hi2
      obtain ⟨y, hy, hs, hg2⟩ := hrow _ p hp
      refine ⟨y, V.mono he _ _ hy, hs, cs', t, fz, hb', fun j z hz => ?_⟩
      have hz2 := hg2 j z hz
      rw [List.getElem?_toArray] at hz2
      have hlt := (List.getElem?_eq_some_iff.1 hz2).1
      have e : base + t' * s + i * s + j = base + c * s + ((i - (c - t')) * s + j) := by
        have : i = (i - (c - t')) + (c - t') := by omega
        rw [show i * s = (i - (c - t')) * s + (c - t') * s by rw [← Nat.add_mul]; congr 1, Nat.sub_mul c t' s]
        have : t' * s ≤ c * s := Nat.mul_le_mul_right _ ht
        omega
      rw [hget, e, if_neg (by omega), if_pos (by omega)]
      rw [← hz2]
      congr 1
      omega
    · rename_i hi2
      rw [List.getElem?_drop] at hp
      obtain ⟨y, hy, hs, cs2, t2, fz2, hb2, hg2⟩ := hVE.get _ p hp
      rw [hb] at hb2
      cases hb2
      refine ⟨y, V.mono he _ _ hy, hs, cs', t, fz, hb', fun j z hz => ?_⟩
      have e : base + t' * s + i * s = base + (c + xs.length + (i - (c - t') - xs.length)) * s := by
        rw [Nat.add_assoc, ← Nat.add_mul]
        congr 2
        omega
      have hge : (c + xs.length) * s ≤ (c + xs.length + (i - (c - t') - xs.length)) * s := Nat.mul_le_mul_right _ (by omega)
      rw [Nat.add_mul c xs.length] at hge
      rw [hget, e, if_neg (by omega), if_neg (by omega)]
      exact hg2 j z hz

set_option maxHeartbeats 2000000 in
theorem appendA_sound {dt xt ty e : TypeId} {fresh : Nat} {d x p : PV} {dv xv : Value} {dl : Delta} (hI : Inv cfg O0 ι H w) (hn : H.get fresh = none)
    (hdt : cfg.P.underlying dt = some (.slice e)) (hxt : notInt cfg.P xt) (hd : V w (Owns O0 ι H) ι d dv) (hx : V w (Owns O0 ι H) ι x xv) (h : appendA cfg.P H e fresh d x = some (p, dl)) :
    ∃ y w', (Builtin.append_ #[dt, xt] ty #[dv, xv]).run cfg.P w = .ok y w' ∧ Wrote cfg O0 ι H w p dl y w' := by
  unfold appendA at h
  split at h
  · rename_i i z hi hz
    obtain ⟨i', zv, hi', hzv, _, hVz⟩ := zeroO_spec hz
    rw [hi] at hi'
    cases hi'
    split at h
    · rename_i xs hxs
      split at h
      · rename_i hc
        obtain ⟨hzl, hpos, hsz, hsc⟩ := hc
        have hzs : zv.cells.size = i.size := by rw [← hzl, ← (hVz w (fun _ => False) ι).cells.length]; simp
        obtain ⟨ys, hyl, hrow, hlen, hfirst, hone⟩ := elemsOf_sound hI hx hxs
        have hfull : ys.take (xs.length * i.size) = ys := List.take_of_length_le (by omega)
        have hfirst1 : ∀ w2 : World, w2.heap = w.heap → (Builtin.firstCells i.size xs.length xv).run cfg.P w2 = .ok ys.toArray w2 := fun w2 hw => by
          have := hfirst cfg.P xs.length (Nat.le_refl _) w2 hw
          rwa [hfull] at this
        -- a new row for it all
        have grow : ∀ (base : Option Addr) (sLen sCap : Nat) (l : List PV) (olds : List Value), olds.length = l.length * i.size → l.length = sLen → RowR w (Owns O0 ι H) ι i.size olds.toArray l →
            (∀ w2 : World, w2.heap = w.heap → (Builtin.firstCells i.size sLen (.slice base sLen sCap)).run cfg.P w2 = .ok olds.toArray w2) → sCap < sLen + xs.length → sLen + xs.length ≤ 2 ^ 40 → (sLen + xs.length) * i.bytes ≤ 2 ^ 40 →
            ∃ y w', (Builtin.append_ #[dt, xt] ty #[.slice base sLen sCap, xv]).run cfg.P w = .ok y w' ∧ Wrote cfg O0 ι H w (.own fresh 0 i.size 0 (sLen + xs.length) none) [(fresh, 0, .blk i.size (l ++ xs) true)] y w' := by
          intro base sLen sCap l olds ho1 ho2 ho3 ho4 hg h63 hb
          obtain ⟨cap, rest, hr, hcap, hrest⟩ := run_append_growV (ty := ty) hdt hxt hi hzv (hlen _ _) hfirst1 ho4 hg h63 hb
          refine ⟨_, _, hr, wrote_new hI hn rfl ?_ (by simp [ho2]) hcap ?_⟩
          · rw [← List.append_assoc]
            exact (ho3.append hrow ho1).more
          · simp only [List.length_append, ho1, hyl, hrest, hzs, ho2]
            rw [← Nat.add_mul, ← Nat.add_mul]
            exact Nat.mul_le_mul_right _ (by omega)
        split at h
        · -- nil
          have hdv := V.lit_iff.1 hd
          subst hdv
          split at h
          · cases h
            have hys : ys = [] := List.eq_nil_of_length_eq_zero (by simpa using hyl)
            refine ⟨.slice none 0 0, w, ?_, wrote_none hI (V.lit_iff.2 rfl)⟩
            have hl0 := hlen cfg.P w
            have hf0 := hfirst1 w rfl
            simp only [List.length_nil] at hl0 hf0
            subst hys
            rcases hxt with ⟨e', hxt⟩ | hxt <;> simp [Builtin.append_, run_underlying hdt, run_underlying hxt, sizeOf, typeInfo, hi, hl0, hf0]
          · rename_i hne
            split at h <;> cases h
            rename_i hb
            obtain ⟨hb1, hb2⟩ := hb
            have hxp : 0 < xs.length := by cases xs with | nil => exact absurd rfl hne | cons a l => simp
            have := grow none 0 0 [] [] (by simp) rfl (fun m p h => by simp at h) (fun w2 hw => by simp [Builtin.firstCells]) (by omega) (by omega) (by simpa using hb1)
            simpa using this
        · -- the call's own
          rename_i id ver s off len cap
          split at h
          · rename_i s' l live ho
            split at h
            · rename_i hb
              obtain ⟨rfl, rfl, hle, hb1, hb2⟩ := hb
              have hgk := obj_spec ho
              obtain ⟨L, c, hL, hs, rfl, hce, hlc, hcap⟩ := V.own_iff.1 hd
              obtain ⟨L', hL', _, ⟨cs, ct, fz, hcs, hcesz, hfz⟩, hlen2, hVE, _⟩ := hI.obj _ _ _ hgk
              rw [hL] at hL'
              cases hL'
              obtain ⟨olds, ho1, ho2, ho3, _⟩ := ((hVE.drop off).take len).row
              have holen : ((l.drop off).take len).length = len := by simp; omega
              have hold : ∀ w2 : World, w2.heap = w.heap → (Builtin.firstCells i.size len (.slice (some ⟨L.b, L.base + off * i.size, none⟩) len c)).run cfg.P w2 = .ok olds.toArray w2 := fun w2 hw => by
                have := run_first_row (P := cfg.P) (n := len) (c := c) (by rw [ho1, holen]; exact Nat.le_refl _) ho3 w2 hw
                rwa [List.take_of_length_le (by rw [ho1, holen]; exact Nat.le_refl _)] at this
              -- in its place
              have hroom : len + xs.length ≤ c → L.base + off * i.size + len * i.size + ys.length ≤ L.ce ∧ (Builtin.append_ #[dt, xt] ty #[.slice (some ⟨L.b, L.base + off * i.size, none⟩) len c, xv]).run cfg.P w =
                  .ok (.slice (some ⟨L.b, L.base + off * i.size, none⟩) (len + xs.length) c) (w.setRow L.b (cs.toList.take (L.base + (off + len) * i.size) ++ ys ++ cs.toList.drop (L.base + (off + len) * i.size + ys.length)).toArray) := fun hrm => by
                have hm : (len + xs.length) * i.size ≤ c * i.size := Nat.mul_le_mul_right _ hrm
                rw [Nat.add_mul] at hm
                have hfit : L.base + off * i.size + len * i.size + ys.length ≤ L.ce := by omega
                have := run_append_roomV (ty := ty) hdt hxt hi hcs hfz hcesz (hlen _ _) (hfirst1 w rfl) (hone hsc) hrm hfit
                rw [Nat.add_mul, ← Nat.add_assoc]
                exact ⟨hfit, this⟩
              split at h
              · cases h
                have hys : ys = [] := List.eq_nil_of_length_eq_zero (by simpa using hyl)
                subst hys
                obtain ⟨_, hr⟩ := hroom (by simpa using hlc)
                refine ⟨_, w, ?_, wrote_none hI hd⟩
                rw [hr]
                simp only [List.append_nil, List.length_nil, Nat.add_zero, List.take_append_drop, Array.toArray_toList]
                rw [setRow_self w L.b cs ct fz hcs]
              · rename_i hne
                split at h
                · rename_i c'
                  obtain rfl := hcap c' rfl
                  split at h
                  · rename_i hlt
                    cases h
                    exact grow _ _ _ _ olds ho1 holen ho2 hold hlt hb2 hb1
                  · rename_i hlt
                    split at h <;> cases h
                    obtain ⟨hfit, hr⟩ := hroom (by omega)
                    refine ⟨_, _, hr, ?_⟩
                    have := hI.write (cs' := (cs.toList.take (L.base + (off + len) * i.size) ++ ys ++ cs.toList.drop (L.base + (off + len) * i.size + ys.length)).toArray) (l' := l.take (off + len) ++ (xs ++ l.drop (off + len + xs.length))) hgk hL hcs
                      (by simp; rw [Nat.add_mul] at *; omega)
                      (by
                        simp only [List.length_append, List.length_take, List.length_drop]
                        by_cases hx : off + len + xs.length ≤ l.length
                        · rw [show min (off + len) l.length + (xs.length + (l.length - (off + len + xs.length))) = l.length by omega]; exact hlen2
                        · rw [show min (off + len) l.length + (xs.length + (l.length - (off + len + xs.length))) = off + len + xs.length by omega, Nat.add_mul, Nat.add_mul]; omega)
                      (fun O' ι' he => by
                        have := VE.overwrite (t' := 0) hVE hcs hrow hyl (by rw [Nat.add_mul]; omega) hle _ rfl he (Nat.zero_le _)
                        simpa using this)
                    refine ⟨ι, this.1, this.2, V.own_iff.2 ⟨L, c, hL, hs, rfl, hce, by omega, hcap⟩⟩
                · split at h <;> cases h
                  by_cases hrm : len + xs.length ≤ c
                  · obtain ⟨hfit, hr⟩ := hroom hrm
                    refine ⟨_, _, hr, ?_⟩
                    generalize hcs' : (cs.toList.take (L.base + (off + len) * i.size) ++ ys ++ cs.toList.drop (L.base + (off + len) * i.size + ys.length)).toArray = cs'
                    have hnone : ∀ L', ι id (ver + 1) = some L' → L' = ⟨L.b, L.base + off * i.size, L.ce, i.size⟩ := fun L' h => by
                      obtain ⟨v, o, h1, h2⟩ := hI.fresh _ _ _ h
                      rw [hgk] at h1
                      cases h1
                      omega
                    have := Inv.set (ι' := upd ι id (ver + 1) ⟨L.b, L.base + off * i.size, L.ce, i.size⟩) (o' := .blk i.size ((l.drop off).take len ++ xs) true) (w' := w.setRow L.b cs') hI rfl (fun v o h => by rw [hgk] at h; cases h; omega) hnone rfl rfl rfl
                      (by simp [World.setRow]) (fun b hb hne => setRow_other w L.b b cs' hne) (.inr ⟨ver, _, L, hgk, rfl, hL, rfl⟩)
                      (fun he => ⟨rfl, ⟨cs', ct, fz, setRow_heap w L.b cs cs' ct fz hcs, by
                          rw [← hcs']; simp; rw [Nat.add_mul] at *; omega, hfz⟩, by
                          show L.base + off * i.size + _ ≤ L.ce
                          rw [List.length_append, holen, Nat.add_mul]; omega, by
                          have hv := VE.overwrite (t' := off) hVE hcs hrow hyl (by rw [Nat.add_mul]; omega) hle cs' hcs'.symm he (by omega)
                          rw [show off + len - off = len by omega] at hv
                          have hv2 := VE.take hv (len + xs.length)
                          rw [← List.append_assoc, List.take_left' (by rw [List.length_append, holen])] at hv2
                          exact hv2, fun h => by cases h⟩)
                    refine ⟨_, this.1, this.2, V.own_iff.2 ⟨⟨L.b, L.base + off * i.size, L.ce, i.size⟩, c, by simp [upd], rfl, by simp, by simpa using hce, hrm, fun k h => by cases h⟩⟩
                  · obtain ⟨cap, rest, hr, hcap2, hrest⟩ := run_append_growV (ty := ty) hdt hxt hi hzv (hlen _ _) hfirst1 hold (by omega) hb2 hb1
                    refine ⟨_, _, hr, ?_⟩
                    have hsz : cap * i.size ≤ (olds ++ (ys ++ rest)).length := by
                      simp only [List.length_append, ho1, hyl, hrest, hzs, holen]
                      rw [← Nat.add_mul, ← Nat.add_mul]
                      exact Nat.mul_le_mul_right _ (by omega)
                    have hnone : ∀ L', ι id (ver + 1) = some L' → L' = ⟨w.heap.size, 0, (olds ++ (ys ++ rest)).length, i.size⟩ := fun L' h => by
                      obtain ⟨v, o, h1, h2⟩ := hI.fresh _ _ _ h
                      rw [hgk] at h1
                      cases h1
                      omega
                    have hg := Grown.drewAlloc w (.cells (olds ++ (ys ++ rest)).toArray e)
                    have := Inv.set (ι' := upd ι id (ver + 1) ⟨w.heap.size, 0, (olds ++ (ys ++ rest)).length, i.size⟩) (o' := .blk i.size ((l.drop off).take len ++ xs) true) hI rfl (fun v o h => by rw [hgk] at h; cases h; omega) hnone hg.os hg.tape hg.output
                      hg.size (fun b hb _ => hg.block b hb) (.inl (Nat.le_refl _))
                      (fun he => ⟨rfl, ⟨_, _, _, heap_alloc_new w.drew _, by simp, fun i h1 h2 => by simp at h2⟩, by
                          show 0 + _ ≤ _
                          rw [List.length_append, holen, Nat.zero_add]
                          exact Nat.le_trans (Nat.mul_le_mul_right _ hcap2) hsz, by
                          refine RowR.ve (w := w) (O := Owns O0 ι H) (ι := ι) ?_ he (heap_alloc_new w.drew _)
                          rw [← List.append_assoc]
                          exact (ho2.append hrow ho1).more, fun h => by cases h⟩)
                    refine ⟨_, this.1, this.2, V.own_iff.2 ⟨⟨w.heap.size, 0, (olds ++ (ys ++ rest)).length, i.size⟩, cap, by simp [upd], rfl, by simp, by simpa using hsz, hcap2, fun k h => by cases h⟩⟩
            · cases h
          · cases h
        · -- deep
          rename_i s l cap
          split at h
          · rename_i hb
            obtain ⟨rfl, hb1, hb2⟩ := hb
            obtain ⟨a, c, rfl, hlc, hcap, hr⟩ := V.dsl_iff.1 hd
            split at h
            · cases h
              have hys : ys = [] := List.eq_nil_of_length_eq_zero (by simpa using hyl)
              refine ⟨.slice a l.length c, w, ?_, wrote_none hI hd⟩
              have hl0 := hlen cfg.P w
              have hf0 := hfirst1 w rfl
              simp only [List.length_nil] at hl0 hf0
              subst hys
              rcases hxt with ⟨e', hxt⟩ | hxt <;> cases a <;> simp [Builtin.append_, run_underlying hdt, run_underlying hxt, sizeOf, typeInfo, hi, hl0, hf0, hlc, storeCells]
            · rename_i hne
              split at h
              · rename_i c'
                obtain rfl := hcap c' rfl
                split at h <;> cases h
                rename_i hlt
                rcases hr with rfl | ⟨b, o, rfl, _, hVE⟩
                · have := grow a 0 c [] [] (by simp) rfl (fun m p h => by simp at h) (fun w2 hw => by cases a <;> simp [Builtin.firstCells, loadCells, loadCellsFrom]) (by simpa using hlt) (by simpa using hb2) (by simpa using hb1)
                  simpa using this
                · obtain ⟨olds, ho1, ho2, ho3, _⟩ := hVE.row
                  have hold : ∀ w2 : World, w2.heap = w.heap → (Builtin.firstCells i.size l.length (.slice (some ⟨b, o, none⟩) l.length c)).run cfg.P w2 = .ok olds.toArray w2 := fun w2 hw => by
                    have := run_first_row (P := cfg.P) (n := l.length) (c := c) (by rw [ho1]; exact Nat.le_refl _) ho3 w2 hw
                    rwa [List.take_of_length_le (by rw [ho1]; exact Nat.le_refl _)] at this
                  exact grow _ _ _ _ olds ho1 rfl (fun m p hp => by
                    obtain ⟨y, hy, r⟩ := ho2 m p hp
                    exact ⟨y, hy.lift, r⟩) hold hlt hb2 hb1
              · cases h
          · cases h
        · cases h
      · cases h
    · cases h
  · cases h
end
end Go.Proofs.YtddaogebacigbaaGreatDoor.RV
