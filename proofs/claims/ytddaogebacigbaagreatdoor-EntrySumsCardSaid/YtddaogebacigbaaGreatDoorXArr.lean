/- Maps from entities to rows of 128 bits: each row tells a wide number. Their laws, at the operations. No conditions. -/
import Derived.Test.YtddaogebacigbaaGreatDoorPWide
import Derived.Test.YtddaogebacigbaaGreatDoorXBits
namespace Go.Proofs.YtddaogebacigbaaGreatDoor.XArr
open Go Go.Maps Go.RowKit Go.Proofs.YtddaogebacigbaaGreatDoorW.PrintWords Go.Proofs.YtddaogebacigbaaGreatDoorW.PrintLast Go.Proofs.YtddaogebacigbaaGreatDoor.XA Go.Proofs.YtddaogebacigbaaGreatDoor.XMap Go.Proofs.YtddaogebacigbaaGreatDoor.XBits Go.Proofs.YtddaogebacigbaaGreatDoor.PWide
set_option linter.unusedVariables false
/-- A wide number's 128 bits as a number. -/
def nW (c : Int × Int) : Nat := (PWide.N c).toNat
theorem N_lt (c : Int × Int) : 0 ≤ PWide.N c ∧ PWide.N c < 340282366920938463463374607431768211456 := by unfold PWide.N; omega
theorem nW_lt (c : Int × Int) : nW c < 2 ^ 128 := by
  have := N_lt c
  unfold nW
  omega
theorem nW_N (c : Int × Int) : (nW c : Int) = PWide.N c := Int.toNat_of_nonneg (N_lt c).1
theorem bits_inj {n m : Nat} (hn : n < 2 ^ 128) (hm : m < 2 ^ 128) (h : bitsN n = bitsN m) : n = m := by
  apply Nat.eq_of_testBit_eq
  intro p
  by_cases hp : p < 128
  · have e : bit n p = bit m p := by
      have h1 := row_get? (bit n) p hp
      have h2 := row_get? (bit m) p hp
      rw [show row (bit n) = row (bit m) from h, h2] at h1
      exact (Option.some.inj h1).symm
    unfold bit at e
    rw [Nat.testBit_eq_decide_div_mod_eq, Nat.testBit_eq_decide_div_mod_eq, Int.ofNat.inj e]
  · have h1 : 2 ^ 128 ≤ 2 ^ p := Nat.pow_le_pow_right (by decide) (by omega)
    rw [Nat.testBit_lt_two_pow (Nat.lt_of_lt_of_le hn h1), Nat.testBit_lt_two_pow (Nat.lt_of_lt_of_le hm h1)]
theorem bitsN_mod (n : Nat) : bitsN (n % 2 ^ 128) = bitsN n := row_congr (fun p hp => bit_mod n p hp)
def arrV (c : Int × Int) : Value := .agg (arr (bitsN (nW c)))
theorem arr_inj {f g : List Int} (h : arr f = arr g) : f = g := by
  unfold arr at h
  have h1 := congrArg Array.toList h
  simp only at h1
  exact (List.map_inj_right (fun a b e => by cases e; rfl)).1 h1
theorem arrV_inj {a b : Int × Int} (ha : InR a) (hb : InR b) (h : arrV a = arrV b) : a = b := by
  unfold arrV at h
  injection h with h1
  have h2 := bits_inj (nW_lt a) (nW_lt b) (arr_inj h1)
  refine N_inj ha hb ?_
  rw [← nW_N, ← nW_N, h2]
open Classical in
/-- How a row of bits in a map reads. -/
noncomputable def arrR (v : Value) : Option (DM × List MemPlace) := if h : ∃ c, InR c ∧ v = arrV c then some (wideD h.choose, []) else none
theorem arrR_mk {c : Int × Int} (hc : InR c) : arrR (arrV c) = some (wideD c, []) := by
  have h : ∃ c', InR c' ∧ arrV c = arrV c' := ⟨c, hc, rfl⟩
  unfold arrR
  rw [dif_pos h]
  rw [show h.choose = c from (arrV_inj hc h.choose_spec.1 h.choose_spec.2).symm]
theorem arrR_inv {v : Value} {z : DM × List MemPlace} (h : arrR v = some z) : ∃ c, InR c ∧ v = arrV c ∧ z = (wideD c, []) := by
  unfold arrR at h
  split at h
  · rename_i h1
    exact ⟨h1.choose, h1.choose_spec.1, h1.choose_spec.2, (Option.some.inj h).symm⟩
  · cases h
/-! ### the numbers -/
theorem nW_of {c : Int × Int} (h : InR c) : nW c = ((c.1 % 18446744073709551616).toNat) * 2 ^ 64 + c.2.toNat := by
  unfold InR at h
  unfold nW PWide.N
  omega
theorem bits_of (n : Int) (h : -9223372036854775808 ≤ n ∧ n < 9223372036854775808) : Value.agg (arr (bitsN ((((n / 9223372036854775808) % 18446744073709551616).toNat) * 2 ^ 64 + (IntKind.u64.wrap n).toNat))) = arrV (wof n) := by
  have h1 := of_spec h
  unfold arrV
  rw [nW_of h1.1]
  rfl
theorem add_of {a b : Int × Int} (ha : InR a) (hb : InR b) : Value.agg (arr (bitsN (nW a + nW b))) = arrV (wadd a b) := by
  have h := add_spec ha hb
  unfold arrV
  rw [← bitsN_mod (nW a + nW b)]
  have e : (nW a + nW b) % 2 ^ 128 = nW (wadd a b) := by
    have h1 := nW_N a
    have h2 := nW_N b
    have h3 := nW_N (wadd a b)
    rw [h.2] at h3
    omega
  rw [e]
theorem num_of {c : Int × Int} (h : InR c) : wrap64 ((nW c / 2 ^ 64 : Nat) : Int) = c.1 ∧ ((nW c % 2 ^ 64 : Nat) : Int) = c.2 := by
  have e := nW_of h
  unfold InR at h
  unfold wrap64
  omega
theorem all_zero (c : Int × Int) (h : InR c) : ((List.range 128).all (fun i => bit (nW c) i == (fun _ => (0 : Int)) i)) = decide (c = (0, 0)) := by
  rw [Bool.eq_iff_iff, List.all_eq_true, decide_eq_true_iff]
  constructor
  · intro h1
    have h2 : bitsN (nW c) = bitsN 0 := row_congr (fun p hp => by
      have := h1 p (List.mem_range.2 hp)
      rw [beq_iff_eq] at this
      rw [this, bit_zero])
    have h3 := bits_inj (nW_lt c) (by decide) h2
    refine N_inj h zero_spec.1 ?_
    have := nW_N c
    rw [zero_spec.2]
    omega
  · rintro rfl i _
    rw [show nW (0, 0) = 0 from rfl, bit_zero]
    rfl
/-! ### at the operations -/
theorem zeroArr : nW (0, 0) = 0 := by unfold nW PWide.N; rfl
theorem run_lookup {P : Program} {k e t : TypeId} {b n : Nat} {D : DM} {w : World} (h : w.ownsMap P k arrR b n D) (Kk : Keyed P k) (ht : P.underlying t = some (.map k e)) (hz : (zeroValue e).run P w = .ok (arrV (0, 0)) w) {ky : Value} {kl : Lit} (hkey : keyOf P k ky = some kl) {c : Int × Int} (hc : D.atKey kl (wideD (0, 0)) = wideD c) :
    (Instr.lookup t (.map (some b)) ky false).run P w = .ok (arrV c) w := by
  obtain ⟨v, ps, hrun, hv⟩ := h.lookup Kk ht hz (arrR_mk (c := (0, 0)) zero_spec.1) hkey
  obtain ⟨c', _, rfl, hc'⟩ := arrR_inv hv
  have e : c' = c := wideD_inj ((congrArg Prod.fst hc').symm.trans hc)
  subst e
  exact hrun
section
variable {P : Program} {ops : Array Oper} {rest : List Oper} {o : Oper} {a : Act} {w : World} {K : Act → World → Prop} {Q : Exit → Act → World → Prop} {E : Prop}
theorem wpList_next_arr (hg : o.guard = none) (it : Operand) (hop : o.op = Op.next it false) (k : TypeId) (Kk : Keyed P k) (hk : P.underlying k = some (.int .u16)) (b r n : Nat) (D : DM) (left : Lit → Bool) (cnt : Nat)
    (hit : a.eval it = .pointer (some ⟨r, 0, none⟩)) (h : w.ranges P k arrR b r n D left cnt)
    (hDone : NoneLeft left → wpList P ops Q rest (a.put o.dst (.tuple #[.bool false])) w)
    (hMore : ∀ (x : Int) (c : Int × Int) (w' : World) (cnt' : Nat), (Lit.int .u16 x).wf = true ∧ (∀ zd, D.atKey (key x) zd = wideD c) ∧ InR c ∧ w'.ranges P k arrR b r n D (fun z => left z && !z.sameKey (key x)) cnt' ∧ cnt' < cnt ∧ w.grownBy w' (some r) → (Instr.entry (.pointer (some ⟨r, 0, none⟩))).run P w' = .ok (.tuple #[.int .u16 x, arrV c]) w' → wpList P ops Q rest (a.put o.dst (.tuple #[.bool true, .int .u16 x, arrV c])) w') :
    wpList P ops Q (o :: rest) a w := by
  refine wpList_next_ranges w hg it hop k Kk arrR (Value.int .u16) (fun c : {c : Int × Int // InR c} => arrV c.1) (fun ky kl hkey => by obtain ⟨x, rfl, _⟩ := Maps.keyOf_int_inv hk hkey; exact ⟨x, rfl⟩) (fun v y hv => by obtain ⟨c, hc, rfl, _⟩ := arrR_inv hv; exact ⟨⟨c, hc⟩, rfl⟩) b r n D left cnt hit h (fun _ hl => hDone ⟨hl⟩) (fun x c kl y w' cnt' hkey hlk hv hat hrg hlt hgr hsz hen => ?_)
  obtain ⟨x', ex, rfl, hwx⟩ := Maps.keyOf_int_inv hk hkey
  cases ex
  have hy : arrR (arrV c.1) = some y := hv
  rw [arrR_mk c.2] at hy
  obtain rfl := Option.some.inj hy
  exact hMore x c.1 w' cnt' ⟨hwx, hat, c.2, hrg, hlt, hgr⟩ hen
end
end Go.Proofs.YtddaogebacigbaaGreatDoor.XArr
