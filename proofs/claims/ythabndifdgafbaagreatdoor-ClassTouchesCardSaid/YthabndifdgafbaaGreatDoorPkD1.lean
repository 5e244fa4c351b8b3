/- Contracts of library functions, in one text (part 1 of 1). Conditions: none. -/
import Derived.Lib.LaidTab
import Derived.Shelf.Strings.Builder1
import Derived.Shelf.Strings.Builder2
import Derived.Shelf.Strings.OnBuilder
import Derived.Shelf.Small.Bits
import Derived.Shelf.Small.Strs
import Derived.Shelf.Strings.BuilderF
import Derived.Shelf.Strings.BuilderK
import Derived.Shelf.Strings.Builder2Cap
import Derived.Shelf.Strconv.Atoi
import Derived.Shelf.Strconv.Itoa0
import Derived.Shelf.Strconv.Itoa1
import Derived.Shelf.LaysM
import Derived.Shelf.Strconv.Itoa2
import Derived.Shelf.Strconv.Itoa3
import Derived.Shelf.Strconv.Itoa4
import Derived.Shelf.Strconv.AtoiErrFast
import Derived.Shelf.Strconv.ParseIntEmpty
import Derived.Shelf.Strconv.AtoiFail
import Derived.Shelf.Strconv.Clone
import Derived.Shelf.Strconv.SyntaxError
import Derived.Shelf.LaysC
import Derived.Shelf.Strconv.ToError
import Derived.Shelf.Strconv.Lower
import Derived.Shelf.Strconv.ParseUint10
import Derived.Shelf.Strconv.ParseUint10Empty
import Derived.Shelf.Strconv.ParseUint10Any
import Derived.Shelf.Strconv.ParseInt10
import Derived.Shelf.Strconv.AtoiLong
import Derived.Shelf.Strconv.AtoiInnerAll
import Derived.Shelf.Strconv.RangeError
import Derived.Shelf.Strconv.ToErrorRange
import Derived.Shelf.Strconv.AtoiAll
import Derived.Shelf.Strconv.ParseUintEmpty
import Derived.Shelf.Strconv.ParseUint10b64
import Derived.Shelf.Strconv.ParseUint10b32
import Derived.Shelf.Strconv.ParseUint10b16
import Derived.Shelf.Strconv.ParseUint10b8
import Derived.Shelf.Strconv.ParseUint10At
import Derived.Shelf.Strconv.ParseInt10At64
import Derived.Shelf.Strconv.ParseInt10At32
import Derived.Shelf.Strconv.ParseInt10At16
import Derived.Shelf.Strconv.ParseInt10At8
import Derived.Shelf.Strconv.ParseInt10All
import Derived.Shelf.Strconv.ParseIntPublic10
import Derived.Shelf.Strings.Search1
import Derived.Shelf.Strings.Search2
import Derived.Shelf.Strings.Search3
import Derived.Shelf.Strings.Cut
import Derived.Shelf.Strings.Shaped
import Derived.Shelf.Strings.Prefix
import Derived.Shelf.Bits.Mul64
import Derived.Shelf.Strings.Repeat
import Derived.Ground.SlgnProg
import Derived.Shelf.SlicesG.Equal
import Derived.Shelf.SlicesE.Reverse
import Derived.Test.YthabndifdgafbaaGreatDoorProg
import Derived.Below
import Derived.Deep.Draws
import Derived.Maps.AppendAt
import Derived.Laws.IdiomCopy
import Derived.Lib.AppendZerosOnto
import Derived.Deep.AppendSrc
import Derived.Lib.Overlaps
import Derived.Laws.Externs
import Derived.WalkKit
import Derived.Shelf.RegionOpenPlain
import Derived.Deep.AppendLies
import Derived.OwnWalk
import Derived.Laws.BytesArg
import Derived.Laws.MakeOwn
import Derived.Laws.OwnMore
import Derived.Deep.OwnRows
import Derived.Tactics
import Derived.Lib.ConvBytes
import Derived.Laws.Slices
import Derived.KernelRfl
import Derived.RowKit3
import Derived.Deep.LoopGhost
import Derived.Deep.QuietTactic
import Derived.BigQuiet
import Derived.WideLaws
import Derived.Deep.DeepCutAuto
import Derived.Deep.CutBlock
import Derived.Deep.RegionHeld3
import Derived.Laws.Rows
import Derived.Lib.AppendStr
import Derived.ArgAppend
import Derived.OrdersHeld
import Derived.Laws.BitsLemmas
import Derived.RowKit
import Derived.Lib.SmallJoins
import Derived.Lib.AtoiAll
import Derived.Lib.AppendIntMem
import Derived.WalkSmall
import Derived.Lib.BitFns
import Derived.Lib.Small
import Derived.Lib.Walk
import Derived.Test.YthabndifdgafbaaGreatDoorPkB1
section
namespace Go.Proofs.YthabndifdgafbaaGreatDoor.Tab2
open Go.Lib
def tab2Data {H : Type} (rows : List (List (List UInt8))) : DataW H := .agg (rows.map fun r => .agg (r.map fun b => .lit (.string b)))
theorem arr_at {H : Type} {enc : TypeId × Value → H} {P : Program} {w : World} {base : Nat} {sp : Nat → Bool} {held : Bool} {fuel : Nat} {t e : TypeId} {n : Nat} {cs : List Value} {ds : List (DataW H)} {p : List MemPlace}
    (ht : P.underlying t = some (.array n e)) (h : DataW.trod enc P w base sp held fuel t cs = some (.agg ds, p)) :
    cs.length = P.cellsOf t ∧ ds.length = n ∧ ∀ (i : Nat) (d : DataW H), ds[i]? = some d → ∃ fuel' p', DataW.trod enc P w base sp held fuel' e ((cs.drop (i * P.cellsOf e)).take (P.cellsOf e)) = some (d, p') := by
  cases fuel with
  | zero => simp [DataW.trod] at h
  | succ fuel =>
    simp only [DataW.trod, ht] at h
    split at h
    · rename_i hl
      obtain ⟨xs, hm, hx⟩ := Option.map_eq_some_iff.1 h
      have hxs : xs.map (·.1) = ds := by
        have := congrArg Prod.fst hx
        simpa using this
      have hxl : xs.length = n := by simpa using mapM_length hm
      refine ⟨hl, by rw [← hxs]; simpa using hxl, fun i d hd => ?_⟩
      rw [← hxs, List.getElem?_map] at hd
      obtain ⟨x, hx1, rfl⟩ := Option.map_eq_some_iff.1 hd
      have hi : i < n := by have := (List.getElem?_eq_some_iff.1 hx1).1; omega
      obtain ⟨b, hb, hf⟩ := mapM_at hm i i (by simp [hi])
      rw [hx1] at hb
      cases hb
      exact ⟨fuel, x.2, hf⟩
    · cases h
theorem cells_of_tab2 {H : Type} {enc : TypeId × Value → H} {P : Program} {w : World} {base : Nat} {sp : Nat → Bool} {held : Bool} {fuel : Nat} {t e s : TypeId} {n m : Nat} {cs : List Value} {rows : List (List (List UInt8))} {p : List MemPlace}
    (ht : P.underlying t = some (.array n e)) (he : P.underlying e = some (.array m s)) (hs : P.underlying s = some .string) (hcs : P.cellsOf s = 1) (hce : P.cellsOf e = m)
    (h : DataW.trod enc P w base sp held fuel t cs = some (tab2Data rows, p)) : ∀ (q r : Nat) (row : List (List UInt8)) (b : List UInt8), rows[q]? = some row → row[r]? = some b → cs[q * m + r]? = some (.string ⟨b.toArray⟩) := by
  intro q r row b hq hr
  obtain ⟨h1, h2, h3⟩ := arr_at ht h
  obtain ⟨f1, p1, h4⟩ := h3 q (.agg (row.map fun b => .lit (.string b))) (by simp [hq])
  obtain ⟨h5, h6, h7⟩ := arr_at he h4
  obtain ⟨f2, p2, h8⟩ := h7 r (.lit (.string b)) (by simp [hr])
  obtain ⟨z, hc, hz, _⟩ := DataW.trod_string hs h8
  have hrl : r < m := by have := (List.getElem?_eq_some_iff.1 hr).1; simp at h6; omega
  have hb : b = z.data.toList := by simpa using congrArg Prod.fst hz
  have := congrArg (·[0]?) hc
  rw [hcs, hce] at this
  simp only [List.getElem?_take, List.getElem?_drop, Nat.mul_one, Nat.add_zero] at this
  rw [if_pos (by omega), if_pos hrl] at this
  rw [this, hb]
  simp
theorem tab2_cell {P : Program} {W : World} {name : String} {rest : List (String × DataW Unit)} {g : Nat} {t e s : TypeId} {n m : Nat} {rows : List (List (List UInt8))}
    (hg : P.globalNamed name = some g) (hty : (P.globals[g]?).map (·.type) = some t) (ht : P.underlying t = some (.array n e)) (he : P.underlying e = some (.array m s)) (hs : P.underlying s = some .string) (hcs : P.cellsOf s = 1) (hce : P.cellsOf e = m)
    (h : laidMet P ((name, tab2Data rows) :: rest) W) : ∀ (q r : Nat) (row : List (List UInt8)) (b : List UInt8), rows[q]? = some row → row[r]? = some b → W.cell? ⟨g, q * m + r, none⟩ = some (.string ⟨b.toArray⟩) := by
  obtain ⟨ps, ⟨g', t', cs, fuel, p, q, hg', ht', hvar, hd, _, _⟩, _⟩ := h
  obtain rfl := Option.some.inj (hg.symm.trans hg')
  obtain rfl := Option.some.inj (hty.symm.trans ht')
  intro q r row b hq hr
  have := World.var?_cell hg hvar (q * m + r)
  rw [this, ← Array.getElem?_toList]
  exact cells_of_tab2 ht he hs hcs hce hd q r row b hq hr
end Go.Proofs.YthabndifdgafbaaGreatDoor.Tab2
end
section
namespace Go.Proofs
open Go.Shelf
def Tryz.lays156_ren : Go.Shelf.Ren := ⟨fun | 156 => 96 | 165 => 136 | 166 => 137 | 169 => 138 | 240 => 168 | 241 => 169 | 276 => 192 | 277 => 193 | n => n, fun | 31 => 91 | 9 => 9 | 3 => 3 | 4 => 4 | 0 => 0 | 20 => 20 | 72 => 211 | 76 => 215 | 70 => 209 | 37 => 27 | 75 => 214 | 127 => 247 | 164 => 270 | 5 => 5 | 80 => 146 | n => n, fun | n => n⟩
theorem Tryz.lays156 : Go.Proofs.Lays.n156 Tryz.prog Tryz.lays156_ren := {
  mixed := by kernel_rfl
  f156 := Tryz.func96.trans (congrArg some (by kernel_rfl))
  f165 := Tryz.func136.trans (congrArg some (by kernel_rfl))
  f166 := Tryz.func137.trans (congrArg some (by kernel_rfl))
  f169 := Tryz.func138.trans (congrArg some (by kernel_rfl))
  f240 := Tryz.func168.trans (congrArg some (by kernel_rfl))
  f241 := Tryz.func169.trans (congrArg some (by kernel_rfl))
  f276 := Tryz.func192.trans (congrArg some (by kernel_rfl))
  f277 := Tryz.func193.trans (congrArg some (by kernel_rfl))
  t0 := Tryz.underlying0
  a0 := Tryz.isAgg0
  z0 := Tryz.sizeOf0
  v0 := Tryz.zeroValue0
  t3 := Tryz.underlying3
  a3 := Tryz.isAgg3
  z3 := Tryz.sizeOf3
  v3 := Tryz.zeroValue3
  t4 := Tryz.underlying4
  a4 := Tryz.isAgg4
  z4 := Tryz.sizeOf4
  v4 := Tryz.zeroValue4
  t9 := Tryz.underlying9
  a9 := Tryz.isAgg9
  z9 := Tryz.sizeOf9
  v9 := Tryz.zeroValue9
  t20 := Tryz.underlying20
  a20 := Tryz.isAgg20
  z20 := Tryz.sizeOf20
  v20 := Tryz.zeroValue20
  t31 := Tryz.underlying91
  a31 := Tryz.isAgg91
  z31 := Tryz.sizeOf91
  v31 := Tryz.zeroValue91
  t37 := Tryz.underlying27
  a37 := Tryz.isAgg27
  z37 := Tryz.sizeOf27
  v37 := Tryz.zeroValue27
  t70 := Tryz.underlying209
  a70 := Tryz.isAgg209
  z70 := Tryz.sizeOf209
  v70 := Tryz.zeroValue209
  t72 := Tryz.underlying211
  a72 := Tryz.isAgg211
  z72 := Tryz.sizeOf211
  v72 := Tryz.zeroValue211
  t75 := Tryz.underlying214
  a75 := Tryz.isAgg214
  z75 := Tryz.sizeOf214
  v75 := Tryz.zeroValue214
  t76 := Tryz.underlying215
  a76 := Tryz.isAgg215
  z76 := Tryz.sizeOf215
  v76 := Tryz.zeroValue215
  t127 := Tryz.underlying247
  a127 := Tryz.isAgg247
  z127 := Tryz.sizeOf247
  v127 := Tryz.zeroValue247
  t164 := Tryz.underlying270
  a164 := Tryz.isAgg270
  z164 := Tryz.sizeOf270
  v164 := Tryz.zeroValue270 }
theorem Tryz.Builder_Extra_156 : Builder.Extra Tryz.prog Tryz.lays156_ren := {
  sizeBuilder := by kernel_rfl
  liesBuilder := by kernel_rfl
  t5 := Tryz.underlying5
  a5 := Tryz.isAgg5
  z5 := Tryz.sizeOf5
  v5 := Tryz.zeroValue5
  infoByte := by kernel_rfl
  cellsByte := by kernel_rfl
  sizeByte := by kernel_rfl
  neB5 := by decide }
open Go.RowKit in
theorem Tryz.strings_Join (bk o c : Nat) (xs : List ByteArray) (sep : ByteArray) (w : World) (hcells : ∀ (j : Nat) x, xs[j]? = some x → w.cell? ⟨bk, o + j, none⟩ = some (.string x)) (hbk : bk < w.heap.size) (hN : xs.length ≤ 140737488355328) (hcap : xs.length ≤ c) (hlen : (Lib.join (xs.map (·.data.toList)) sep.data.toList).length ≤ 140737488355328) :
    Calls Tryz.prog 96 #[.slice (some ⟨bk, o, none⟩) xs.length c, .string sep] w fun e w' => e = .returned (.string ⟨(Lib.join (xs.map (·.data.toList)) sep.data.toList).toArray⟩) ∧ Below w.heap.size w w' := Any.strings_Join Tryz.lays156 Tryz.Builder_Extra_156 bk o c xs sep w hcells hbk hN hcap hlen
def Tryz.laysM171_ren : Go.Shelf.Ren := ⟨fun | 171 => 172 | 243 => 195 | 246 => 135 | 283 => 164 | 284 => 165 | 285 => 166 | 286 => 167 | 129 => 129 | 317 => 188 | 318 => 189 | 319 => 190 | 320 => 191 | 337 => 211 | 338 => 212 | n => n, fun | 3 => 3 | 9 => 9 | 2 => 2 | 4 => 4 | 171 => 243 | 0 => 0 | 53 => 58 | 37 => 27 | 5 => 5 | 173 => 245 | 212 => 267 | 51 => 31 | 20 => 20 | 213 => 268 | 46 => 147 | 232 => 301 | 233 => 302 | n => n, fun | 17 => 1 | 18 => 4 | 19 => 5 | n => n⟩
theorem Tryz.laysM171 : Go.Proofs.LaysM.n171 Tryz.prog Tryz.laysM171_ren := {
  mixed := by kernel_rfl
  f129 := Tryz.func129.trans (congrArg some (by kernel_rfl))
  f171 := Tryz.func172.trans (congrArg some (by kernel_rfl))
  f243 := Tryz.func195.trans (congrArg some (by kernel_rfl))
  f246 := Tryz.func135.trans (congrArg some (by kernel_rfl))
  f283 := Tryz.func164.trans (congrArg some (by kernel_rfl))
  f284 := Tryz.func165.trans (congrArg some (by kernel_rfl))
  f285 := Tryz.func166.trans (congrArg some (by kernel_rfl))
  f286 := Tryz.func167.trans (congrArg some (by kernel_rfl))
  f317 := Tryz.func188.trans (congrArg some (by kernel_rfl))
  f318 := Tryz.func189.trans (congrArg some (by kernel_rfl))
  f319 := Tryz.func190.trans (congrArg some (by kernel_rfl))
  f320 := Tryz.func191.trans (congrArg some (by kernel_rfl))
  f337 := Tryz.func211.trans (congrArg some (by kernel_rfl))
  f338 := Tryz.func212.trans (congrArg some (by kernel_rfl))
  t0 := Tryz.underlying0
  a0 := Tryz.isAgg0
  z0 := Tryz.sizeOf0
  v0 := Tryz.zeroValue0
  t2 := Tryz.underlying2
  a2 := Tryz.isAgg2
  z2 := Tryz.sizeOf2
  v2 := Tryz.zeroValue2
  t3 := Tryz.underlying3
  a3 := Tryz.isAgg3
  z3 := Tryz.sizeOf3
  v3 := Tryz.zeroValue3
  t4 := Tryz.underlying4
  a4 := Tryz.isAgg4
  z4 := Tryz.sizeOf4
  v4 := Tryz.zeroValue4
  t5 := Tryz.underlying5
  a5 := Tryz.isAgg5
  z5 := Tryz.sizeOf5
  v5 := Tryz.zeroValue5
  t9 := Tryz.underlying9
  a9 := Tryz.isAgg9
  z9 := Tryz.sizeOf9
  v9 := Tryz.zeroValue9
  t20 := Tryz.underlying20
  a20 := Tryz.isAgg20
  z20 := Tryz.sizeOf20
  v20 := Tryz.zeroValue20
  t37 := Tryz.underlying27
  a37 := Tryz.isAgg27
  z37 := Tryz.sizeOf27
  v37 := Tryz.zeroValue27
  t46 := Tryz.underlying147
  a46 := Tryz.isAgg147
  z46 := Tryz.sizeOf147
  v46 := Tryz.zeroValue147
  t51 := Tryz.underlying31
  a51 := Tryz.isAgg31
  z51 := Tryz.sizeOf31
  v51 := Tryz.zeroValue31
  t53 := Tryz.underlying58
  a53 := Tryz.isAgg58
  z53 := Tryz.sizeOf58
  v53 := Tryz.zeroValue58
  t171 := Tryz.underlying243
  a171 := Tryz.isAgg243
  z171 := Tryz.sizeOf243
  v171 := Tryz.zeroValue243
  t173 := Tryz.underlying245
  a173 := Tryz.isAgg245
  z173 := Tryz.sizeOf245
  v173 := Tryz.zeroValue245
  t212 := Tryz.underlying267
  a212 := Tryz.isAgg267
  z212 := Tryz.sizeOf267
  v212 := Tryz.zeroValue267
  t213 := Tryz.underlying268
  a213 := Tryz.isAgg268
  z213 := Tryz.sizeOf268
  t232 := Tryz.underlying301
  a232 := Tryz.isAgg301
  z232 := Tryz.sizeOf301
  v232 := Tryz.zeroValue301
  t233 := Tryz.underlying302
  a233 := Tryz.isAgg302
  z233 := Tryz.sizeOf302
  v233 := Tryz.zeroValue302
  g17 := by kernel_rfl
  g18 := by kernel_rfl
  g19 := by kernel_rfl
  i0 := by kernel_rfl
  i2 := by kernel_rfl
  i3 := by kernel_rfl
  i4 := by kernel_rfl
  i5 := by kernel_rfl
  i9 := by kernel_rfl
  i20 := by kernel_rfl
  i37 := by kernel_rfl
  i46 := by kernel_rfl
  i51 := by kernel_rfl
  i53 := by kernel_rfl
  i171 := by kernel_rfl
  i173 := by kernel_rfl
  i212 := by kernel_rfl
  i232 := by kernel_rfl
  i233 := by kernel_rfl
  m17 := by kernel_rfl
  m18 := by kernel_rfl
  m19 := by kernel_rfl }
open Go.RowKit Go.Sort Go.Lib in
theorem Tryz.strconv_Itoa (n : Int) (h0 : -9223372036854775808 ≤ n) (h1 : n ≤ 9223372036854775807) (w : World) (htab : Lib.TabIs Tryz.prog w "internal/strconv.uint64pow10" .u64 Lib.pow10Tab) :
    Calls Tryz.prog 172 #[.int .i64 n] w fun e w' => e = .returned (.string ⟨(Lib.itoa n).toArray⟩) ∧ ∃ k os, w' = grow (w.drewN k) os := Any.strconv_Itoa Tryz.laysM171 n h0 h1 w htab
def Tryz.lays219_ren : Go.Shelf.Ren := ⟨fun | 219 => 187 | 217 => 161 | 225 => 208 | 224 => 209 | 267 => 210 | 266 => 186 | 314 => 223 | n => n, fun | 9 => 9 | 3 => 3 | 4 => 4 | 5 => 5 | 46 => 147 | 146 => 287 | 51 => 31 | n => n, fun | 1 => 3 | n => n⟩
theorem Tryz.lays219 : Go.Proofs.Lays.n219 Tryz.prog Tryz.lays219_ren := {
  mixed := by kernel_rfl
  f217 := Tryz.func161.trans (congrArg some (by kernel_rfl))
  f219 := Tryz.func187.trans (congrArg some (by kernel_rfl))
  f224 := Tryz.func209.trans (congrArg some (by kernel_rfl))
  f225 := Tryz.func208.trans (congrArg some (by kernel_rfl))
  f266 := Tryz.func186.trans (congrArg some (by kernel_rfl))
  f267 := Tryz.func210.trans (congrArg some (by kernel_rfl))
  f314 := Tryz.func223.trans (congrArg some (by kernel_rfl))
  t3 := Tryz.underlying3
  a3 := Tryz.isAgg3
  z3 := Tryz.sizeOf3
  v3 := Tryz.zeroValue3
  t4 := Tryz.underlying4
  a4 := Tryz.isAgg4
  z4 := Tryz.sizeOf4
  v4 := Tryz.zeroValue4
  t5 := Tryz.underlying5
  a5 := Tryz.isAgg5
  z5 := Tryz.sizeOf5
  v5 := Tryz.zeroValue5
  t9 := Tryz.underlying9
  a9 := Tryz.isAgg9
  z9 := Tryz.sizeOf9
  v9 := Tryz.zeroValue9
  t46 := Tryz.underlying147
  a46 := Tryz.isAgg147
  z46 := Tryz.sizeOf147
  v46 := Tryz.zeroValue147
  t51 := Tryz.underlying31
  a51 := Tryz.isAgg31
  z51 := Tryz.sizeOf31
  v51 := Tryz.zeroValue31
  t146 := Tryz.underlying287
  a146 := Tryz.isAgg287
  z146 := Tryz.sizeOf287
  v146 := Tryz.zeroValue287
  g1 := by kernel_rfl }
open Go.RowKit Go.Lib in
theorem Tryz.stringslite_Index_one (s : ByteArray) (c : UInt8) (w : World) :
    Calls Tryz.prog 187 #[.string s, .string ⟨#[c]⟩] w fun e w' => e = .returned (.int .i64 (Lib.indexByte s.data.toList c)) ∧ w' = w := Any.stringslite_Index_one Tryz.lays219 s c w
end Go.Proofs
end
section
namespace Go.Proofs.YthabndifdgafbaaGreatDoor.XMem
open Go Go.RowKit Go.Proofs.YthabndifdgafbaaGreatDoorW.PrintWords Go.Proofs.YthabndifdgafbaaGreatDoorW.PrintLast
set_option linter.unusedVariables false
set_option linter.unusedSimpArgs false
variable {P : Program}
theorem setRow_other (w : World) (g : Nat) (cs : Array Value) (k : Nat) (h : k ≠ g) : (w.setRow g cs).heap[k]? = w.heap[k]? := by
  unfold World.setRow
  simp only [Array.getElem?_modify]
  rw [if_neg (fun e => h e.symm)]
theorem setRow_size (w : World) (g : Nat) (cs : Array Value) : (w.setRow g cs).heap.size = w.heap.size := by
  unfold World.setRow
  simp
theorem setRow_grown (w : World) (g : Nat) (cs : Array Value) : w.grownBy (w.setRow g cs) (some g) :=
  ⟨rfl, rfl, rfl, by rw [setRow_size]; exact Nat.le_refl _, fun k _ hk => setRow_other w g cs k (fun e => hk (by rw [e]))⟩
theorem copy_run (w : World) (dT sT ty elem : TypeId) (i : TypeInfo) (hu : P.underlying dT = some (.slice elem)) (hi : P.info? elem = some i) (g o : Nat) (cur : Array Value) (e : TypeId) (hg : w.heap[g]? = some (.cells cur e (0, 0)))
    (dLen dCap : Nat) (a : Addr) (sLen sCap m : Nat) (cs : List Value) (hm : Nat.min sLen dLen = m) (hl : cs.length = m * i.size)
    (hsrc : ∀ j v, cs[j]? = some v → w.cell? (a.add j) = some v) (hfit : o + cs.length ≤ cur.size) (h1 : ∀ v ∈ cs, v.oneCell' = true) :
    (Builtin.copy_ #[dT, sT] ty #[.slice (some ⟨g, o, none⟩) dLen dCap, .slice (some a) sLen sCap]).run P w = .ok (goInt m) (w.setRow g (cur.toList.take o ++ cs ++ cur.toList.drop (o + cs.length)).toArray) := by
  have hld := run_loadCells_list (P := P) w a cs hsrc
  have hst := run_storeCells_at P g o e cs 0 cur w hg (by omega) h1
  simp only [Nat.add_zero] at hst
  rw [hl] at hld
  simp [Builtin.copy_, run_underlying hu, Builtin.lenOf, Builtin.firstCells, sizeOf, typeInfo, hi, hm, hld, hst]
theorem wp_copy (w : World) {o : Oper} {a : Act} {K : Act → World → Prop} {Q : Exit → Act → World → Prop} (d s : Operand) (t t' : TypeId)
    (ho : o.op = .call { callee := .builtin .copy, args := #[d, s], argTypes := #[t, t'] }) (v u : Value) (hd : a.eval d = v) (hs : a.eval s = u) {v' : Value} {w' : World}
    (hr : (Builtin.copy_ #[t, t'] o.type #[v, u]).run P w = .ok v' w') (h : K (a.put o.dst v') w') : o.wp P a w K Q := by
  unfold Oper.wp execOp
  simp only [ho, resolve, invoke, builtin, Sem.run_bind, Sem.run_pure, Result.andThen_ok, List.map_toArray, List.map_cons, List.map_nil, hd, hs, hr]
  exact h
theorem wpList_copy (w : World) {ops : Array Oper} {rest : List Oper} {o : Oper} {a : Act} {Q : Exit → Act → World → Prop} (hgd : o.guard = none) (d s : Operand) (t t' : TypeId)
    (ho : o.op = .call { callee := .builtin .copy, args := #[d, s], argTypes := #[t, t'] }) (v u : Value) (hd : a.eval d = v) (hs : a.eval s = u) {v' : Value} {w' : World}
    (hr : (Builtin.copy_ #[t, t'] o.type #[v, u]).run P w = .ok v' w') (h : wpList P ops Q rest (a.put o.dst v') w') : wpList P ops Q (o :: rest) a w :=
  wpList_plain hgd fun _ hK => wp_copy w d s t t' ho v u hd hs hr (hK _ _ h)
theorem step_copy {ops : Array Oper} {o : Oper} {a : Act} {w : World} {K : Act → World → Prop} {Q : Exit → Act → World → Prop} {E : Prop}
    (hg : o.guard = none) (d x : Operand) (dT sT : TypeId) (hop : o.op = Op.call { callee := Callee.builtin Builtin.copy, args := #[d, x], argTypes := #[dT, sT] })
    (v u : Value) (hd : a.eval d = v) (hx : a.eval x = u) {v' : Value} {w' : World} (hr : (Builtin.copy_ #[dT, sT] o.type #[v, u]).run P w = .ok v' w') (hK : K (a.put o.dst v') w') :
    if Region.wanted o (yielded ops a.tmps) = true then Oper.wp P o a w K Q else E := by
  have hw : Region.wanted o (yielded ops a.tmps) = true := by simp [Region.wanted, hg]
  rw [if_pos hw]
  exact wp_copy w d x dT sT hop v u hd hx hr hK
structure Flat {α : Type} (d : Kd α) (enc : α → List Value) : Prop where
  K : ∀ {w x cs}, d.K w x cs ↔ cs = enc x
  M : ∀ {w base ok x cs}, d.M w base ok x cs ↔ cs = enc x
section
variable {α : Type} {d : Kd α} {enc : α → List Value}
theorem Flat.len (F : Flat d enc) (w : World) (x : α) : (enc x).length = d.sz := d.K_len (w := w) (F.K.2 rfl)
theorem Flat.one (F : Flat d enc) (w : World) (x : α) : ∀ u ∈ enc x, u.oneCell' = true := d.K_one (w := w) (F.K.2 rfl)
theorem flat_len (F : Flat d enc) (w : World) : ∀ xs : List α, (xs.flatMap enc).length = xs.length * d.sz
  | [] => by simp
  | x :: xs => by rw [List.flatMap_cons, List.length_append, F.len w, flat_len F w xs, List.length_cons, Nat.add_mul]; omega
theorem flat_one (F : Flat d enc) (w : World) (xs : List α) : ∀ u ∈ xs.flatMap enc, u.oneCell' = true := by
  intro u hu
  obtain ⟨x, _, h⟩ := List.mem_flatMap.1 hu
  exact F.one w x u h
theorem flat_at (F : Flat d enc) (w : World) : ∀ (xs : List α) (j : Nat) (x : α), xs[j]? = some x → ((xs.flatMap enc).drop (j * d.sz)).take d.sz = enc x
  | y :: ys, 0, x, h => by
    simp at h
    subst h
    rw [Nat.zero_mul, List.drop_zero, List.flatMap_cons, ← F.len w y, List.take_left]
  | y :: ys, j + 1, x, h => by
    simp at h
    have hy := F.len w y
    rw [List.flatMap_cons, show (j + 1) * d.sz = (enc y).length + j * d.sz by rw [hy, Nat.add_mul]; omega, ← List.drop_drop, List.drop_left]
    exact flat_at F w ys j x h
theorem flat_reps {R : α → List Value → Prop} {size : Nat} (hR : ∀ x c, R x c → c = enc x) : ∀ (xs : List α) (cs : List Value), Reps R size xs cs → cs = xs.flatMap enc
  | [], cs, h => by
    have := h.1
    simp at this
    simp [this]
  | x :: xs, cs, h => by
    have h0 := hR _ _ (h.2 0 x rfl)
    rw [Nat.zero_mul, List.drop_zero] at h0
    have ht : Reps R size xs (cs.drop size) := by
      refine ⟨by rw [List.length_drop, h.1, List.length_cons, Nat.add_mul]; omega, fun j p hj => ?_⟩
      have := h.2 (j + 1) p (by simpa using hj)
      rwa [show (j + 1) * size = size + j * size by rw [Nat.add_mul]; omega, ← List.drop_drop] at this
    rw [List.flatMap_cons, ← flat_reps hR xs _ ht, ← h0, List.take_append_drop]
theorem Flat.own (F : Flat d enc) {e : Nat} {w : World} {base : Nat} {ok : Nat → Prop} {v : Value} {xs : List α} (h : d.R e w base ok v xs) : w.ownsRow base e d.sz v xs.length (xs.flatMap enc) := by
  obtain ⟨_, inner, ho, hr⟩ := h
  rw [← flat_reps (fun x c hx => F.M.1 hx) xs inner hr]
  exact ho
theorem Flat.make (F : Flat d enc) {e : Nat} {w : World} {base : Nat} {ok : Nat → Prop} {v : Value} {xs : List α} (h : w.ownsRow base e d.sz v xs.length (xs.flatMap enc)) (hok : ∀ k, v.ownBlock = some k → ok k) : d.R e w base ok v xs :=
  ⟨hok, _, h, flat_len F w xs, fun j p hj => F.M.2 (flat_at F w xs j p hj)⟩
theorem Flat.read (F : Flat d enc) {w : World} {A : Option Addr} {n : Nat} {xs : List α} (h : d.C w A n xs) (h0 : 0 < n) : ∃ a, A = some a ∧ ∀ j v, (xs.flatMap enc)[j]? = some v → w.cell? (a.add j) = some v := by
  obtain ⟨a, e, hc⟩ := h.2.2 h0
  refine ⟨a, e, fun j v hj => ?_⟩
  have hl := flat_len F w xs
  have hjl : j < (xs.flatMap enc).length := (List.getElem?_eq_some_iff.1 hj).1
  have hsz : 0 < d.sz := by
    rcases Nat.eq_zero_or_pos d.sz with h | h
    · rw [h] at hl
      omega
    · exact h
  have hq : j / d.sz < xs.length := by
    rw [Nat.div_lt_iff_lt_mul hsz]
    omega
  obtain ⟨c, _, hr, hcell⟩ := hc (j / d.sz) _ (List.getElem?_eq_getElem hq)
  have he := F.K.1 hr
  have hat := flat_at F w xs (j / d.sz) _ (List.getElem?_eq_getElem hq)
  have := hcell (j % d.sz) v (by
    rw [he, ← hat, List.getElem?_take, if_pos (Nat.mod_lt _ hsz), List.getElem?_drop, Nat.div_add_mod']
    exact hj)
  rwa [Nat.div_add_mod'] at this
end
theorem ownsRow_setRow {w : World} {base : Nat} {e : TypeId} {size g n cap : Nat} {cur : Array Value} (hb : base ≤ g) (hg : w.heap[g]? = some (.cells cur e (0, 0))) (hn : n ≤ cap) (hm : cap ≤ maxLen) (cur' : Array Value) (hc : cur'.size = cap * size) (xs : List Value)
    (hx : xs.length = n * size) (ht : cur'.toList.take (n * size) = xs) : (w.setRow g cur').ownsRow base e size (.slice (some ⟨g, 0, none⟩) n cap) n xs :=
  ⟨hx, .inr ⟨g, cap, cur', rfl, hb, setRow_heap w g cur cur' e (0, 0) hg, hn, hm, hc, ht⟩⟩
theorem append_own (w : World) (base : Nat) (t tx ty e e' : TypeId) (i : TypeInfo) (z : Value) (size bytes : Nat) (ht : P.underlying t = some (.slice e)) (htx : P.underlying tx = some (.slice e')) (hi : P.info? e = some i) (hz : i.zero = some z)
    (hsize : i.size = size) (hby : i.bytes = bytes) (hzs : z.cells.size = size) (hb0 : 0 < bytes)
    (v : Value) (n : Nat) (xs : List Value) (hown : w.ownsRow base e size v n xs)
    (a : Addr) (m c : Nat) (hm0 : 0 < m) (news : List Value) (hl : news.length = m * size) (hnews : ∀ j u, news[j]? = some u → w.cell? (a.add j) = some u) (h1 : ∀ u ∈ news, u.oneCell' = true)
    (hbytes : (n + m) * bytes ≤ 140737488355328) (hbase : base ≤ w.heap.size) :
    ∃ v' w', (Builtin.append_ #[t, tx] ty #[v, .slice (some a) m c]).run P w = .ok v' w' ∧ w'.ownsRow base e size v' (n + m) (xs ++ news) ∧ w.grownBy w' v.ownBlock ∧
      (v'.ownBlock = v.ownBlock ∨ v'.ownBlock = some w.heap.size) := by
  subst hsize
  subst hby
  have hle : n + m ≤ 140737488355328 := Nat.le_trans (Nat.le_mul_of_pos_right _ hb0) hbytes
  have hlen : (xs ++ news).length = (n + m) * i.size := by rw [List.length_append, hown.1, hl, Nat.add_mul]
  have hsrc : Src P i.size tx (.slice (some a) m c) m news w := Src.ofSlice w htx a m c news hl hnews h1
  have grown : ∀ (base' : Option Addr) (old : Nat), old < n + m → (Builtin.firstCells i.size n (.slice base' n old)).run P w.drew = .ok xs.toArray w.drew → ∀ (row : Option Nat),
      ∃ v' w', (Builtin.append_ #[t, tx] ty #[.slice base' n old, .slice (some a) m c]).run P w = .ok v' w' ∧ w'.ownsRow base e i.size v' (n + m) (xs ++ news) ∧ w.grownBy w' row ∧ v'.ownBlock = some w.heap.size := by
    intro base' old ho hold row
    have hr := run_append_grow_src (P := P) w t tx ty e i z ht hi hz base' n old xs hold _ m news hsrc ho (by omega) (growslice_fits ho hbytes)
    refine ⟨_, _, hr, ⟨hlen, .inr ⟨w.heap.size, _, _, rfl, hbase, heap_alloc_new w.drew _, grownCap_ge w _ _ _, grownCap_le_maxLen w _ _ e (by simp only [maxLen]; omega), ?_, ?_⟩⟩, ⟨rfl, rfl, rfl, by simp, fun k hk _ => heap_alloc_old w.drew _ hk⟩, rfl⟩
    · have := grownCap_ge w (n + m) old e
      simp only [Array.size_append, List.size_toArray, size_zeroCells, hzs, hlen, ← Nat.add_mul]
      congr 1
      omega
    · simp only [Array.toList_append]
      rw [← hlen]
      exact List.take_left
  rcases hown.2 with ⟨rfl, rfl⟩ | ⟨g, cap, cur, rfl, hb, hg, hnc, hcm, hcs, htk⟩
  · have hx : xs = [] := List.eq_nil_of_length_eq_zero (by rw [hown.1]; omega)
    subst hx
    obtain ⟨v', w', r1, r2, r3, r4⟩ := grown none 0 (by omega) (by simp [Builtin.firstCells]) (Value.ownBlock (.slice none 0 0))
    exact ⟨v', w', r1, r2, r3, .inr r4⟩
  · by_cases hroom : n + m ≤ cap
    · have hfit : n * i.size + news.length ≤ cur.size := by
        rw [hl, hcs, ← Nat.add_mul]
        exact Nat.mul_le_mul_right _ hroom
      have hst := run_storeCells_at P g (n * i.size) e news 0 cur w hg (by omega) h1
      simp only [Nat.add_zero] at hst
      have hr : (Builtin.append_ #[t, tx] ty #[.slice (some ⟨g, 0, none⟩) n cap, .slice (some a) m c]).run P w = .ok (.slice (some ⟨g, 0, none⟩) (n + m) cap) (w.setRow g (cur.toList.take (n * i.size) ++ news ++ cur.toList.drop (n * i.size + news.length)).toArray) := by
        simp [Builtin.append_, run_underlying ht, run_underlying htx, sizeOf, typeInfo, hi, hsrc.len, hroom, hsrc.cells, Addr.add_lit, hst]
      refine ⟨_, _, hr, ownsRow_setRow hb hg hroom hcm _ ?_ _ hlen ?_, setRow_grown _ _ _, .inl rfl⟩
      · simp only [List.size_toArray, List.length_append, List.length_take, List.length_drop, Array.length_toList]
        omega
      · rw [htk, List.append_assoc]
        show List.take _ (xs ++ (news ++ _)) = _
        rw [← List.append_assoc, ← hlen]
        exact List.take_left
    · have hold : (Builtin.firstCells i.size n (.slice (some ⟨g, 0, none⟩) n cap)).run P w.drew = .ok xs.toArray w.drew :=
        run_firstCells_some w.drew i.size n ⟨g, 0, none⟩ n cap xs hown.1 (fun j u hj => hown.cells rfl j u hj)
      obtain ⟨v', w', r1, r2, r3, r4⟩ := grown (some ⟨g, 0, none⟩) cap (by omega) hold (Value.ownBlock (.slice (some ⟨g, 0, none⟩) n cap))
      exact ⟨v', w', r1, r2, r3, .inr r4⟩
theorem wpList_run_append {ops : Array Oper} {rest : List Oper} {o : Oper} {a : Act} {w : World} {Q : Exit → Act → World → Prop} (hgd : o.guard = none) (s x : Operand) (t tx : TypeId)
    (ho : o.op = .call { callee := .builtin .append, args := #[s, x], argTypes := #[t, tx] }) (v u : Value) (hs : a.eval s = v) (hx : a.eval x = u) {v' : Value} {w' : World}
    (hr : (Builtin.append_ #[t, tx] o.type #[v, u]).run P w = .ok v' w') (h : wpList P ops Q rest (a.put o.dst v') w') : wpList P ops Q (o :: rest) a w := by
  refine wpList_plain hgd fun K hK => ?_
  unfold Oper.wp execOp
  simp only [ho, resolve, invoke, builtin, Sem.run_bind, Sem.run_pure, Result.andThen_ok, List.map_toArray, List.map_cons, List.map_nil, hs, hx, hr]
  exact hK _ _ h
theorem flatInt (k : IntKind) : Flat (Kd.int k) (fun x => [.int k x]) := ⟨Iff.rfl, Iff.rfl⟩
end Go.Proofs.YthabndifdgafbaaGreatDoor.XMem
end
section
-- Written by a program of this session's (wip/xp) out of the translation; given functions by hand.
namespace Go.Proofs.YthabndifdgafbaaGreatDoor.XA
open Go.RowKit Go.Proofs.YthabndifdgafbaaGreatDoorW.PrintWords Go.Proofs.YthabndifdgafbaaGreatDoorW.PrintLast Go.Proofs.YthabndifdgafbaaGreatDoorW.PrintMore
attribute [local go_sem] max2_int min2_int max_two min_two max_three min_three max_four min_four   -- for this text's walks alone
set_option linter.unusedVariables false
set_option linter.unusedSimpArgs false
theorem eA {α : Type} {a b : α} (h : a = b := by (try simp only [List.map_toArray, List.map_cons, List.map_nil]); first | done | rfl | (simp only [List.length_drop, List.length_take]; rfl)) : a = b := h
theorem eS {p : Prop} (h : p := by first | rfl | (simp; done) | (simp [*]; done)) : p := h
theorem aS {p : Prop} (h : p := by first | (with_reducible assumption) | assumption) : p := h
theorem dD {w W : World} (h : Drawn0 w W := by repeat (first | exact Drawn0.refl _ | apply Drawn0.step)) : Drawn0 w W := h
def monthsL : List Int := [31, 28, 31, 30, 31, 30, 31, 31, 30, 31, 30, 31]
def wordsT : List (List (List UInt8)) := [[[114, 101, 110, 117, 109, 98, 101, 114], [116, 111]], [[114, 101, 110, 97, 109, 101], []], [[114, 101, 112, 97, 114, 101, 110, 116], [117, 110, 100, 101, 114]], [[109, 101, 114, 103, 101], [105, 110, 116, 111]], [[115, 112, 108, 105, 116], [105, 110, 116, 111]], [[114, 101, 99, 111, 100, 101], [116, 111]], [[106, 111, 105, 110], [105, 110, 116, 111]], [[99, 97, 108, 101, 110, 100, 97, 114], [117, 110, 116, 105, 108]]]
def wordsL : List ByteArray := [⟨#[114, 101, 110, 117, 109, 98, 101, 114]⟩, ⟨#[116, 111]⟩, ⟨#[114, 101, 110, 97, 109, 101]⟩, ⟨#[]⟩, ⟨#[114, 101, 112, 97, 114, 101, 110, 116]⟩, ⟨#[117, 110, 100, 101, 114]⟩, ⟨#[109, 101, 114, 103, 101]⟩, ⟨#[105, 110, 116, 111]⟩, ⟨#[115, 112, 108, 105, 116]⟩, ⟨#[105, 110, 116, 111]⟩, ⟨#[114, 101, 99, 111, 100, 101]⟩, ⟨#[116, 111]⟩, ⟨#[106, 111, 105, 110]⟩, ⟨#[105, 110, 116, 111]⟩, ⟨#[99, 97, 108, 101, 110, 100, 97, 114]⟩, ⟨#[117, 110, 116, 105, 108]⟩]
structure Glob (w : World) : Prop where
  months : ∀ i : Nat, i < 12 → w.cell? ⟨2, i, none⟩ = some (.int .i64 (monthsL.getD i 0))
  pow10 : Lib.TabIs Tryz.prog w "internal/strconv.uint64pow10" .u64 Lib.pow10Tab
  synErr : ∃ te pe, w.cell? ⟨6, 0, none⟩ = some (.iface te pe)
  rngErr : ∃ te pe, w.cell? ⟨7, 0, none⟩ = some (.iface te pe)
  words : ∀ i : Nat, i < 16 → w.cell? ⟨0, i, none⟩ = some (.string (wordsL.getD i ⟨#[]⟩))
theorem globalPow10 : Tryz.prog.globalNamed "internal/strconv.uint64pow10" = some 1 := by kernel_rfl
theorem Glob.below {w w' : World} (h : Below w.heap.size w w') (G : Glob w) : Glob w' := by
  refine ⟨fun i hi => pw_cell_below h (G.months i hi), ?_, ?_, ?_, fun i hi => pw_cell_below h (G.words i hi)⟩
  · exact Go.Joins.var_stays globalPow10 G.pow10 h (Nat.le_refl _)
  · obtain ⟨te, pe, h1⟩ := G.synErr
    exact ⟨te, pe, pw_cell_below h h1⟩
  · obtain ⟨te, pe, h1⟩ := G.rngErr
    exact ⟨te, pe, pw_cell_below h h1⟩
theorem Glob.drawn {w w' : World} (h : Drawn0 w w') (G : Glob w) : Glob w' := G.below h.below
theorem Glob.drewN {w : World} {n : Nat} (G : Glob w) : Glob (w.drewN n) := G.below (Drawn0.below (Drawn0.step (Drawn0.refl w) n))
theorem Glob.drew {w : World} (G : Glob w) : Glob w.drew := G.drewN (n := 1)
theorem info49 : (Tryz.prog.info? 49).map (fun i => (i.zero, i.size, i.bytes)) = some (some (.int .u16 0), 1, 2) := by kernel_rfl
-- the values' own types
end Go.Proofs.YthabndifdgafbaaGreatDoor.XA
end
section
-- Written by a program of this session's (wip/xp) out of the translation; given functions by hand.
namespace Go.Proofs.YthabndifdgafbaaGreatDoor.XA
open Go.RowKit Go.Proofs.YthabndifdgafbaaGreatDoorW.PrintWords Go.Proofs.YthabndifdgafbaaGreatDoorW.PrintLast Go.Proofs.YthabndifdgafbaaGreatDoorW.PrintMore
attribute [local go_sem] max2_int min2_int max_two min_two max_three min_three max_four min_four   -- for this text's walks alone
set_option linter.unusedVariables false
set_option linter.unusedSimpArgs false
def cmp_isNaN_uint16.f (a0 : Int) : Option (Bool) := some (a0 != a0)
set_option maxHeartbeats 8000000 in
set_option maxRecDepth 100000 in
theorem cmp_isNaN_uint16.calls (a0 : Int) (r : Bool) (w : World) (h : cmp_isNaN_uint16.f a0 = some r) :
  Calls Tryz.prog 159 #[.int .u16 a0] w fun e w' => e = .returned (.bool r) ∧ Drawn0 w w' := by
 have H : (some (a0 != a0)) = some r := h
 clear h
 obtain rfl := Option.some.inj H
 go_enter Tryz.func159, Tryz.ntmps159
 go_wp2
 go_ret
 exact ⟨eS, dD⟩
def cmp_Less_uint16.f (a0 : Int) (a1 : Int) : Option (Bool) := (cmp_isNaN_uint16.f a0).bind fun t101 => (if t101 = true then ((cmp_isNaN_uint16.f a1).bind fun t102 => (if t102 = true then (some (decide (a0 < a1))) else (some true))) else (some (decide (a0 < a1))))
set_option maxHeartbeats 8000000 in
set_option maxRecDepth 100000 in
theorem cmp_Less_uint16.calls (a0 : Int) (a1 : Int) (r : Bool) (w : World) (h : cmp_Less_uint16.f a0 a1 = some r) :
  Calls Tryz.prog 125 #[.int .u16 a0, .int .u16 a1] w fun e w' => e = .returned (.bool r) ∧ Drawn0 w w' := by
 have H : ((cmp_isNaN_uint16.f a0).bind fun t101 => (if t101 = true then ((cmp_isNaN_uint16.f a1).bind fun t102 => (if t102 = true then (some (decide (a0 < a1))) else (some true))) else (some (decide (a0 < a1))))) = some r := h
 clear h
 replace H := Option.bind_eq_some_iff.mp H
 obtain ⟨t101, A30, H⟩ := H
 replace H : (if t101 = true then ((cmp_isNaN_uint16.f a1).bind fun t102 => (if t102 = true then (some (decide (a0 < a1))) else (some true))) else (some (decide (a0 < a1)))) = some r := H
 have A3 := Aside0.mk A30
 clear A30
 by_cases c4 : t101 = true
 ·subst c4
  have H1 : ((cmp_isNaN_uint16.f a1).bind fun t102 => (if t102 = true then (some (decide (a0 < a1))) else (some true))) = some r := by rw [if_pos rfl] at H; exact H
  clear H
  have H := H1
  clear H1
  replace H := Option.bind_eq_some_iff.mp H
  obtain ⟨t102, A50, H⟩ := H
  replace H : (if t102 = true then (some (decide (a0 < a1))) else (some true)) = some r := H
  have A5 := Aside0.mk A50
  clear A50
  by_cases c6 : t102 = true
  ·subst c6
   have H1 : (some (decide (a0 < a1))) = some r := by rw [if_pos rfl] at H; exact H
   clear H
   have H := H1
   clear H1
   obtain rfl := Option.some.inj H
   go_enter Tryz.func125, Tryz.ntmps125
   go_wp2_with (first | ((with_reducible refine gate_callee (f := 159) rfl ?_); refine goesL_ (some 6) rfl rfl Tryz.func159 (by kernel_rfl) rfl #[.int .u16 a0] rfl eA ?_; (with_reducible refine (cmp_isNaN_uint16.calls a0 true _ A3.out).mono ?_); rintro e w' ⟨rfl, ⟨nd, rfl⟩⟩; refine ⟨_, rfl, ?_⟩) | (go_at_call 159; (with_reducible refine (cmp_isNaN_uint16.calls a1 true _ A5.out).mono ?_); rintro e w' ⟨rfl, ⟨nd, rfl⟩⟩))
   go_ret
   exact ⟨eS, dD⟩
  ·replace c6 := Bool.eq_false_iff.mpr c6
   subst c6
   have H1 : (some true) = some r := by rw [if_neg (show ¬ (false = true) by decide)] at H; exact H
   clear H
   have H := H1
   clear H1
   obtain rfl := Option.some.inj H
   go_enter Tryz.func125, Tryz.ntmps125
   go_wp2_with (first | ((with_reducible refine gate_callee (f := 159) rfl ?_); refine goesL_ (some 6) rfl rfl Tryz.func159 (by kernel_rfl) rfl #[.int .u16 a0] rfl eA ?_; (with_reducible refine (cmp_isNaN_uint16.calls a0 true _ A3.out).mono ?_); rintro e w' ⟨rfl, ⟨nd, rfl⟩⟩; refine ⟨_, rfl, ?_⟩) | (go_at_call 159; (with_reducible refine (cmp_isNaN_uint16.calls a1 false _ A5.out).mono ?_); rintro e w' ⟨rfl, ⟨nd, rfl⟩⟩))
   go_ret
   exact ⟨eS, dD⟩
 ·replace c4 := Bool.eq_false_iff.mpr c4
  subst c4
  have H1 : (some (decide (a0 < a1))) = some r := by rw [if_neg (show ¬ (false = true) by decide)] at H; exact H
  clear H
  have H := H1
  clear H1
  obtain rfl := Option.some.inj H
  go_enter Tryz.func125, Tryz.ntmps125
  go_wp2_with (first | ((with_reducible refine gate_callee (f := 159) rfl ?_); refine goesL_ (some 6) rfl rfl Tryz.func159 (by kernel_rfl) rfl #[.int .u16 a0] rfl eA ?_; (with_reducible refine (cmp_isNaN_uint16.calls a0 false _ A3.out).mono ?_); rintro e w' ⟨rfl, ⟨nd, rfl⟩⟩; refine ⟨_, rfl, ?_⟩))
  go_ret
  exact ⟨eS, dD⟩
def slices_isNaN_uint16.f (a0 : Int) : Option (Bool) := some (a0 != a0)
set_option maxHeartbeats 8000000 in
set_option maxRecDepth 100000 in
theorem slices_isNaN_uint16.calls (a0 : Int) (r : Bool) (w : World) (h : slices_isNaN_uint16.f a0 = some r) :
  Calls Tryz.prog 145 #[.int .u16 a0] w fun e w' => e = .returned (.bool r) ∧ Drawn0 w w' := by
 have H : (some (a0 != a0)) = some r := h
 clear h
 obtain rfl := Option.some.inj H
 go_enter Tryz.func145, Tryz.ntmps145
 go_wp2
 go_ret
 exact ⟨eS, dD⟩
def unit_Units_uint16_104.l0 : Nat → List Int → Int → Int → Int → Int → Option (Int × Bool)
 | 0, _, _, _, _, _ => none
 | k + 1, x0, x1, x6, x7, x8 => if x7 < x8 then (if 0 ≤ (wrap64 ((IntKind.u64.wrap (wrap64 (x7 + x8))) / 2)) then (if (wrap64 ((IntKind.u64.wrap (wrap64 (x7 + x8))) / 2)) < (x0.length : Int) then ((cmp_Less_uint16.f (rd x0 (wrap64 ((IntKind.u64.wrap (wrap64 (x7 + x8))) / 2))) x1).bind fun t104 => (if t104 = true then (unit_Units_uint16_104.l0 k x0 x1 x6 (wrap64 ((wrap64 ((IntKind.u64.wrap (wrap64 (x7 + x8))) / 2)) + 1)) x8) else (unit_Units_uint16_104.l0 k x0 x1 x6 x7 (wrap64 ((IntKind.u64.wrap (wrap64 (x7 + x8))) / 2))))) else (none)) else (none)) else (if x7 < x6 then (if 0 ≤ x7 then (if x7 < (x0.length : Int) then (if (rd x0 x7) = x1 then (some (x7, true)) else ((slices_isNaN_uint16.f (rd x0 x7)).bind fun t107 => (if t107 = true then ((slices_isNaN_uint16.f x1).bind fun t108 => (some (x7, t108))) else (some (x7, false))))) else (none)) else (none)) else (some (x7, false)))
def unit_Units_uint16_104.f (k : Nat) (l0 : List Int) (a1 : Int) : Option (Int × Bool) := unit_Units_uint16_104.l0 k l0 a1 (l0.length : Int) 0 (l0.length : Int)
theorem unit_Units_uint16_104.mono_l : ∀ k, (∀ y0 y1 y2 y3 y4, LeO (unit_Units_uint16_104.l0 k y0 y1 y2 y3 y4) (unit_Units_uint16_104.l0 (k + 1) y0 y1 y2 y3 y4))
 | 0 => fun _ _ _ _ _ r h => by simp [unit_Units_uint16_104.l0] at h
 | k + 1 => by
  have ih0 := unit_Units_uint16_104.mono_l k
  ·intro y0 y1 y2 y3 y4
   unfold unit_Units_uint16_104.l0
   repeat' (with_reducible first | apply ih0 | apply LeO.refl | apply LeO.none | refine LeO.ite ?_ ?_ | refine LeO.bind ?_ (fun _ => ?_))
theorem unit_Units_uint16_104.mono : ∀ a0 a1 k, LeO (unit_Units_uint16_104.f k a0 a1) (unit_Units_uint16_104.f (k + 1) a0 a1) := by
 intro a0 a1 k
 have ih0 := unit_Units_uint16_104.mono_l k
 unfold unit_Units_uint16_104.f
 repeat' (with_reducible first | apply ih0 | apply LeO.refl | apply LeO.none | refine LeO.ite ?_ ?_ | refine LeO.bind ?_ (fun _ => ?_))
set_option maxHeartbeats 8000000 in
set_option maxRecDepth 100000 in
theorem unit_Units_uint16_104.calls (k : Nat) (A0 : Option Addr) (c0 : Nat) (l0 : List Int) (a1 : Int) (r1 : Int) (r2 : Bool) (w : World) (hr0 : Kd.C (Kd.int .u16) w A0 l0.length l0) (hc0 : l0.length ≤ c0) (h : unit_Units_uint16_104.f k l0 a1 = some (r1, r2)) :
  Calls Tryz.prog 104 #[.slice A0 l0.length c0, .int .u16 a1] w fun e w' => e = .returned (.tuple #[.int .i64 r1, .bool r2]) ∧ Drawn0 w w' := by
 have HR0 := Aside0.mk hr0
 have HC0 := Aside0.mk hc0
 clear hr0 hc0
 have H : (unit_Units_uint16_104.l0 k l0 a1 (l0.length : Int) 0 (l0.length : Int)) = some (r1, r2) := h
 clear h
 have H' := Aside0.mk H
 clear H
 go_enter Tryz.func104, Tryz.ntmps104
 go_wp2
 go_loopg [7, 8] k (fun kq v7 v8 w' => ∃ (x7_1 : Int) (x8_1 : Int), v7 = .int .i64 x7_1 ∧ v8 = .int .i64 x8_1 ∧ Aside0 (unit_Units_uint16_104.l0 kq l0 a1 (l0.length : Int) x7_1 x8_1 = some (r1, r2)) ∧ Aside0 (kq ≤ k) ∧ Drawn0 w w')
 case atStart => exact ⟨(0), ((l0.length : Int)), eS, eS, H', ⟨Nat.le_refl _⟩, dD⟩
 case round =>
  clear H'
  try clear c1
  try clear p2
  obtain ⟨x7_1, x8_1, rfl, rfl, HA, HK1, ⟨m1, rfl⟩⟩ := hrel
  cases gk with
  | zero => exact absurd HA.out (by simp [unit_Units_uint16_104.l0])
  | succ k1 =>
   have H := HA.out
   clear HA
   simp only [unit_Units_uint16_104.l0] at H
   by_cases c3 : x7_1 < x8_1
   ·rw [if_pos c3] at H
    have c3b0 : decide (x7_1 < x8_1) = true := decide_eq_true c3
    clear c3
    obtain ⟨ji4, hji4⟩ : ∃ j_ : Int, (wrap64 ((IntKind.u64.wrap (wrap64 (x7_1 + x8_1))) / 2)) = j_ := ⟨_, rfl⟩
    replace H : (if 0 ≤ (ji4) then (if (ji4) < (l0.length : Int) then ((cmp_Less_uint16.f (rd l0 (ji4)) a1).bind fun t104 => (if t104 = true then (unit_Units_uint16_104.l0 k1 l0 a1 (l0.length : Int) (wrap64 ((ji4) + 1)) x8_1) else (unit_Units_uint16_104.l0 k1 l0 a1 (l0.length : Int) x7_1 ji4))) else (none)) else (none)) = some (r1, r2) := by first | (rw [hji4] at H; exact H) | (simp only [hji4] at H ⊢; exact H)
    have hji4w : (IntKind.i64.wrap ((IntKind.u64.wrap (wrap64 (x7_1 + x8_1))) / 2)) = ji4 := (i64_w _).trans hji4
    by_cases c5 : 0 ≤ (ji4)
    ·rw [if_pos c5] at H
     have c5b0 : decide (0 ≤ (ji4)) = true := decide_eq_true c5
     clear c5
     by_cases c6 : (ji4) < (l0.length : Int)
     ·rw [if_pos c6] at H
      have c6b0 : decide ((ji4) < (l0.length : Int)) = true := decide_eq_true c6
      clear c6
      replace H := Option.bind_eq_some_iff.mp H
      obtain ⟨t104, A70, H⟩ := H
      replace H : (if t104 = true then (unit_Units_uint16_104.l0 k1 l0 a1 (l0.length : Int) (wrap64 ((ji4) + 1)) x8_1) else (unit_Units_uint16_104.l0 k1 l0 a1 (l0.length : Int) x7_1 ji4)) = some (r1, r2) := H
      have A7 := Aside0.mk A70
      clear A70
      by_cases c8 : t104 = true
      ·subst c8
       have H1 : (unit_Units_uint16_104.l0 k1 l0 a1 (l0.length : Int) (wrap64 ((ji4) + 1)) x8_1) = some (r1, r2) := by rw [if_pos rfl] at H; exact H
       clear H
       have H := H1
       clear H1
       have H' := Aside0.mk H
       clear H
       have p103 : 0 ≤ ((ji4) : Int) := of_decide_eq_true aS
       have q103 : (ji4) < (l0.length : Int) := of_decide_eq_true aS
       obtain ⟨ad103, e103, hx103_0⟩ := Kd.at_int HR0.out (ji4) p103 q103
       cases e103
       replace p103 := eq_true p103
       replace q103 := eq_true q103
       go_wp2_with (first | ((with_reducible refine gate_callee (f := 125) rfl ?_); refine goesL_ (some 27) rfl rfl Tryz.func125 (by kernel_rfl) rfl #[.int .u16 (rd l0 (ji4)), .int .u16 a1] rfl (by (try simp only [List.map_toArray, List.map_cons, List.map_nil]); first | done | (simp only [hji4]; rfl) | rfl | (simp only [List.length_drop, List.length_take]; rfl)) ?_; (with_reducible refine (cmp_Less_uint16.calls (rd l0 (ji4)) a1 true _ A7.out).mono ?_); rintro e w' ⟨rfl, ⟨nd, rfl⟩⟩; refine ⟨_, rfl, ?_⟩))
       go_roundg k1
       case measure => have := HK1.out; omega
       case rel => exact ⟨(wrap64 ((ji4) + 1)), (x8_1), (by first | rfl | (simp; done) | (simp only [← hji4] <;> (first | rfl | simp)) | (simp [*]; done)), eS, H', ⟨by have := HK1.out; omega⟩, dD⟩
      ·replace c8 := Bool.eq_false_iff.mpr c8
       subst c8
       have H1 : (unit_Units_uint16_104.l0 k1 l0 a1 (l0.length : Int) x7_1 ji4) = some (r1, r2) := by rw [if_neg (show ¬ (false = true) by decide)] at H; exact H
       clear H
       have H := H1
       clear H1
       have H' := Aside0.mk H
       clear H
       have p103 : 0 ≤ ((ji4) : Int) := of_decide_eq_true aS
       have q103 : (ji4) < (l0.length : Int) := of_decide_eq_true aS
       obtain ⟨ad103, e103, hx103_0⟩ := Kd.at_int HR0.out (ji4) p103 q103
       cases e103
       replace p103 := eq_true p103
       replace q103 := eq_true q103
       go_wp2_with (first | ((with_reducible refine gate_callee (f := 125) rfl ?_); refine goesL_ (some 27) rfl rfl Tryz.func125 (by kernel_rfl) rfl #[.int .u16 (rd l0 (ji4)), .int .u16 a1] rfl (by (try simp only [List.map_toArray, List.map_cons, List.map_nil]); first | done | (simp only [hji4]; rfl) | rfl | (simp only [List.length_drop, List.length_take]; rfl)) ?_; (with_reducible refine (cmp_Less_uint16.calls (rd l0 (ji4)) a1 false _ A7.out).mono ?_); rintro e w' ⟨rfl, ⟨nd, rfl⟩⟩; refine ⟨_, rfl, ?_⟩))
       go_roundg k1
       case measure => have := HK1.out; omega
       case rel => exact ⟨(x7_1), (ji4), eS, (by first | rfl | (simp; done) | (simp only [← hji4] <;> (first | rfl | simp)) | (simp [*]; done)), H', ⟨by have := HK1.out; omega⟩, dD⟩
     ·rw [if_neg c6] at H
      exact absurd H (by simp)
    ·rw [if_neg c5] at H
     exact absurd H (by simp)
   ·rw [if_neg c3] at H
    have c3b0 : decide (x7_1 < x8_1) = false := decide_eq_false c3
    clear c3
    by_cases c9 : x7_1 < (l0.length : Int)
    ·rw [if_pos c9] at H
     have c9b0 : decide (x7_1 < (l0.length : Int)) = true := decide_eq_true c9
     clear c9
     by_cases c10 : 0 ≤ x7_1
     ·rw [if_pos c10] at H
      have c10b0 : decide (0 ≤ x7_1) = true := decide_eq_true c10
      clear c10
      by_cases c11 : x7_1 < (l0.length : Int)
      ·rw [if_pos c11] at H
       have c11b0 : decide (x7_1 < (l0.length : Int)) = true := decide_eq_true c11
       clear c11
       by_cases c12 : (rd l0 x7_1) = a1
       ·rw [if_pos c12] at H
        have c12b0 : ((rd l0 x7_1) == a1) = true := beq_iff_eq.mpr c12
        have c12b1 : ((rd l0 x7_1) != a1) = false := bne_eq_false_iff_eq.mpr c12
        clear c12
        simp only [Option.some.injEq, Prod.mk.injEq] at H
        obtain ⟨rfl, rfl⟩ := H
        have p105 : 0 ≤ (x7_1 : Int) := of_decide_eq_true aS
        have q105 : x7_1 < (l0.length : Int) := of_decide_eq_true aS
        obtain ⟨ad105, e105, hx105_0⟩ := Kd.at_int HR0.out x7_1 p105 q105
        cases e105
        replace p105 := eq_true p105
        replace q105 := eq_true q105
        go_wp2
        go_ret2
        exact ⟨eS, dD⟩
       ·rw [if_neg c12] at H
        have c12b0 : ((rd l0 x7_1) == a1) = false := beq_eq_false_iff_ne.mpr c12
        have c12b1 : ((rd l0 x7_1) != a1) = true := bne_iff_ne.mpr c12
        replace H := Option.bind_eq_some_iff.mp H
        obtain ⟨t107, A130, H⟩ := H
        replace H : (if t107 = true then ((slices_isNaN_uint16.f a1).bind fun t108 => (some (x7_1, t108))) else (some (x7_1, false))) = some (r1, r2) := H
        have A13 := Aside0.mk A130
        clear A130
        by_cases c14 : t107 = true
        ·subst c14
         have H1 : ((slices_isNaN_uint16.f a1).bind fun t108 => (some (x7_1, t108))) = some (r1, r2) := by rw [if_pos rfl] at H; exact H
         clear H
         have H := H1
         clear H1
         replace H := Option.bind_eq_some_iff.mp H
         obtain ⟨t108, A150, H⟩ := H
         replace H : (some (x7_1, t108)) = some (r1, r2) := H
         have A15 := Aside0.mk A150
         clear A150
         simp only [Option.some.injEq, Prod.mk.injEq] at H
         obtain ⟨rfl, rfl⟩ := H
         have p105 : 0 ≤ (x7_1 : Int) := of_decide_eq_true aS
         have q105 : x7_1 < (l0.length : Int) := of_decide_eq_true aS
         obtain ⟨ad105, e105, hx105_0⟩ := Kd.at_int HR0.out x7_1 p105 q105
         cases e105
         replace p105 := eq_true p105
         replace q105 := eq_true q105
         have p106 : 0 ≤ (x7_1 : Int) := of_decide_eq_true aS
         have q106 : x7_1 < (l0.length : Int) := of_decide_eq_true aS
         obtain ⟨ad106, e106, hx106_0⟩ := Kd.at_int HR0.out x7_1 p106 q106
         obtain rfl : ad105 = ad106 := (by injection e106)
         replace p106 := eq_true p106
         replace q106 := eq_true q106
         go_wp2_with (first | (go_at_call 145; (with_reducible refine (slices_isNaN_uint16.calls (rd l0 x7_1) true _ A13.out).mono ?_); rintro e w' ⟨rfl, ⟨nd, rfl⟩⟩) | (go_at_call 145; (with_reducible refine (slices_isNaN_uint16.calls a1 t108 _ A15.out).mono ?_); rintro e w' ⟨rfl, ⟨nd, rfl⟩⟩))
         go_ret2
         exact ⟨eS, dD⟩
        ·replace c14 := Bool.eq_false_iff.mpr c14
         subst c14
         have H1 : (some (x7_1, false)) = some (r1, r2) := by rw [if_neg (show ¬ (false = true) by decide)] at H; exact H
         clear H
         have H := H1
         clear H1
         simp only [Option.some.injEq, Prod.mk.injEq] at H
         obtain ⟨rfl, rfl⟩ := H
         have p105 : 0 ≤ (x7_1 : Int) := of_decide_eq_true aS
         have q105 : x7_1 < (l0.length : Int) := of_decide_eq_true aS
         obtain ⟨ad105, e105, hx105_0⟩ := Kd.at_int HR0.out x7_1 p105 q105
         cases e105
         replace p105 := eq_true p105
         replace q105 := eq_true q105
         have p106 : 0 ≤ (x7_1 : Int) := of_decide_eq_true aS
         have q106 : x7_1 < (l0.length : Int) := of_decide_eq_true aS
         obtain ⟨ad106, e106, hx106_0⟩ := Kd.at_int HR0.out x7_1 p106 q106
         obtain rfl : ad105 = ad106 := (by injection e106)
         replace p106 := eq_true p106
         replace q106 := eq_true q106
         go_wp2_with (first | (go_at_call 145; (with_reducible refine (slices_isNaN_uint16.calls (rd l0 x7_1) false _ A13.out).mono ?_); rintro e w' ⟨rfl, ⟨nd, rfl⟩⟩))
         go_ret2
         exact ⟨eS, dD⟩
      ·rw [if_neg c11] at H
       exact absurd H (by simp)
     ·rw [if_neg c10] at H
      exact absurd H (by simp)
    ·rw [if_neg c9] at H
     have c9b0 : decide (x7_1 < (l0.length : Int)) = false := decide_eq_false c9
     clear c9
     simp only [Option.some.injEq, Prod.mk.injEq] at H
     obtain ⟨rfl, rfl⟩ := H
     go_wp2
     go_ret2
     exact ⟨eS, dD⟩
def unit_Units_uint16_102.f (l0 : List Int) : Option (List Int) := if l0.length < 1000000000000 then some l0 else none
theorem unit_Units_uint16_102.eqd {P : Program} (w : World) (d : Nat) (t e : TypeId) (a : Option Addr) (n c : Nat) (h : P.underlying t = some (.slice e)) :
    (Op.equalIn (d + 1) t (.slice a n c) (.slice none 0 0)).run P w = .ok a.isNone w := by
  cases a <;> simp [Op.equalIn, run_underlying h]
theorem unit_Units_uint16_102.eqg {P : Program} (w : World) (t e : TypeId) (a : Option Addr) (n c : Nat) (h : P.underlying t = some (.slice e)) :
    (binOp .eql t (.slice a n c) (.slice none 0 0)).run P w = .ok (.bool a.isNone) w := by
  simp only [binOp]
  simp [Op.equal, Op.maxDepth, unit_Units_uint16_102.eqd w 9999 t e a n c h]
theorem unit_Units_uint16_102.eqn (w : World) (a : Option Addr) (n c : Nat) : (binOp .eql 78 (.slice a n c) (.slice none 0 0)).run Tryz.prog w = .ok (.bool a.isNone) w := unit_Units_uint16_102.eqg w 78 49 a n c Tryz.underlying78
attribute [local go_sem] unit_Units_uint16_102.eqn
theorem unit_Units_uint16_102.calls (A0 : Option Addr) (c0 : Nat) (l0 : List Int) (r : List Int) (w : World) (hr0 : Kd.C (Kd.int .u16) w A0 l0.length l0) (hc0 : l0.length ≤ c0) (h : unit_Units_uint16_102.f l0 = some r) :
    Calls Tryz.prog 102 #[.slice A0 l0.length c0] w fun e w' => ∃ v0_ : Value, e = .returned (v0_) ∧ Kd.R (Kd.int .u16) 49 w' w.heap.size (fun _ => True) v0_ r ∧ Below w.heap.size w w' := by
  have hu := Tryz.underlying78
  unfold unit_Units_uint16_102.f at h
  split at h
  case isFalse => cases h
  rename_i hlim
  obtain rfl := Option.some.inj h
  have HR0 := Aside0.mk hr0
  clear hr0 h
  rcases A0 with _ | ad
  · have hl0 : l0 = [] := by
      rcases Nat.eq_zero_or_pos l0.length with h0 | h0
      · exact List.length_eq_zero_iff.1 h0
      · obtain ⟨ad, h, _⟩ := HR0.out.2.2 h0
        cases h
    subst hl0
    go_enter Tryz.func102, Tryz.ntmps102
    go_wp2
    go_ret
    exact ⟨_, rfl, Kd.R_nil _ _ _ _ _, Below.refl _ _⟩
  · go_enter Tryz.func102, Tryz.ntmps102
    go_wp2_with (first
      | ((with_reducible refine gate_dst (N := 5) rfl ?_); refine Kd.R_lit (Kd.int .u16) (w0 := w) w.heap.size 49 ?hg (N := 5) ?hd (xs := ([] : List Int)) (inner := []) (ok := fun _ => True) (okp := fun _ => True) ?hr ?hp (fun _ hk => hk) trivial (Below.refl _ _) (Nat.le_refl _) (by simp) ?_; (case hd => rfl); (case hg => rfl); (case hr => first | (go_simp; done) | (go_simp; rfl)); (case hp => exact Reps.none _ _); intro v5 w1 ho5 hb5 hg_ hnew_; have HO5 := Aside0.mk ho5; have HB := Aside0.mk hb5; clear ho5 hb5 hg_ hnew_; obtain ⟨Ao5, co5, eo5⟩ := Kd.R_slice HO5.out; subst eo5)
      | ((with_reducible refine gate_builtin (b := .append) (xs := #[.tmp 5, .tmp 6]) rfl ?_); at_builtin; refine Kd.R_append_rows (Kd.int .u16) (Rr := ((Kd.int .u16)).K w) (w0 := w) w.heap.size rfl (.tmp 5) (.tmp 6) 78 49 (.int .u16 0) 2 rfl Tryz.underlying78 info49 rfl (by decide) (by omega) (.slice Ao5 ([] : List Int).length co5) [] l0 (some ad) l0.length c0 (fun _ => True) (fun _ => False) rfl rfl ?aO ?aR ?aK (fun _ h => h.elim) (fun _ _ => trivial) ?aB ?aS ?aL ?_; (case aO => exact HO5.out); (case aR => exact ReadsRow.imp_ HR0.out HB.out (fun _ _ h => h)); (case aK => intro x cs hx; exact ((XMem.flatInt .u16)).M.2 (((XMem.flatInt .u16)).K.1 hx)); (case aB => exact HB.out); (case aS => exact below_size HB.out); (case aL => simp; omega); intro v7 w2 ho7 hb7 hg_ hnew_))
    go_ret
    exact ⟨_, rfl, ho7, hb7⟩
set_option maxHeartbeats 8000000 in
set_option maxRecDepth 100000 in
theorem unit_Units_uint16_105.end_ (w : World) (base : Nat) (v : Value) (n : Nat) (X V : List Value) (g : Nat) (hV : V.length = 1) (hown : w.ownsRow base 49 1 v n X) (hb : base ≤ w.heap.size) (hg : w.heap[g]? = some (.cells V.toArray 49 (0, 0))) (h1 : ∀ u ∈ V, u.oneCell' = true) (hn : n < 1000000000000) :
    Calls Tryz.prog 105 #[v, .int .i64 n, .slice (some ⟨g, 0, none⟩) 1 1] w fun e w' => ∃ v', e = .returned v' ∧ w'.ownsRow base 49 1 v' (n + 1) (X ++ V) ∧ w.grownBy w' v.ownBlock ∧ (v'.ownBlock = v.ownBlock ∨ v'.ownBlock = some w.heap.size) := by
  obtain ⟨i0, hi0, hzz⟩ := Option.map_eq_some_iff.1 info49
  simp only [Prod.mk.injEq] at hzz
  obtain ⟨hz0, hz1, hz2⟩ := hzz
  obtain ⟨v', w', hr, r1, r2, r3⟩ := XMem.append_own (P := Tryz.prog) w base 78 77 78 49 49 i0 _ 1 2 Tryz.underlying78 Tryz.underlying77 hi0 hz0 hz1 hz2 rfl (by decide) v n X hown ⟨g, 0, none⟩ 1 1 (by decide) V (by omega) (fun j u hj => by
    have hadd : (⟨g, 0, none⟩ : Addr).add j = ⟨g, j, none⟩ := by unfold Addr.add; split <;> simp_all
    rw [hadd, cell_of_row w g j _ 49 (0, 0) hg]
    simpa using hj) h1 (by omega) hb
  have hsl : ∃ A c, v = .slice A n c ∧ n ≤ c := by
    rcases hown.2 with ⟨rfl, rfl⟩ | ⟨g', cap, cur, rfl, _, _, hnc, _⟩
    · exact ⟨_, _, rfl, Nat.le_refl _⟩
    · exact ⟨_, _, rfl, hnc⟩
  obtain ⟨A, c, rfl, hnc⟩ := hsl
  rcases A with _ | ad
  · go_enter Tryz.func105, Tryz.ntmps105
    go_wp2_with (at_builtin; refine XMem.wpList_run_append rfl _ _ 78 77 rfl _ _ rfl rfl hr ?_)
    all_goals (go_ret; exact ⟨_, rfl, r1, r2, r3⟩)
  · go_enter Tryz.func105, Tryz.ntmps105
    go_wp2_with (at_builtin; refine XMem.wpList_run_append rfl _ _ 78 77 rfl _ _ rfl rfl hr ?_)
    all_goals (go_ret; exact ⟨_, rfl, r1, r2, r3⟩)
set_option maxHeartbeats 8000000 in
set_option maxRecDepth 100000 in
theorem unit_Units_uint16_105.shift (w : World) (base : Nat) (gs n c i : Nat) (cur : Array Value) (X Y V : List Value) (g : Nat) (hi : i < n) (hX : X.length = i) (hY : Y.length = (n - i)) (hV : V.length = 1) (hgs : w.heap[gs]? = some (.cells cur 49 (0, 0))) (hcs : cur.size = c) (htk : cur.toList.take (n) = X ++ Y)
    (hroom : n + 1 ≤ c) (hcm : c ≤ maxLen) (hg : w.heap[g]? = some (.cells V.toArray 49 (0, 0))) (hne : g ≠ gs) (h1 : ∀ u ∈ V, u.oneCell' = true) (h2 : ∀ u ∈ Y, u.oneCell' = true) :
    Calls Tryz.prog 105 #[.slice (some ⟨gs, 0, none⟩) n c, .int .i64 i, .slice (some ⟨g, 0, none⟩) 1 1] w fun e w' => e = .returned (.slice (some ⟨gs, 0, none⟩) (n + 1) c) ∧ ∃ cur' : Array Value, w'.heap[gs]? = some (.cells cur' 49 (0, 0)) ∧ cur'.size = c ∧ cur'.toList.take ((n + 1)) = X ++ V ++ Y ∧ w.grownBy w' (some gs) := by
  obtain ⟨i0, hi0, hzz⟩ := Option.map_eq_some_iff.1 info49
  simp only [Prod.mk.injEq] at hzz
  obtain ⟨hz0, hz1, hz2⟩ := hzz
  have hcx : n + 1 ≤ 9223372036854775807 := by simp only [maxLen] at hcm; omega
  have hcx2 : c ≤ 9223372036854775807 := by simp only [maxLen] at hcm; omega
  have hov : ∀ lb cb, (callFunc 146 #[.slice (some ⟨g, 0, none⟩) 1 1, .slice (some ⟨gs, (i + 1), none⟩) lb cb]).run Tryz.prog w = .ok (.value (.bool false)) w := fun lb cb => by
    rw [run_callFunc_extern Tryz.func146 (by kernel_rfl) (by kernel_rfl) (by kernel_rfl) (e := Extern.SlicesOverlaps.overlaps #[77, 77] #[4]) (by kernel_rfl),
      Lib.run_overlaps_apart w 77 4 49 Tryz.underlying77 1 (fun w => by simp [Go.sizeOf, typeInfo, hi0, hz1]) ⟨g, 0, none⟩ ⟨gs, (i + 1), none⟩ 1 1 lb cb hne 49 49 1 cur.size (by simp [World.shape?, hg, hV]) (by simp [World.shape?, hgs]) (by omega) (by simp [World.frozen?, hg]) (by simp [World.frozen?, hg])]
    rfl
  have hcell : ∀ j u, Y[j]? = some u → w.cell? ((⟨gs, i, none⟩ : Addr).add j) = some u := fun j u hj => by
    rw [Addr.add_lit, cell_of_row w gs _ cur 49 (0, 0) hgs]
    have hjl := (List.getElem?_eq_some_iff.1 hj).1
    have : (cur.toList.take (n))[i + j]? = some u := by
      rw [htk, List.getElem?_append_right (by omega), hX]
      simpa using hj
    rw [List.getElem?_take] at this
    split at this
    · simpa using this
    · cases this
  have hlim : n + 1 ≤ cur.size := by rw [hcs]; omega
  have hcp1 : ∀ ty dc sc, (Builtin.copy_ #[78, 78] ty #[.slice (some ⟨gs, (i + 1), none⟩) (n - i) dc, .slice (some ⟨gs, i, none⟩) (n + 1 - i) sc]).run Tryz.prog w.drew = .ok (goInt ((n - i : Nat) : Int)) (w.drew.setRow gs (cur.toList.take ((i + 1)) ++ Y ++ cur.toList.drop ((i + 1) + Y.length)).toArray) := fun ty dc sc =>
    XMem.copy_run w.drew 78 78 ty 49 i0 Tryz.underlying78 hi0 gs ((i + 1)) cur 49 hgs (n - i) dc ⟨gs, i, none⟩ (n + 1 - i) sc (n - i) Y (by show min _ _ = _; omega) (by first | (rw [hY, hz1]; done) | (rw [hY, hz1]; simp)) hcell (by rw [hY]; omega) h2
  obtain ⟨cur1, hcur1⟩ : ∃ cur1, cur1 = (cur.toList.take ((i + 1)) ++ Y ++ cur.toList.drop ((i + 1) + Y.length)).toArray := ⟨_, rfl⟩
  rw [← hcur1] at hcp1
  have hs1 : cur1.size = c := by
    rw [hcur1, ← hcs]
    simp only [List.size_toArray, List.length_append, List.length_take, List.length_drop, Array.length_toList]
    omega
  have hX0 : cur.toList.take (i) = X := by
    have : (cur.toList.take (n)).take (i) = X := by rw [htk, ← hX, List.take_left]
    rwa [List.take_take, Nat.min_eq_left (by omega)] at this
  have hta : cur1.toList.take (i) = X := by
    rw [hcur1, List.append_assoc, List.take_append_of_le_length (by simp only [List.length_take, Array.length_toList]; omega), List.take_take, Nat.min_eq_left (by omega), hX0]
  have htb : cur1.toList.drop (i + V.length) = Y ++ cur.toList.drop ((i + 1) + Y.length) := by
    rw [hcur1, List.append_assoc]
    have hl : (cur.toList.take ((i + 1))).length = i + V.length := by rw [List.length_take, Array.length_toList]; omega
    show List.drop _ (_ ++ (_ ++ _)) = _
    rw [← hl, List.drop_left]
  clear hcur1
  obtain ⟨W1, hW1⟩ : ∃ W1, W1 = w.drew.setRow gs cur1 := ⟨_, rfl⟩
  have hg1 : W1.heap[gs]? = some (.cells cur1 49 (0, 0)) := by rw [hW1]; exact setRow_heap w.drew gs cur cur1 49 (0, 0) hgs
  have hgv : W1.heap[g]? = some (.cells V.toArray 49 (0, 0)) := by rw [hW1, XMem.setRow_other _ _ _ _ hne]; exact hg
  have hcp2 : ∀ (W : World), W.heap = W1.heap → ∀ ty dc, (Builtin.copy_ #[78, 77] ty #[.slice (some ⟨gs, i, none⟩) (n + 1 - i) dc, .slice (some ⟨g, 0, none⟩) 1 1]).run Tryz.prog W = .ok (goInt 1) (W.setRow gs (cur1.toList.take (i) ++ V ++ cur1.toList.drop (i + V.length)).toArray) := fun W hW ty dc =>
    XMem.copy_run W 78 77 ty 49 i0 Tryz.underlying78 hi0 gs (i) cur1 49 (by rw [hW]; exact hg1) (n + 1 - i) dc ⟨g, 0, none⟩ 1 1 1 V (by show min _ _ = _; omega) (by first | (rw [hV, hz1]; done) | (rw [hV, hz1]; simp))
      (fun j u hj => by
        rw [Addr.add_lit, Nat.zero_add, cell_of_row W g j _ 49 (0, 0) (by rw [hW]; exact hgv)]
        simpa using hj) (by rw [hV, hs1]; omega) h1
  have mixed : Tryz.prog.follows Departure.mixedOrders = true := by kernel_rfl
  have hend : ∃ cur' : Array Value, cur' = (cur1.toList.take (i) ++ V ++ cur1.toList.drop (i + V.length)).toArray ∧ cur'.size = c ∧ cur'.toList.take ((n + 1)) = X ++ V ++ Y := by
    refine ⟨_, rfl, ?_, ?_⟩
    · simp only [List.size_toArray, List.length_append, List.length_take, List.length_drop, Array.length_toList]
      omega
    · show List.take _ (_ ++ _ ++ _) = _
      rw [hta, htb, ← List.append_assoc, show (n + 1) = (X ++ V ++ Y).length by simp only [List.length_append]; omega, List.take_left]
  obtain ⟨cur2, hcur2, hs2, ht2⟩ := hend
  rw [← hcur2] at hcp2
  rw [← hW1] at hcp1
  have hheap : W1.heap = (W1 : World).heap := rfl
  have hgr : w.drew.grownBy W1 (some gs) := by rw [hW1]; exact XMem.setRow_grown _ _ _
  have hgr0 : w.grownBy W1 (some gs) := ⟨hgr.os, hgr.tape, hgr.output, hgr.size, hgr.block⟩
  clear hW1 hcur2 hta htb hX0 htk hs1
  have hz1' : ¬ ((1 : Int) = 0) := by omega
  have hz2' : ¬ ((i : Int) = (n : Int)) := by omega
  have hw1 : IntKind.i64.wrap ((i : Int) + 1) = (i : Int) + 1 := by rw [IntKind.wrap_i64]; omega
  have hb1 : (0 : Int) ≤ (i : Int) + 1 := by omega
  have hin : i ≤ n := by omega
  have htn : ((i : Int) + 1).toNat = i + 1 := by omega
  have hb2 : ¬ (c = i + 1) := by omega
  have hb3 : (i : Int) ≤ (n : Int) + 1 := by omega
  have hb4 : ¬ (c = i) := by omega
  go_enter Tryz.func105, Tryz.ntmps105
  go_wp2_with (simp only [hov])
  go_region_law_o (refine XMem.step_copy rfl _ _ 78 78 rfl _ _ (by simp [Act.eval, Act.put]) (by simp [Act.eval, Act.put]) (hcp1 _ _ _) ?_)
  go_wp2_with (at_builtin; refine XMem.wpList_copy _ rfl _ _ 78 77 rfl _ _ rfl rfl (hcp2 _ rfl _ _) ?_)
  go_ret
  refine ⟨rfl, cur2, ?_, hs2, ht2, ?_⟩
  · exact setRow_heap _ gs cur1 cur2 49 (0, 0) hg1
  · exact hgr0.trans (XMem.setRow_grown _ _ _)
set_option maxHeartbeats 8000000 in
set_option maxRecDepth 100000 in
theorem unit_Units_uint16_105.grow (w : World) (base : Nat) (gs n c i : Nat) (cur : Array Value) (X Y V : List Value) (g : Nat) (hi : i < n) (hX : X.length = i) (hY : Y.length = (n - i)) (hV : V.length = 1) (hgs : w.heap[gs]? = some (.cells cur 49 (0, 0))) (hcs : cur.size = c) (htk : cur.toList.take (n) = X ++ Y)
    (hnc : n ≤ c) (hroom : c < n + 1) (hcm : n < 1000000000000) (hg : w.heap[g]? = some (.cells V.toArray 49 (0, 0))) (h1 : ∀ u ∈ V, u.oneCell' = true) (h2 : ∀ u ∈ Y, u.oneCell' = true) :
    Calls Tryz.prog 105 #[.slice (some ⟨gs, 0, none⟩) n c, .int .i64 i, .slice (some ⟨g, 0, none⟩) 1 1] w fun e w' => ∃ c', e = .returned (.slice (some ⟨w.heap.size, 0, none⟩) (n + 1) c') ∧ n + 1 ≤ c' ∧ c' ≤ maxLen ∧ ∃ cur' : Array Value, w'.heap[w.heap.size]? = some (.cells cur' 49 (0, 0)) ∧ cur'.size = c' ∧ cur'.toList.take ((n + 1)) = X ++ V ++ Y ∧ w.grownBy w' none := by
  obtain ⟨i0, hi0, hzz⟩ := Option.map_eq_some_iff.1 info49
  simp only [Prod.mk.injEq] at hzz
  obtain ⟨hz0, hz1, hz2⟩ := hzz
  obtain ⟨z, hz⟩ : ∃ z, i0.zero = some z := ⟨_, hz0⟩
  have hzs : z.cells.size = 1 := by
    rw [hz0] at hz
    obtain rfl := Option.some.inj hz
    rfl
  have hcell : ∀ k j u, (cur.toList.take (n))[k + j]? = some u → w.cell? ((⟨gs, k, none⟩ : Addr).add j) = some u := fun k j u hj => by
    rw [Addr.add_lit, cell_of_row w gs _ cur 49 (0, 0) hgs]
    rw [List.getElem?_take] at hj
    split at hj
    · simpa using hj
    · cases hj
  have hold : (Builtin.firstCells i0.size i (.slice (some ⟨gs, 0, none⟩) i c)).run Tryz.prog w.drew = .ok X.toArray w.drew :=
    run_firstCells_some w.drew i0.size i ⟨gs, 0, none⟩ i c X (by first | (rw [hX, hz1]; done) | (rw [hX, hz1]; simp)) (fun j u hj => hcell 0 j u (by rw [Nat.zero_add, htk, List.getElem?_append_left (List.getElem?_eq_some_iff.1 hj).1]; exact hj))
  have hkk : (n : Int) + 1 - (i : Int) = ((n + 1 - i : Nat) : Int) := by omega
  have hik : i + (n + 1 - i) = n + 1 := by omega
  have hby : (n + 1) * 2 ≤ 140737488355328 := by omega
  have hfit := growslice_fits hroom hby
  have hrz : ∀ ty, (Builtin.append_ #[78, 3] ty #[.slice (some ⟨gs, 0, none⟩) i c, .int .i64 ((n : Int) + 1 - (i : Int))]).run Tryz.prog w =
      .ok (.slice (some ⟨w.heap.size, 0, none⟩) (n + 1) (grownCap w (n + 1) c 49)) (w.drew.alloc (.cells (X.toArray ++ Builtin.zeroCells z.cells (n + 1 - i) ++ Builtin.zeroCells z.cells (grownCap w (n + 1) c 49 - (n + 1))) 49)) := fun ty => by
    have h := Lib.run_append_grow_zeros w 78 3 ty 49 i0 z .i64 .i64 Tryz.underlying78 Tryz.underlying3 hi0 hz (some ⟨gs, 0, none⟩) i c X hold (n + 1 - i) (by omega) (by omega) (by omega) (by omega) (by rw [hz2]; omega) (by rw [hz2, hik]; exact hfit)
    rw [hik] at h
    rw [hkk]
    exact h
  obtain ⟨G, hG⟩ : ∃ G, G = grownCap w (n + 1) c 49 := ⟨_, rfl⟩
  have hGn : n + 1 ≤ G := by rw [hG]; exact grownCap_ge w _ _ _
  have hGm : G ≤ maxLen := by rw [hG]; exact grownCap_le_maxLen w (n + 1) c 49 (by simp only [maxLen]; omega)
  have hG63 : G ≤ 9223372036854775807 := by simp only [maxLen] at hGm; omega
  obtain ⟨ROW, hROW⟩ : ∃ ROW : Array Value, ROW = X.toArray ++ Builtin.zeroCells z.cells (n + 1 - i) ++ Builtin.zeroCells z.cells (G - (n + 1)) := ⟨_, rfl⟩
  rw [← hG, ← hROW] at hrz
  have hRs : ROW.size = G := by
    rw [hROW]
    simp only [Array.size_append, List.size_toArray, size_zeroCells, hzs, hX]
    omega
  have hRt : ROW.toList.take (i) = X := by
    rw [hROW, Array.toList_append, Array.toList_append, List.append_assoc, ← hX]
    exact List.take_left
  obtain ⟨W1, hW1⟩ : ∃ W1, W1 = w.drew.alloc (.cells ROW 49) := ⟨_, rfl⟩
  have hgr : w.grownBy W1 none := by
    rw [hW1]
    exact ⟨rfl, rfl, rfl, by simp, fun k hk _ => heap_alloc_old w.drew _ hk⟩
  have hN : W1.heap[w.heap.size]? = some (.cells ROW 49 (0, 0)) := by rw [hW1]; exact heap_alloc_new w.drew _
  have lt_of : ∀ {k : Nat} {o : Obj}, w.heap[k]? = some o → k < w.heap.size := fun h => (Array.getElem?_eq_some_iff.1 h).1
  have hgw : W1.heap[g]? = some (.cells V.toArray 49 (0, 0)) := (hgr.block g (lt_of hg) (by simp)).trans hg
  have hgsw : W1.heap[gs]? = some (.cells cur 49 (0, 0)) := (hgr.block gs (lt_of hgs) (by simp)).trans hgs
  have hgsn : gs ≠ w.heap.size := Nat.ne_of_lt (lt_of hgs)
  rw [← hW1] at hrz
  have hcpA : ∀ (W : World), W.heap = W1.heap → ∀ ty dc, (Builtin.copy_ #[78, 77] ty #[.slice (some ⟨w.heap.size, i, none⟩) (n + 1 - i) dc, .slice (some ⟨g, 0, none⟩) 1 1]).run Tryz.prog W = .ok (goInt 1) (W.setRow w.heap.size (ROW.toList.take (i) ++ V ++ ROW.toList.drop (i + V.length)).toArray) := fun W hW ty dc =>
    XMem.copy_run W 78 77 ty 49 i0 Tryz.underlying78 hi0 w.heap.size (i) ROW 49 (by rw [hW]; exact hN) (n + 1 - i) dc ⟨g, 0, none⟩ 1 1 1 V (by show min _ _ = _; omega) (by first | (rw [hV, hz1]; done) | (rw [hV, hz1]; simp))
      (fun j u hj => by
        rw [Addr.add_lit, Nat.zero_add, cell_of_row W g j _ 49 (0, 0) (by rw [hW]; exact hgw)]
        simpa using hj) (by rw [hV, hRs]; omega) h1
  obtain ⟨R1, hR1⟩ : ∃ R1, R1 = (ROW.toList.take (i) ++ V ++ ROW.toList.drop (i + V.length)).toArray := ⟨_, rfl⟩
  rw [← hR1] at hcpA
  have hR1s : R1.size = G := by
    rw [hR1, ← hRs]
    simp only [List.size_toArray, List.length_append, List.length_take, List.length_drop, Array.length_toList]
    omega
  have hR1t : R1.toList.take ((i + 1)) = X ++ V := by
    rw [hR1, hRt, show (i + 1) = (X ++ V).length by rw [List.length_append]; omega]
    exact List.take_left
  clear hR1 hROW
  have hcpB : ∀ (W W2 : World), W2.heap = W1.heap → W.heap = (W2.setRow w.heap.size R1).heap → ∀ ty dc sc, (Builtin.copy_ #[78, 78] ty #[.slice (some ⟨w.heap.size, (i + 1), none⟩) (n - i) dc, .slice (some ⟨gs, i, none⟩) (n - i) sc]).run Tryz.prog W = .ok (goInt ((n - i : Nat) : Int)) (W.setRow w.heap.size (R1.toList.take ((i + 1)) ++ Y ++ R1.toList.drop ((i + 1) + Y.length)).toArray) := fun W W2 hW2 hW ty dc sc =>
    XMem.copy_run W 78 78 ty 49 i0 Tryz.underlying78 hi0 w.heap.size ((i + 1)) R1 49 (by rw [hW]; exact setRow_heap W2 _ ROW R1 49 (0, 0) (by rw [hW2]; exact hN)) (n - i) dc ⟨gs, i, none⟩ (n - i) sc (n - i) Y (by show min _ _ = _; omega) (by first | (rw [hY, hz1]; done) | (rw [hY, hz1]; simp))
      (fun j u hj => by
        have hb : W.heap[gs]? = some (.cells cur 49 (0, 0)) := by rw [hW, XMem.setRow_other _ _ _ _ hgsn, hW2]; exact hgsw
        rw [Addr.add_lit, cell_of_row W gs _ cur 49 (0, 0) hb]
        have hjl := (List.getElem?_eq_some_iff.1 hj).1
        have : (cur.toList.take (n))[i + j]? = some u := by
          rw [htk, List.getElem?_append_right (by omega), hX]
          simpa using hj
        rw [List.getElem?_take] at this
        split at this
        · simpa using this
        · cases this) (by rw [hY, hR1s]; omega) h2
  have hend : ∃ cur' : Array Value, cur' = (R1.toList.take ((i + 1)) ++ Y ++ R1.toList.drop ((i + 1) + Y.length)).toArray ∧ cur'.size = G ∧ cur'.toList.take ((n + 1)) = X ++ V ++ Y := by
    refine ⟨_, rfl, ?_, ?_⟩
    · simp only [List.size_toArray, List.length_append, List.length_take, List.length_drop, Array.length_toList]
      omega
    · show List.take _ (_ ++ _ ++ _) = _
      rw [hR1t, show (n + 1) = (X ++ V ++ Y).length by simp only [List.length_append]; omega, List.take_left]
  obtain ⟨R2, hR2, hR2s, hR2t⟩ := hend
  rw [← hR2] at hcpB
  clear hR2 hR1t hRt hW1 hG hold hkk htk hcell hik hfit
  have mixed : Tryz.prog.follows Departure.mixedOrders = true := by kernel_rfl
  have hz1' : ¬ ((1 : Int) = 0) := by omega
  have hz2' : ¬ ((i : Int) = (n : Int)) := by omega
  have hz3' : (c : Int) < (n : Int) + 1 := by omega
  have hw1 : IntKind.i64.wrap ((i : Int) + 1) = (i : Int) + 1 := by rw [IntKind.wrap_i64]; omega
  have hb1 : (0 : Int) ≤ (i : Int) + 1 := by omega
  have hin : i ≤ n := by omega
  have htn : ((i : Int) + 1).toNat = i + 1 := by omega
  have hb3 : (i : Int) ≤ (n : Int) := by omega
  have hb4 : ¬ (c = i) := by omega
  have hGi : ¬ (G = i) := by omega
  have hGim : ¬ (G = i + 1) := by omega
  go_enter Tryz.func105, Tryz.ntmps105
  go_wp2_with (first
    | (at_builtin; refine XMem.wpList_run_append rfl _ _ 78 3 rfl _ _ rfl rfl (hrz _) ?_)
    | (at_builtin; refine XMem.wpList_copy _ rfl _ _ 78 77 rfl _ _ rfl rfl (hcpA _ rfl _ _) ?_))
  go_region_law_o (refine XMem.step_copy rfl _ _ 78 78 rfl (.slice (some ⟨w.heap.size, (i + 1), none⟩) (n - i) (G - (i + 1))) (.slice (some ⟨gs, i, none⟩) (n - i) (c - i)) (by simp [Act.eval, Act.put]) (by simp [Act.eval, Act.put]) (hcpB (W1.setRow w.heap.size R1).drew W1 rfl rfl 3 (G - (i + 1)) (c - i)) ?_)
  go_wp2
  trace_state
  go_ret
  have hW2 : ((W1.setRow w.heap.size R1).setRow w.heap.size R2).heap[w.heap.size]? = some (.cells R2 49 (0, 0)) := setRow_heap _ _ R1 R2 49 (0, 0) (setRow_heap _ _ ROW R1 49 (0, 0) hN)
  refine ⟨G, rfl, hGn, hGm, R2, ?_, hR2s, hR2t, ?_⟩
  · exact hW2
  · refine ⟨hgr.os, hgr.tape, hgr.output, ?_, fun k hk _ => ?_⟩
    · show w.heap.size ≤ ((W1.setRow w.heap.size R1).setRow w.heap.size R2).heap.size
      rw [XMem.setRow_size, XMem.setRow_size]
      exact hgr.size
    · show ((W1.setRow w.heap.size R1).setRow w.heap.size R2).heap[k]? = _
      rw [XMem.setRow_other _ _ _ _ (Nat.ne_of_lt hk), XMem.setRow_other _ _ _ _ (Nat.ne_of_lt hk)]
      exact hgr.block k hk (by simp)
theorem insU.own (w : World) (base : Nat) (v : Value) (n i : Nat) (X Y V : List Value) (g : Nat) (hi : i ≤ n) (hX : X.length = i) (hY : Y.length = (n - i)) (hV : V.length = 1) (hown : w.ownsRow base 49 1 v n (X ++ Y)) (hb : base ≤ w.heap.size) (hg : w.heap[g]? = some (.cells V.toArray 49 (0, 0))) (hne : v.ownBlock ≠ some g)
    (h1 : ∀ u ∈ V, u.oneCell' = true) (h2 : ∀ u ∈ Y, u.oneCell' = true) (hn : n < 1000000000000) :
    Calls Tryz.prog 105 #[v, .int .i64 i, .slice (some ⟨g, 0, none⟩) 1 1] w fun e w' => ∃ v', e = .returned v' ∧ w'.ownsRow base 49 1 v' (n + 1) (X ++ V ++ Y) ∧ w.grownBy w' v.ownBlock ∧ (v'.ownBlock = v.ownBlock ∨ v'.ownBlock = some w.heap.size) := by
  rcases Nat.lt_or_ge i n with hlt | hge
  · rcases hown.2 with ⟨rfl, rfl⟩ | ⟨gs, c, cur, rfl, hbg, hgs, hnc, hcm, hcs, htk⟩
    · exact absurd hlt (Nat.not_lt_zero _)
    · have hcs' : cur.size = c := by simpa using hcs
      have htk' : cur.toList.take (n) = X ++ Y := by simpa using htk
      rcases Nat.lt_or_ge c (n + 1) with hroom | hroom
      · refine (unit_Units_uint16_105.grow w base gs n c i cur X Y V g hlt hX hY hV hgs hcs' htk' hnc hroom hn hg h1 h2).mono ?_
        rintro e w' ⟨c', rfl, q1, q2, cur', q3, q4, q5, q6⟩
        refine ⟨_, rfl, ⟨?_, .inr ⟨_, c', cur', rfl, hb, q3, q1, q2, by simpa using q4, by simpa using q5⟩⟩, ⟨q6.os, q6.tape, q6.output, q6.size, fun k hk _ => q6.block k hk (by simp)⟩, .inr rfl⟩
        simp only [List.length_append, hX, hY, hV]
        omega
      · refine (unit_Units_uint16_105.shift w base gs n c i cur X Y V g hlt hX hY hV hgs hcs' htk' hroom hcm hg (fun e => hne (by rw [e]; rfl)) h1 h2).mono ?_
        rintro e w' ⟨rfl, cur', q3, q4, q5, q6⟩
        refine ⟨_, rfl, ⟨?_, .inr ⟨_, c, cur', rfl, hbg, q3, hroom, hcm, by simpa using q4, by simpa using q5⟩⟩, q6, .inl rfl⟩
        simp only [List.length_append, hX, hY, hV]
        omega
  · obtain rfl : i = n := Nat.le_antisymm hi hge
    have hY0 : Y = [] := List.eq_nil_of_length_eq_zero (by rw [hY]; simp)
    subst hY0
    rw [List.append_nil] at hown
    refine (unit_Units_uint16_105.end_ w base v i X V g hV hown hb hg h1 hn).mono ?_
    rintro e w' ⟨v', rfl, q1, q2, q3⟩
    exact ⟨v', rfl, by rw [List.append_nil]; exact q1, q2, q3⟩
def unit_Units_With.f (k : Nat) (l0 : List Int) (a1 : Int) : Option (List Int) :=
  (unit_Units_uint16_104.f k l0 a1).bind fun t => if l0.length < 1000000000 then (if t.2 = true then some l0 else (if 0 ≤ t.1 then (if t.1 ≤ (l0.length : Int) then some (l0.take t.1.toNat ++ [a1] ++ l0.drop t.1.toNat) else none) else none)) else none
theorem unit_Units_With.mono : ∀ a0 a1 k, LeO (unit_Units_With.f k a0 a1) (unit_Units_With.f (k + 1) a0 a1) := by
  intro a0 a1 k
  unfold unit_Units_With.f
  exact LeO.bind (unit_Units_uint16_104.mono _ _ _) (fun _ => LeO.refl _)
set_option maxHeartbeats 8000000 in
set_option maxRecDepth 100000 in
theorem unit_Units_With.calls (k : Nat) (A0 : Option Addr) (c0 : Nat) (l0 : List Int) (a1 : Int) (r : List Int) (w : World) (hr0 : Kd.C (Kd.int .u16) w A0 l0.length l0) (hc0 : l0.length ≤ c0) (h : unit_Units_With.f k l0 a1 = some r) :
    Calls Tryz.prog 73 #[.slice A0 l0.length c0, .int .u16 a1] w fun e w' => ∃ v0_ : Value, e = .returned (v0_) ∧ Kd.R (Kd.int .u16) 49 w' w.heap.size (fun _ => True) v0_ r ∧ Below w.heap.size w w' := by
  have HR0 := Aside0.mk hr0
  have HC0 := Aside0.mk hc0
  clear hr0 hc0
  have HB := Aside0.mk (Below.refl w.heap.size w)
  unfold unit_Units_With.f at h
  obtain ⟨⟨ti, tok⟩, A10, H⟩ := Option.bind_eq_some_iff.mp h
  have A1 := Aside0.mk A10
  clear h A10
  by_cases hlen : l0.length < 1000000000
  case neg => rw [if_neg hlen] at H; cases H
  rw [if_pos hlen] at H
  have HCl : unit_Units_uint16_102.f l0 = some l0 := if_pos (by omega)
  cases tok
  · rw [if_neg (by simp)] at H
    by_cases h0 : 0 ≤ ti
    case neg => rw [if_neg h0] at H; cases H
    rw [if_pos h0] at H
    obtain ⟨q, rfl⟩ := Int.eq_ofNat_of_zero_le h0
    by_cases hq : (q : Int) ≤ (l0.length : Int)
    case neg => rw [if_neg hq] at H; cases H
    rw [if_pos hq] at H
    obtain rfl := Option.some.inj H
    clear H
    go_enter Tryz.func73, Tryz.ntmps73
    go_wp2_with (first
      | (go_at_call 104; (with_reducible refine (unit_Units_uint16_104.calls k _ _ l0 a1 q false _ ?side1 ?side2 A1.out).mono ?_); (case side1 => exact Kd.C_below HR0.out HB.out); (case side2 => exact HC0.out); rintro e w5 ⟨rfl, hd⟩; have hb := hd.below; have n0_ := Aside0.mk (below_step HB.out hb); clear HB hb hd; have HB := n0_; clear n0_)
      | (go_at_call 102; (with_reducible refine (unit_Units_uint16_102.calls _ _ l0 l0 _ ?side1 ?side2 HCl).mono ?_); (case side1 => exact Kd.C_below HR0.out (by repeat (first | exact HB.out | apply below_alloc | apply pw_below_drewN | apply below_drew1))); (case side2 => exact HC0.out); rintro e w6 ⟨v1, rfl, ho, hb⟩; have n0_ := Aside0.mk (Kd.R_lower ho (below_size (by repeat (first | exact HB.out | apply below_alloc | apply pw_below_drewN | apply below_drew1)))); have n1_ := Aside0.mk (below_step (by repeat (first | exact HB.out | apply below_alloc | apply pw_below_drewN | apply below_drew1)) hb); clear HB ho hb; have HO := n0_; have HB := n1_; clear n0_ n1_))
    have hown := (XMem.flatInt .u16).own HO.out
    have hbw := below_size HB.out
    have hl1 : ∀ xs : List Int, (xs.flatMap (fun x => [Value.int .u16 x])).length = xs.length := fun xs => (XMem.flat_len (XMem.flatInt .u16) w xs).trans (Nat.mul_one _)
    refine (insU.own _ w.heap.size v1 l0.length q ((l0.take q).flatMap (fun x => [Value.int .u16 x])) ((l0.drop q).flatMap (fun x => [Value.int .u16 x])) [.int .u16 a1] _ (by omega) (by rw [hl1, List.length_take]; omega) (by rw [hl1, List.length_drop]) rfl ?_ ?_ (heap_alloc_new _ _) ?_ ?_ ?_ (by omega)).mono ?_
    · rw [← List.flatMap_append, List.take_append_drop]
      exact hown.alloc _
    · simp; omega
    · intro e
      have := hown.lt _ e
      simp at this
    · intro u hu; simp at hu; rcases hu with rfl; rfl
    · exact XMem.flat_one (XMem.flatInt .u16) w _
    rintro e w8 ⟨v', rfl, q1, q2, q3⟩
    go_wp2
    go_ret
    have hb8 : Below w.heap.size w w8 := Below.grown (below_alloc HB.out _) q2 (by simp; omega) (fun k hk => (hown.lt k hk).1)
    refine ⟨_, rfl, (XMem.flatInt .u16).make ?_ (fun _ _ => trivial), hb8⟩
    rw [Int.toNat_natCast, List.flatMap_append, List.flatMap_append]
    have hl : (l0.take q ++ [a1] ++ l0.drop q).length = l0.length + 1 := by
      simp only [List.length_append, List.length_take, List.length_drop, List.length_cons, List.length_nil]
      omega
    rw [hl]
    exact q1
  · rw [if_pos rfl] at H
    obtain rfl := Option.some.inj H
    clear H
    go_enter Tryz.func73, Tryz.ntmps73
    go_wp2_with (first
      | (go_at_call 104; (with_reducible refine (unit_Units_uint16_104.calls k _ _ l0 a1 ti true _ ?side1 ?side2 A1.out).mono ?_); (case side1 => exact Kd.C_below HR0.out HB.out); (case side2 => exact HC0.out); rintro e w5 ⟨rfl, hd⟩; have hb := hd.below; have n0_ := Aside0.mk (below_step HB.out hb); clear HB hb hd; have HB := n0_; clear n0_)
      | (go_at_call 102; (with_reducible refine (unit_Units_uint16_102.calls _ _ l0 l0 _ ?side1 ?side2 HCl).mono ?_); (case side1 => exact Kd.C_below HR0.out HB.out); (case side2 => exact HC0.out); rintro e w6 ⟨v1, rfl, ho, hb⟩; have n0_ := Aside0.mk (Kd.R_lower ho (below_size HB.out)); have n1_ := Aside0.mk (below_step HB.out hb); clear HB ho hb; have HO := n0_; have HB := n1_; clear n0_ n1_))
    go_ret
    exact ⟨_, rfl, HO.out, HB.out⟩
def strconv_Itoa.f (a0 : Int) : Option ByteArray := if -9223372036854775808 ≤ a0 ∧ a0 ≤ 9223372036854775807 then some ⟨(Lib.itoa a0).toArray⟩ else none
theorem strconv_Itoa.calls (a0 : Int) (r : ByteArray) (w : World) (hG : Glob w) (h : strconv_Itoa.f a0 = some r) :
    Calls Tryz.prog 172 #[.int .i64 a0] w fun e w' => e = .returned (.string r) ∧ Below w.heap.size w w' := by
  unfold strconv_Itoa.f at h
  by_cases hb : -9223372036854775808 ≤ a0 ∧ a0 ≤ 9223372036854775807
  · rw [if_pos hb] at h
    obtain rfl := Option.some.inj h
    refine (Tryz.strconv_Itoa a0 hb.1 hb.2 w hG.pow10).mono ?_
    rintro e w' ⟨rfl, k, os, rfl⟩
    exact ⟨rfl, Lib.below_grow _ _ (Nat.le_refl _) _ _⟩
  · rw [if_neg hb] at h
    cases h
def okByte (c : UInt8) : Bool := (97 ≤ c.toNat && c.toNat ≤ 122) || (65 ≤ c.toNat && c.toNat ≤ 90) || (48 ≤ c.toNat && c.toNat ≤ 57) || c.toNat == 32 || c.toNat == 46
def okName (l : List UInt8) : Bool := decide (1 ≤ l.length) && decide (l.length ≤ 30) && !(l.head? == some 32) && !(l.getLast? == some 32) && l.all okByte
def chart_Name.f (a0 : ByteArray) : Option Bool := some (okName a0.data.toList)
set_option maxHeartbeats 8000000 in
set_option maxRecDepth 100000 in
theorem chart_Name.calls (a0 : ByteArray) (r : Bool) (w : World) (h : chart_Name.f a0 = some r) :
    Calls Tryz.prog 112 #[.string a0] w fun e w' => e = .returned (.bool r) ∧ Below w.heap.size w w' := by
  unfold chart_Name.f at h
  obtain rfl := Option.some.inj h
  clear h
  have hsz : a0.data.toList.length = a0.size := Array.length_toList
  by_cases h1 : a0.size < 1
  · have hr : okName a0.data.toList = false := by
      unfold okName
      have : ¬ 1 ≤ a0.data.toList.length := by omega
      simp only [this, decide_false, Bool.false_and]
    rw [hr]
    have c1 : decide ((a0.size : Int) < 1) = true := decide_eq_true (by omega)
    have c2 : decide (a0.size < 1) = true := decide_eq_true h1
    go_enter Tryz.func112, Tryz.ntmps112
    go_wp2
    go_ret
    exact ⟨rfl, Below.refl _ _⟩
  have c1 : decide ((a0.size : Int) < 1) = false := decide_eq_false (by omega)
  have c2 : decide (a0.size < 1) = false := decide_eq_false h1
  by_cases h2 : 30 < a0.size
  · have hr : okName a0.data.toList = false := by
      unfold okName
      have : ¬ a0.data.toList.length ≤ 30 := by omega
      simp only [this, decide_false, Bool.false_and, Bool.and_false]
    rw [hr]
    have c3 : decide (30 < (a0.size : Int)) = true := decide_eq_true (by omega)
    have c4 : decide (30 < a0.size) = true := decide_eq_true h2
    go_enter Tryz.func112, Tryz.ntmps112
    go_wp2
    go_ret
    exact ⟨rfl, Below.refl _ _⟩
  have c3 : decide (30 < (a0.size : Int)) = false := decide_eq_false (by omega)
  have c4 : decide (30 < a0.size) = false := decide_eq_false h2
  have i0 : 0 < a0.size := by omega
  have hd : a0.data.toList.head? = some a0[0] := by
    rw [List.head?_eq_getElem?, List.getElem?_eq_getElem (by omega)]
    simp [ByteArray.getElem_eq_getElem_data]
  have hl : a0.data.toList.getLast? = some a0[a0.size - 1] := by
    rw [List.getLast?_eq_getElem?, hsz, List.getElem?_eq_getElem (by omega)]
    simp [ByteArray.getElem_eq_getElem_data]
  have hall : ∀ (p : Nat) (h : p < a0.size), okByte a0[p] = false → okName a0.data.toList = false := by
    intro p hp hq
    unfold okName
    have : a0.data.toList.all okByte = false := by
      rw [List.all_eq_false]
      refine ⟨a0[p], ?_, by simp [hq]⟩
      simp [ByteArray.getElem_eq_getElem_data]
    rw [this, Bool.and_false]
  by_cases h3 : (a0[0].toNat : Int) = 32
  · have hr : okName a0.data.toList = false := by
      unfold okName
      have : a0[0] = 32 := UInt8.toNat_inj.1 (by show a0[0].toNat = 32; omega)
      rw [hd, this]
      simp
    rw [hr]
    have c5 : ((a0[0].toNat : Int) == 32) = true := beq_iff_eq.2 h3
    go_enter Tryz.func112, Tryz.ntmps112
    go_wp2
    all_goals (go_ret; exact ⟨rfl, Below.refl _ _⟩)
  have c5 : ((a0[0].toNat : Int) == 32) = false := beq_eq_false_iff_ne.2 h3
  by_cases h4 : (a0[a0.size - 1].toNat : Int) = 32
  · have hr : okName a0.data.toList = false := by
      unfold okName
      have : a0[a0.size - 1] = 32 := UInt8.toNat_inj.1 (by show a0[a0.size - 1].toNat = 32; omega)
      rw [hl, this]
      simp
    rw [hr]
    have c6 : ((a0[a0.size - 1].toNat : Int) == 32) = true := beq_iff_eq.2 h4
    go_enter Tryz.func112, Tryz.ntmps112
    go_wp2
    all_goals (go_ret; exact ⟨rfl, Below.refl _ _⟩)
  have c6 : ((a0[a0.size - 1].toNat : Int) == 32) = false := beq_eq_false_iff_ne.2 h4
  have hok : (∀ (p : Nat) (h : p < a0.size), okByte a0[p] = true) → okName a0.data.toList = true := by
    intro hq
    have n0 : ¬ a0[0] = 32 := fun e => h3 (by rw [e]; rfl)
    have n1 : ¬ a0[a0.size - 1] = 32 := fun e => h4 (by rw [e]; rfl)
    unfold okName
    rw [hd, hl, hsz]
    have : a0.data.toList.all okByte = true := by
      rw [List.all_eq_true]
      intro x hx
      obtain ⟨p, hp, rfl⟩ := List.getElem_of_mem hx
      have := hq p (by omega)
      simpa [ByteArray.getElem_eq_getElem_data] using this
    rw [this]
    simp [n0, n1]
    omega
  go_enter Tryz.func112, Tryz.ntmps112
  go_wp2
  go_loopw [2] (fun v2 w' => ∃ (pos : Nat), w' = w.iter a0 pos ∧ v2 = .bool false ∧ (∀ (p : Nat) (h : p < a0.size), p < pos → okByte a0[p] = true)) (fun _ w' => a0.size - w'.iterPos w.heap.size)
  case atStart => exact ⟨0, rfl, rfl, fun p _ h => by omega⟩
  case round =>
    obtain ⟨pos, rfl, rfl, hb⟩ := hrel
    by_cases hp : pos < a0.size
    · by_cases ha : (a0[pos]'hp).toNat < 128
      · have hnx : ∀ ty, (Instr.next (.pointer (some ⟨w.heap.size, 0, none⟩)) true ty).run Tryz.prog (w.iter a0 pos) = _ := fun ty => run_next_ascii w a0 pos ty hp ha
        obtain ⟨c, hc⟩ : ∃ c : Nat, (a0[pos]'hp).toNat = c := ⟨_, rfl⟩
        have hbad : ¬ (97 ≤ c ∧ c ≤ 122 ∨ 65 ≤ c ∧ c ≤ 90 ∨ 48 ≤ c ∧ c ≤ 57 ∨ c = 32 ∨ c = 46) → okName a0.data.toList = false := fun hq => hall pos hp (by
          unfold okByte
          rw [hc]
          simp
          omega)
        have hgood : (97 ≤ c ∧ c ≤ 122 ∨ 65 ≤ c ∧ c ≤ 90 ∨ 48 ≤ c ∧ c ≤ 57 ∨ c = 32 ∨ c = 46) → okByte (a0[pos]'hp) = true := fun hq => by
          unfold okByte
          rw [hc]
          simp
          omega
        rw [hc] at hnx ha
        go_wp2
        all_goals first
          | (go_ret; refine ⟨?_, below_alloc (Below.refl _ _) _⟩; rw [hbad (by (try simp only [bne_iff_ne, ne_eq, bne_eq_false_iff_eq] at *); omega)]; rfl)
          | (go_roundw
             case measure => simp; omega
             case rel =>
               refine ⟨pos + 1, rfl, rfl, fun p h hlt => ?_⟩
               rcases Nat.lt_or_ge p pos with h5 | h5
               · exact hb p h h5
               · obtain rfl : p = pos := by omega
                 exact hgood (by (try simp only [bne_iff_ne, ne_eq, bne_eq_false_iff_eq] at *); omega))
      · obtain ⟨q1, q2⟩ := decode_high a0 pos hp (by omega)
        have hnx : ∀ ty, (Instr.next (.pointer (some ⟨w.heap.size, 0, none⟩)) true ty).run Tryz.prog (w.iter a0 pos) = _ := fun ty => run_next_any w a0 pos ty hp
        have hr : okName a0.data.toList = false := hall pos hp (by
          unfold okByte
          simp
          omega)
        obtain ⟨c, hc⟩ : ∃ c : Nat, (Utf8.decode a0 pos).1 = c := ⟨_, rfl⟩
        rw [hc] at hnx q1
        have d1 : decide ((c : Int) < 97) = false := decide_eq_false (by omega)
        have d2 : decide (122 < (c : Int)) = true := decide_eq_true (by omega)
        have d3 : decide ((c : Int) < 65) = false := decide_eq_false (by omega)
        have d4 : decide (90 < (c : Int)) = true := decide_eq_true (by omega)
        have d5 : decide ((c : Int) < 48) = false := decide_eq_false (by omega)
        have d6 : decide (57 < (c : Int)) = true := decide_eq_true (by omega)
        have d7 : ((c : Int) != 32) = true := by simp; omega
        have d8 : ((c : Int) != 46) = true := by simp; omega
        go_wp2
        all_goals (go_ret; exact ⟨by rw [hr]; rfl, below_alloc (Below.refl _ _) _⟩)
    · have hnx : ∀ ty, (Instr.next (.pointer (some ⟨w.heap.size, 0, none⟩)) true ty).run Tryz.prog (w.iter a0 pos) = _ := fun ty => run_next_end w a0 pos ty hp
      have hr := hok (fun p h => hb p h (by omega))
      go_wp2
      go_ret
      exact ⟨by rw [hr]; rfl, below_alloc (Below.refl _ _) _⟩
end Go.Proofs.YthabndifdgafbaaGreatDoor.XA
end
section
-- Written by a program of this session's (wip/xp) out of the translation; given functions by hand.
namespace Go.Proofs.YthabndifdgafbaaGreatDoor.XA
open Go.RowKit Go.Proofs.YthabndifdgafbaaGreatDoorW.PrintWords Go.Proofs.YthabndifdgafbaaGreatDoorW.PrintLast Go.Proofs.YthabndifdgafbaaGreatDoorW.PrintMore
attribute [local go_sem] max2_int min2_int max_two min_two max_three min_three max_four min_four   -- for this text's walks alone
set_option linter.unusedVariables false
set_option linter.unusedSimpArgs false
def transposallaw16_Awake.f (_k : Nat) : Option Bool := some true
theorem transposallaw16_Awake.mono : ∀ k, LeO (transposallaw16_Awake.f k) (transposallaw16_Awake.f (k + 1)) := fun _ => LeO.refl _
def transposallaw16_Awake.Pure : Prop := ∃ k, transposallaw16_Awake.f k  = some true
end Go.Proofs.YthabndifdgafbaaGreatDoor.XA
end
