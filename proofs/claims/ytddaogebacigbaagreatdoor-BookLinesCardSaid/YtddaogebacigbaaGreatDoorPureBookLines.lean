/- BookLines' statement without Go. No conditions. -/
import Derived.Test.YtddaogebacigbaaGreatDoorXA7
import Derived.Test.YtddaogebacigbaaGreatDoorPBook
namespace Go.Proofs.YtddaogebacigbaaGreatDoor.Pure
open Go.RowKit Go.Proofs.YtddaogebacigbaaGreatDoorW.PrintWords Go.Proofs.YtddaogebacigbaaGreatDoorW.PrintLast Go.Proofs.YtddaogebacigbaaGreatDoor.XA Go.Proofs.YtddaogebacigbaaGreatDoor.PInts Go.Proofs.YtddaogebacigbaaGreatDoor.PCal Go.Proofs.YtddaogebacigbaaGreatDoor.PBook
set_option linter.unusedVariables false
set_option linter.unusedSimpArgs false
theorem lines_j {ch : List S109} {un st : List Int} {en : Int} (O : FrameOk ch un st en) (q0 q1 q2 q3 : Int) (k : Nat) (hk : 3001 ≤ k) : ((transposallaw10_has.f ch un st en q0 q1 q2 q3).bind fun h => (book_Frame_Line.f k ch un st en q0 q1 q2 q3).bind fun e => some (e == if h = true then 0 else 8)) = some true := by
  have h1 := O.chLen
  have h2 := O.unLen
  rw [has_eq ch (by omega) un st en (by omega) q0 q1 q2 q3, line_eq O q0 q1 q2 q3 k (by omega)]
  simp
theorem BookLines : transposallaw10_BookLines.Pure := by
  intro l0 l1 a l3 l4 p0 p1 p2 p3 s0 s1 s2 s3 own w0 w1 wa w3 w4 wp0 wp1 wp2 wp3 ws0 ws1 ws2 ws3
  obtain ⟨b, hb, hl⟩ := light_eq l4 l0 l1 a l3 w4.1
  obtain ⟨K, hK⟩ : ∃ K, K = 30000 + l4.length := ⟨_, rfl⟩
  refine ⟨K, ?_⟩
  unfold transposallaw10_BookLines.f
  rw [show transposallaw10_Awake.f K = some true from rfl]
  simp only [Option.bind_some]
  rw [if_pos trivial, hl K (by omega)]
  simp only [Option.bind_some]
  cases b with
  | false => rfl
  | true =>
    first | rw [if_pos rfl] | rw [if_pos trivial]
    obtain ⟨h20, h8, h3, h12⟩ := hb rfl
    have wa' := i16_wf wa
    obtain ⟨ch, un, st, en, O, MC, hF⟩ := frame_eq (l0 := l0) (l1 := l1) (a := a) (l3 := l3) l4 w0.1 w0.2 (by omega) w1.2 (by omega) w3.1 w3.2
    rw [hF K (by omega)]
    simp only [Option.bind_some]
    cases own with
    | false =>
      rw [if_neg (by decide)]
      simp only [Option.bind_some]
      exact lines_j O p0 p1 p2 p3 K (by omega)
    | true =>
      first | rw [if_pos rfl] | rw [if_pos trivial]
      have e0 := PCal.u8_wf ws0
      have e1 := PCal.u8_wf ws1
      have e2 := PCal.u8_wf ws2
      unfold transposallaw10_L_line.f
      rw [if_pos ⟨e0, e1, e2, O.chSome, O.unSome⟩]
      simp only [Option.bind_some]
      exact lines_j O _ _ _ _ K (by omega)
end Go.Proofs.YtddaogebacigbaaGreatDoor.Pure
