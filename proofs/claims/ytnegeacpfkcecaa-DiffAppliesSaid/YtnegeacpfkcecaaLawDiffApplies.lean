/- Printed by px.py, a program of this session over the print of the kit: functions that the law reaches, as Lean functions, each with a proof that its Go code answers so. No condition. -/
import Derived.Test.YtnegeacpfkcecaaRows
import Derived.Test.YtnegeacpfkcecaaXDiffx16
import Derived.Test.YtnegeacpfkcecaaEOpen
import Derived.Test.YtnegeacpfkcecaaPureDiffApplies
import Derived.WalkKit
import Derived.ProofKit
import Derived.OpenShut
import Derived.ShutString
import Derived.ChangeOld
import Derived.Below
import Derived.SizedLaws
import Derived.Carry
namespace Go.Proofs.Ytnegeacpfkcecaa.diffApplies
open Go.ChangeShapes Go.WideShapes Go.ChangeAt Go.RowKit Go.Proofs.Ytnegeacpfkcecaa.XDiff Go.Proofs.YtnegeacpfkcecaaW.PrintWords
open Go.ChangeMaps (open_string shut_string)
set_option linter.unusedVariables false
theorem own : ownKnob Try.prog.godebug = none := by kernel_rfl
theorem laidOut : laidOutB Try.prog = true := by kernel_rfl
theorem opens66 : EOpen.Opens Try.prog 66 k66 (fun x => ((Lit.int .i64 x.f0).wf = true) ∧ (x.f1.length ≤ 9223372036854775807 ∧ ∀ y ∈ x.f1, y.size ≤ maxLen) ∧ (x.f2.length ≤ 9223372036854775807 ∧ ∀ y ∈ x.f2, y.size ≤ maxLen)) := by
  intro H enc w base sp held fuel cs x h
  obtain ⟨hl, n, hg⟩ := EOpen.struct_get Try.underlying66 h
  have hl : cs.length = 3 := hl.trans (by kernel_rfl)
  obtain ⟨c0, cs0, rfl⟩ := List.exists_cons_of_length_eq_add_one (show cs.length = 2 + 1 from hl)
  replace hl : cs0.length = 2 := by simpa using hl
  obtain ⟨c1, cs1, rfl⟩ := List.exists_cons_of_length_eq_add_one (show cs0.length = 1 + 1 from hl)
  replace hl : cs1.length = 1 := by simpa using hl
  obtain ⟨c2, cs2, rfl⟩ := List.exists_cons_of_length_eq_add_one (show cs1.length = 0 + 1 from hl)
  replace hl : cs2.length = 0 := by simpa using hl
  obtain rfl := List.eq_nil_of_length_eq_zero hl
  clear hl
  obtain ⟨y0, h0⟩ := hg 0 _ rfl
  obtain ⟨a0, k0, q0⟩ := (EOpen.opens_int Try.underlying3) enc w base sp held n _ _ h0
  have k0 : (Kd.int .i64).K w a0 (List.take (Try.prog.cellsOf 3) (List.drop 0 [c0, c1, c2])) := k0
  rw [show Try.prog.cellsOf 3 = 1 by kernel_rfl] at k0
  obtain ⟨y1, h1⟩ := hg 1 _ rfl
  obtain ⟨a1, k1, q1⟩ := (EOpen.opens_slice2 Try.underlying22 (by kernel_rfl) (EOpen.opens_string Try.underlying9) 9) enc w base sp held n _ _ h1
  have k1 : (Kd.slice 9 Kd.string).K w a1 (List.take (Try.prog.cellsOf 22) (List.drop 1 [c0, c1, c2])) := k1
  rw [show Try.prog.cellsOf 22 = 1 by kernel_rfl] at k1
  obtain ⟨y2, h2⟩ := hg 2 _ rfl
  obtain ⟨a2, k2, q2⟩ := (EOpen.opens_slice2 Try.underlying22 (by kernel_rfl) (EOpen.opens_string Try.underlying9) 9) enc w base sp held n _ _ h2
  have k2 : (Kd.slice 9 Kd.string).K w a2 (List.take (Try.prog.cellsOf 22) (List.drop 2 [c0, c1, c2])) := k2
  rw [show Try.prog.cellsOf 22 = 1 by kernel_rfl] at k2
  exact ⟨⟨a0, a1, a2⟩, (EOpen.pair_K k0 (EOpen.pair_K k1 k2)), q0, q1, q2⟩
set_option maxRecDepth 100000 in
theorem lifted (os : Os) (started : os.Started) (H : Type) (enc : TypeId × Value → H) :
    ReturnsInHanded {} Try.checked os 5 .any (Rows.diffAppliesSpec.pre6 enc Try.prog Try.f5 Rows.diffAppliesRow.domain false) (Rows.diffAppliesSpec.post enc Try.prog Try.f5 false true false false) := by
  refine returnsInHanded_of_change_sized (C := Try.checked) own started (by kernel_rfl) Try.func5
    (ChangeSpec.witness6 (enc := enc) (C := Try.checked) false ⟨#[], #[.slice none 0 0, .slice none 0 0, .slice none 0 0], []⟩ 8 (by kernel_rfl) (by kernel_rfl) (by kernel_rfl) (by kernel_rfl)) ?_
  intro W base args ds gs before hval0 hW hcnd hsz0 _
  have hsz : (DataW.weightsEach Try.prog (Try.f5.params.toList ++ Rows.diffAppliesSpec.plain.varTypes Try.prog) (ds ++ gs)).all (· ≤ reachBytes) = true := hsz0
  have hval : ∀ (j : Nat) t v, Try.f5.params[j]? = some t → args[j]? = some v → Value.okWide Try.prog W .any base t v := hval0
  have hW' := hW
  obtain ⟨p, q, hA0, hV, rfl, hfz, hnd⟩ := hW
  have hA : DataW.TrodAll enc Try.prog W 0 (fun _ => true) true Try.f5.params.toList args.toList ds p := hA0
  rw [Try.params5] at hA hval hsz
  obtain ⟨v0, vs0, d0, ds0, p0, q0, hargs, rfl, rfl, h0, r0⟩ := trodAll_cons hA
  obtain ⟨v1, vs1, d1, ds1, p1, q1, rfl, rfl, rfl, h1, r1⟩ := trodAll_cons r0
  obtain ⟨v2, vs2, d2, ds2, p2, q2, rfl, rfl, rfl, h2, r2⟩ := trodAll_cons r1
  obtain ⟨rfl, rfl, rfl⟩ := trodAll_nil r2
  obtain rfl : args = #[v0, v1, v2] := by cases args; simp_all
  obtain ⟨rfl, rfl⟩ := trodVars_none hV
  have kk0 := h0
  have lt0 : ∀ x ∈ p0, x.block < W.heap.size := by obtain ⟨m, hm⟩ := kk0; exact DataW.trod_lt m _ _ _ hm
  obtain ⟨A0, n0, c0, rfl⟩ := okWide_slice Try.underlying22 (hval 0 22 v0 rfl rfl)
  obtain ⟨fuel0, hf0⟩ := h0
  obtain ⟨x0, ⟨A0', c0', e0, hc0, hr0⟩, hq0⟩ := (EOpen.opens_slice Try.underlying22 (by kernel_rfl) (EOpen.opens_string Try.underlying9) 9) enc W 0 _ _ _ _ _ hf0
  simp only [Value.cells] at e0
  injection e0 with e0
  injection e0 with ea0 en0 ec0
  subst ea0 en0 ec0
  have kk1 := h1
  have lt1 : ∀ x ∈ p1, x.block < W.heap.size := by obtain ⟨m, hm⟩ := kk1; exact DataW.trod_lt m _ _ _ hm
  obtain ⟨A1, n1, c1, rfl⟩ := okWide_slice Try.underlying25 (hval 1 25 v1 rfl rfl)
  obtain ⟨fuel1, hf1⟩ := h1
  obtain ⟨x1, ⟨A1', c1', e1, hc1, hr1⟩, hq1⟩ := (EOpen.opens_slice Try.underlying25 (by kernel_rfl) opens66 66) enc W 0 _ _ _ _ _ hf1
  simp only [Value.cells] at e1
  injection e1 with e1
  injection e1 with ea1 en1 ec1
  subst ea1 en1 ec1
  have kk2 := h2
  have lt2 : ∀ x ∈ p2, x.block < W.heap.size := by obtain ⟨m, hm⟩ := kk2; exact DataW.trod_lt m _ _ _ hm
  obtain ⟨A2, n2, c2, rfl⟩ := okWide_slice Try.underlying25 (hval 2 25 v2 rfl rfl)
  obtain ⟨fuel2, hf2⟩ := h2
  obtain ⟨x2, ⟨A2', c2', e2, hc2, hr2⟩, hq2⟩ := (EOpen.opens_slice Try.underlying25 (by kernel_rfl) opens66 66) enc W 0 _ _ _ _ _ hf2
  simp only [Value.cells] at e2
  injection e2 with e2
  injection e2 with ea2 en2 ec2
  subst ea2 en2 ec2
  clear hA0 hval0 hsz0 hsz
  obtain ⟨k, hp⟩ := Pure.DiffApplies x0 x1 x2 hr0.2.1 hq0 hr1.2.1 hq1 hr2.2.1 hq2
  refine (XDiff.rafterlaw04_DiffApplies.calls k _ _ x0 _ _ x1 _ _ x2 true W hr0 hc0 hr1 hc1 hr2 hc2 hp).mono fun e W' ⟨he, bel0⟩ => ?_
  have bel : Below W.heap.size W W' := bel0
  subst he
  exact ⟨_, rfl, _, _, _, [], _, [], hW', trodAll_mk1 (shut_bool Try.underlying4 _), (trodAll_cons_mk (Below.trod laidOut (by kernel_rfl) (of_decide_eq_true (by kernel_rfl)) kk0 bel lt0) (trodAll_cons_mk (Below.trod laidOut (by kernel_rfl) (of_decide_eq_true (by kernel_rfl)) kk1 bel lt1) (trodAll_cons_mk (Below.trod laidOut (by kernel_rfl) (of_decide_eq_true (by kernel_rfl)) kk2 bel lt2) trodAll_mk0))), rfl, bel.frame _, fun h => by cases h⟩
theorem over : Rows.diffAppliesRow.holds Try.pinned (OpenSpec.ofChange Rows.diffAppliesSpec) :=
  OpenClaim.holds_of_wide 5 Try.f5 rfl rfl rfl rfl rfl rfl rfl ⟨rfl, rfl, rfl, rfl, rfl⟩ rfl rfl rfl rfl rfl (by kernel_rfl) Try.func5 (by kernel_rfl)
    (of_decide_eq_true (by kernel_rfl)) (by unfold Func.isWrapper; first | (rw [if_pos (by decide +kernel)]; kernel_rfl) | (rw [if_neg (by decide +kernel)]; exact ⟨rfl, rfl⟩))
    (fun os started H enc _ => lifted os started H enc)
theorem proved : Rows.DiffAppliesSaid := over
#print axioms proved
end Go.Proofs.Ytnegeacpfkcecaa.diffApplies
namespace Go.Proofs.Ytnegeacpfkcecaa
/-- The row, under a short name, for the claim. -/
theorem diffApplies_holds : Rows.DiffAppliesSaid := diffApplies.proved
end Go.Proofs.Ytnegeacpfkcecaa
