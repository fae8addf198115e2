/- Printed by px.py, a program of this session over the print of the kit: functions that the law reaches, as Lean functions, each with a proof that its Go code answers so. No condition. -/
import Derived.Test.YtgbdohidlndhjaaRows
import Derived.Test.YtgbdohidlndhjaaXIsx8
import Derived.Test.YtgbdohidlndhjaaEOpen
import Derived.Test.YtgbdohidlndhjaaEGlob
import Derived.Test.YtgbdohidlndhjaaPureIdentSets
import Derived.WalkKit
import Derived.ProofKit
import Derived.OpenShut
import Derived.ShutString
import Derived.ChangeOld
import Derived.Below
import Derived.SizedLaws
import Derived.Carry
namespace Go.Proofs.Ytgbdohidlndhjaa.identSets
open Go.ChangeShapes Go.WideShapes Go.ChangeAt Go.RowKit Go.Proofs.Ytgbdohidlndhjaa.XIs Go.Proofs.YtgbdohidlndhjaaW.PrintWords
open Go.ChangeMaps (open_string shut_string)
set_option linter.unusedVariables false
theorem own : ownKnob Try.prog.godebug = none := by kernel_rfl
theorem laidOut : laidOutB Try.prog = true := by kernel_rfl
theorem opens23 : EOpen.Opens Try.prog 23 k23 (fun x => (x.f0.size ≤ maxLen) ∧ ((Lit.int .i64 x.f1).wf = true)) := by
  intro H enc w base sp held fuel cs x h
  obtain ⟨hl, n, hg⟩ := EOpen.struct_get Try.underlying23 h
  have hl : cs.length = 2 := hl.trans (by kernel_rfl)
  obtain ⟨c0, cs0, rfl⟩ := List.exists_cons_of_length_eq_add_one (show cs.length = 1 + 1 from hl)
  replace hl : cs0.length = 1 := by simpa using hl
  obtain ⟨c1, cs1, rfl⟩ := List.exists_cons_of_length_eq_add_one (show cs0.length = 0 + 1 from hl)
  replace hl : cs1.length = 0 := by simpa using hl
  obtain rfl := List.eq_nil_of_length_eq_zero hl
  clear hl
  obtain ⟨y0, h0⟩ := hg 0 _ rfl
  obtain ⟨a0, k0, q0⟩ := (EOpen.opens_string Try.underlying9) enc w base sp held n _ _ h0
  have k0 : Kd.string.K w a0 (List.take (Try.prog.cellsOf 9) (List.drop 0 [c0, c1])) := k0
  rw [show Try.prog.cellsOf 9 = 1 by kernel_rfl] at k0
  obtain ⟨y1, h1⟩ := hg 1 _ rfl
  obtain ⟨a1, k1, q1⟩ := (EOpen.opens_int Try.underlying3) enc w base sp held n _ _ h1
  have k1 : (Kd.int .i64).K w a1 (List.take (Try.prog.cellsOf 3) (List.drop 1 [c0, c1])) := k1
  rw [show Try.prog.cellsOf 3 = 1 by kernel_rfl] at k1
  exact ⟨⟨a0, a1⟩, (EOpen.pair_K k0 k1), q0, q1⟩
set_option maxRecDepth 100000 in
theorem lifted (os : Os) (started : os.Started) (H : Type) (enc : TypeId × Value → H) :
    ReturnsInHanded {} Try.checked os 5 .any (Rows.identSetsSpec.pre6 enc Try.prog Try.f5 Rows.identSetsRow.domain false) (Rows.identSetsSpec.post enc Try.prog Try.f5 false true false false) := by
  refine EGlob.returns_shaped (C := Try.checked) own started (by kernel_rfl) Try.func5
    (ChangeSpec.witness6 (enc := enc) (C := Try.checked) false ⟨#[], #[.slice none 0 0, .slice none 0 0, .agg #[.string ByteArray.empty, .int .i64 0]], []⟩ 8 (by kernel_rfl) (by kernel_rfl) (by kernel_rfl) (by kernel_rfl)) ?_
  intro W base args ds gs before hval0 hW hcnd hsz0 hsh
  have hsz : (DataW.weightsEach Try.prog (Try.f5.params.toList ++ Rows.identSetsSpec.plain.varTypes Try.prog) (ds ++ gs)).all (· ≤ reachBytes) = true := hsz0
  have hval : ∀ (j : Nat) t v, Try.f5.params[j]? = some t → args[j]? = some v → Value.okWide Try.prog W .any base t v := hval0
  have hW' := hW
  obtain ⟨p, q, hA0, hV, rfl, hfz, hnd⟩ := hW
  have hA : DataW.TrodAll enc Try.prog W 0 (fun _ => true) true Try.f5.params.toList args.toList ds p := hA0
  rw [Try.params5] at hA hval hsz
  obtain ⟨v0, vs0, d0, ds0, p0, q0, hargs, rfl, rfl, h0, r0⟩ := trodAll_cons hA
  obtain ⟨v1, vs1, d1, ds1, p1, q1, rfl, rfl, rfl, h1, r1⟩ := trodAll_cons r0
  obtain ⟨v2, vs2, d2, ds2, p2, q2, rfl, rfl, rfl, h2, r2⟩ := trodAll_cons r1
  obtain ⟨rfl, rfl, rfl⟩ := trodAll_nil r2
  obtain rfl : args = #[v0, v1, v2] := by cases args; simp_all
  obtain ⟨rfl, rfl⟩ := trodVars_none hV
  have kk0 := h0
  have lt0 : ∀ x ∈ p0, x.block < W.heap.size := by obtain ⟨m, hm⟩ := kk0; exact DataW.trod_lt m _ _ _ hm
  obtain ⟨A0, n0, c0, rfl⟩ := okWide_slice Try.underlying31 (hval 0 31 v0 rfl rfl)
  obtain ⟨fuel0, hf0⟩ := h0
  obtain ⟨x0, ⟨A0', c0', e0, hc0, hr0⟩, hq0⟩ := (EOpen.opens_slice Try.underlying31 (by kernel_rfl) opens23 23) enc W 0 _ _ _ _ _ hf0
  simp only [Value.cells] at e0
  injection e0 with e0
  injection e0 with ea0 en0 ec0
  subst ea0 en0 ec0
  have kk1 := h1
  have lt1 : ∀ x ∈ p1, x.block < W.heap.size := by obtain ⟨m, hm⟩ := kk1; exact DataW.trod_lt m _ _ _ hm
  obtain ⟨A1, n1, c1, rfl⟩ := okWide_slice Try.underlying31 (hval 1 31 v1 rfl rfl)
  obtain ⟨fuel1, hf1⟩ := h1
  obtain ⟨x1, ⟨A1', c1', e1, hc1, hr1⟩, hq1⟩ := (EOpen.opens_slice Try.underlying31 (by kernel_rfl) opens23 23) enc W 0 _ _ _ _ _ hf1
  simp only [Value.cells] at e1
  injection e1 with e1
  injection e1 with ea1 en1 ec1
  subst ea1 en1 ec1
  have kk2 := h2
  have lt2 : ∀ x ∈ p2, x.block < W.heap.size := by obtain ⟨m, hm⟩ := kk2; exact DataW.trod_lt m _ _ _ hm
  obtain ⟨cs2, rfl, _⟩ := okWide_struct Try.underlying23 (hval 2 23 v2 rfl rfl)
  obtain ⟨fuel2, hf2⟩ := h2
  obtain ⟨x2, hk2, hq2⟩ := opens23 enc W 0 _ _ _ _ _ hf2
  have e2 := k23_open hk2
  obtain rfl : cs2 = #[.string x2.f0, .int .i64 x2.f1] := by cases cs2; simpa [Value.cells] using e2
  have hq2_ : (x2.f0.size ≤ maxLen) ∧ ((Lit.int .i64 x2.f1).wf = true) := by first | exact hq2 | (obtain ⟨z0, z1⟩ := hq2; exact ⟨z0, z1⟩)
  clear hA0 hval0 hsz0 hsz
  obtain ⟨k, hp⟩ := Pure.IdentSets x0 x1 x2 hr0.2.1 hq0 hr1.2.1 hq1 hq2_
  refine (XIs.rafterlaw11_IdentSets.calls k _ _ x0 _ _ x1 x2.f0 x2.f1 true W hr0 hc0 hr1 hc1 (EGlob.G_of hsh) hp).mono fun e W' ⟨he, bel0⟩ => ?_
  have bel : Below W.heap.size W W' := bel0
  subst he
  exact ⟨_, rfl, _, _, _, [], _, [], hW', trodAll_mk1 (shut_bool Try.underlying4 _), (trodAll_cons_mk (Below.trod laidOut (by kernel_rfl) (of_decide_eq_true (by kernel_rfl)) kk0 bel lt0) (trodAll_cons_mk (Below.trod laidOut (by kernel_rfl) (of_decide_eq_true (by kernel_rfl)) kk1 bel lt1) (trodAll_cons_mk (Below.trod laidOut (by kernel_rfl) (of_decide_eq_true (by kernel_rfl)) kk2 bel lt2) trodAll_mk0))), rfl, bel.frame _, fun h => by cases h⟩
theorem over : Rows.identSetsRow.holds Try.pinned (OpenSpec.ofChange Rows.identSetsSpec) :=
  OpenClaim.holds_of_wide 5 Try.f5 rfl rfl rfl rfl rfl rfl rfl ⟨rfl, rfl, rfl, rfl, rfl⟩ rfl rfl rfl rfl rfl (by kernel_rfl) Try.func5 (by kernel_rfl)
    (of_decide_eq_true (by kernel_rfl)) (by unfold Func.isWrapper; first | (rw [if_pos (by decide +kernel)]; kernel_rfl) | (rw [if_neg (by decide +kernel)]; exact ⟨rfl, rfl⟩))
    (fun os started H enc _ => lifted os started H enc)
theorem proved : Rows.IdentSetsSaid := over
#print axioms proved
end Go.Proofs.Ytgbdohidlndhjaa.identSets
namespace Go.Proofs.Ytgbdohidlndhjaa
/-- The row, under a short name, for the claim. -/
theorem identSets_holds : Rows.IdentSetsSaid := identSets.proved
end Go.Proofs.Ytgbdohidlndhjaa
