/- Proved: slices.Compact at ids, over a row of the caller's own: the row's head holds what is kept, then zero values. No condition. -/
import Derived.Test.YtgbdohidlndhjaaEIdsB
import Derived.WalkKit
namespace Go.Proofs.Ytgbdohidlndhjaa.XIs
open Go.Lib Go.Sort Go.RowKit Go.Proofs.YtgbdohidlndhjaaW.PrintWords Go.Proofs.YtgbdohidlndhjaaW.PrintLast Go.Proofs.YtgbdohidlndhjaaW.PrintMore
attribute [local go_sem high] eqA23
set_option linter.unusedVariables false
set_option linter.unusedSimpArgs false
theorem cells2 {w : World} {blk : Nat} {d : Array S23} (h : HoldsK encI 2 w blk 0 d) {i : Nat} (hi : i < d.size) :
    w.cell? ⟨blk, i * 2, none⟩ = some (.string d[i]!.f0) ∧ w.cell? ⟨blk, i * 2 + 1, none⟩ = some (.int .i64 d[i]!.f1) ∧ w.frozen? ⟨blk, i * 2, none⟩ = false ∧ w.frozen? ⟨blk, i * 2 + 1, none⟩ = false := by
  have h0 := h.cell hi (c := 0) (by decide)
  have h1 := h.cell hi (c := 1) (by decide)
  simp only [Nat.zero_add, Nat.add_zero] at h0 h1
  exact ⟨h0.1, h1.1, h0.2, h1.2⟩
theorem neq23 (x y : S23) : (!(x.f0.toList == y.f0.toList && (x.f1 == y.f1))) = !decide (x = y) := by rw [eq23]
set_option maxHeartbeats 8000000 in
set_option maxRecDepth 100000 in
theorem compact_calls (blk cap : Nat) (d : Array S23) (w : World) (hH : HoldsK encI 2 w blk 0 d) (hsz : d.size ≤ 9223372036854775807) (hcap : d.size ≤ cap) :
    Calls Try.prog 38 #[.slice (some ⟨blk, 0, none⟩) d.size cap] w fun e w' => e = .returned (.slice (some ⟨blk, 0, none⟩) (compactUpTo d d.size).length cap) ∧ ∃ q, w' = putRowK encI 2 (Sort.ahead w q) blk 0 (compactUpTo d d.size ++ List.replicate (d.size - (compactUpTo d d.size).length) z23).toArray := by
  have hu23 := Try.underlying23
  have same : ∀ q, (∀ j, j < d.size → keeps d j = true) → (compactUpTo d d.size).length = d.size ∧ w.drewN q = putRowK encI 2 (Sort.ahead w q) blk 0 (compactUpTo d d.size ++ List.replicate (d.size - (compactUpTo d d.size).length) z23).toArray := by
    intro q hall
    have e : compactUpTo d d.size = d.toList := by rw [compactUpTo_all d _ hall, range_map_get]
    rw [e]
    refine ⟨by simp, ?_⟩
    simp only [Array.length_toList, Nat.sub_self, List.replicate_zero, List.append_nil, Array.toArray_toList]
    exact (putRowK_self encI 2 (Sort.ahead w q) blk 0 d (holdsK_ahead encI 2 w q blk 0 d hH)).symm
  have HS := Lib.hid same
  have HH := Lib.hid hH
  clear same hH
  by_cases h2 : d.size < 2
  · have hl : decide ((d.size : Int) < 2) = true := by simp; omega
    go_enter Try.func38, Try.ntmps38
    go_wp2
    go_ret
    obtain ⟨e1, e2⟩ := HS.out 0 (fun j hj => keeps_lt_one d j (by omega))
    exact ⟨by rw [e1]; rfl, 0, e2⟩
  · have hl : decide ((d.size : Int) < 2) = false := by simp; omega
    go_enter Try.func38, Try.ntmps38
    go_wp2
    go_loopg [3] d.size (fun g s3 wr => ∃ k q : Nat, 1 ≤ k ∧ k ≤ d.size ∧ d.size - k ≤ g ∧ s3 = .int .i64 k ∧ wr = w.drewN q ∧ ∀ j, j < k → keeps d j = true)
    case atStart => exact ⟨1, 0, Nat.le_refl _, by omega, by omega, rfl, rfl, keeps_lt_one d⟩
    case round =>
      obtain ⟨k, q, hk1, hk, hg, rfl, rfl, hall⟩ := hrel
      by_cases hlt : k < d.size
      · obtain ⟨m, hm⟩ : ∃ m, m = k - 1 := ⟨_, rfl⟩
        have hml : m < d.size := by omega
        obtain ⟨c1, d1, f1, g1⟩ := cells2 HH.out hlt
        obtain ⟨c0, d0, f0, g0⟩ := cells2 HH.out hml
        have hwr : IntKind.i64.wrap ((k : Int) - 1) = (m : Int) := by rw [i64_w]; unfold wrap64; omega
        have A := Lib.hid hall
        clear hall
        generalize hx : d[k]! = x at c1 d1
        generalize hy : d[m]! = y at c0 d0
        have B := Lib.hid (And.intro hx (And.intro hy hm))
        clear hx hy hm
        have ex := eq23 x y
        by_cases hdup : x = y
        · rw [decide_eq_true hdup] at ex
          have HD := Lib.hid hdup
          clear hdup
          go_wp2
          go_quiet (fail)
          go_wp2
          clear c0 c1 d0 d1 f0 f1 g0 g1 ex hwr
          go_loopg [3, 5] d.size (fun g s3 s5 wr => ∃ (kk k2 q2 : Nat) (dk : Array S23), s3 = .int .i64 kk ∧ s5 = .int .i64 k2 ∧ 1 ≤ k2 ∧ k + k2 ≤ d.size ∧ d.size - (k + k2) ≤ g ∧ wr = putRowK encI 2 (Sort.ahead w q2) blk 0 dk ∧ CompInv d (k + k2) kk dk)
          case atStart => exact ⟨k, 1, q + nq, d, rfl, rfl, Nat.le_refl _, by omega, by omega, (putRowK_self encI 2 (Sort.ahead w (q + nq)) blk 0 d (holdsK_ahead encI 2 w (q + nq) blk 0 d HH.out)).symm, CompInv.start A.out (keeps_neg (by omega) (by rw [B.out.1, ← B.out.2.2, B.out.2.1]; exact HD.out))⟩
          case round =>
            obtain ⟨kk, k2, q2, dk, rfl, rfl, h1, hle, hg2, hwr, hI⟩ := hrel
            have hkk := hI.lt
            have hds := hI.size
            have hHk : HoldsK encI 2 wr blk 0 dk := by rw [hwr]; exact holdsK_putRowK encI 2 _ blk 0 d dk (holdsK_ahead encI 2 w q2 blk 0 d HH.out) hds
            have W2 := Lib.hid hwr
            have I2 := Lib.hid hI
            clear hwr
            by_cases hlt2 : k + k2 < d.size
            · obtain ⟨m2, hm2⟩ : ∃ m2, m2 = k2 - 1 := ⟨_, rfl⟩
              have hml2 : k + m2 < d.size := by omega
              obtain ⟨cm, dm, _, _⟩ := cells2 hHk (show k + k2 < dk.size by omega)
              obtain ⟨cp, dp, _, _⟩ := cells2 hHk (show k + m2 < dk.size by omega)
              obtain ⟨ck, dk0, fk, gk0⟩ := cells2 hHk (show kk < dk.size by omega)
              rw [hI.high (k + k2) (by omega), show (k + k2) * 2 = k * 2 + k2 * 2 by omega] at cm dm
              rw [hI.high (k + m2) (by omega), show (k + m2) * 2 = k * 2 + m2 * 2 by omega] at cp dp
              have hwr : IntKind.i64.wrap ((k2 : Int) - 1) = (m2 : Int) := by rw [i64_w]; unfold wrap64; omega
              clear hHk hI
              generalize hu : d[k + k2]! = u at cm dm
              generalize hv : d[k + m2]! = v at cp dp
              generalize dk[kk]! = old at ck dk0
              have C := Lib.hid (And.intro hu (And.intro hv hm2))
              clear hu hv hm2
              have ex := eq23 u v
              by_cases huv : u = v
              · rw [decide_eq_true huv] at ex
                have HE := Lib.hid huv
                clear huv
                go_wp2
                go_quiet (fail)
                go_wp2
                go_roundg (d.size - (k + (k2 + 1)))
                case measure => omega
                case rel => exact ⟨kk, k2 + 1, q2 + nq, dk, rfl, rfl, by omega, by omega, Nat.le_refl _, by rw [W2.out]; exact putRowK_drewN encI 2 w q2 nq blk 0 dk, I2.out.skip (keeps_neg (by omega) (by rw [show k + k2 - 1 = k + m2 by have := C.out.2.2; omega, C.out.1, C.out.2.1]; exact HE.out))⟩
              · rw [decide_eq_false huv] at ex
                have HE := Lib.hid huv
                clear huv
                go_wp2
                go_quiet (fail)
                go_wp2
                go_roundg (d.size - (k + (k2 + 1)))
                case measure => omega
                case rel => exact ⟨kk + 1, k2 + 1, q2 + nq, dk.setIfInBounds kk u, rfl, rfl, by omega, by omega, Nat.le_refl _, by rw [W2.out, putRowK_drewN encI 2 w q2 nq blk 0 dk]; exact store2 _ blk dk kk u (by omega), by have := I2.out.keep hlt2 (keeps_pos (by rw [show k + k2 - 1 = k + m2 by have := C.out.2.2; omega, C.out.1, C.out.2.1]; exact HE.out)); rwa [C.out.1] at this⟩
            · have hend : k + k2 = d.size := by omega
              have hcl : ∀ ty, (Builtin.clear_ #[31] ty #[.slice (some ⟨blk, kk * 2, none⟩) (d.size - kk) (cap - kk)]).run Try.prog wr = .ok (.tuple #[]) (wr.setCells blk (kk * 2) (zl (d.size - kk))) := by
                intro ty
                refine run_clear2 wr ty blk (kk * 2) _ _ (by omega) (fun j hj => ?_) (fun j hj => ?_)
                · have := hHk (kk * 2 + j) (by simp; omega)
                  rw [Nat.zero_add] at this
                  rw [this.1]
                  rfl
                · have := hHk (kk * 2 + j) (by simp; omega)
                  rw [Nat.zero_add] at this
                  exact this.2
              clear hHk hI
              go_wp2
              go_ret
              have hI := I2.out
              rw [hend] at hI
              refine ⟨by rw [hI.len]; rfl, q2, ?_⟩
              rw [hI.len, ← hI.done z23, W2.out]
              have h3 := clear2 (Sort.ahead w q2) blk dk kk (by omega)
              rw [hds] at h3
              exact h3
        · rw [decide_eq_false hdup] at ex
          have HD := Lib.hid hdup
          clear hdup
          go_wp2
          go_quiet (fail)
          go_wp2
          go_roundg (d.size - (k + 1))
          case measure => omega
          case rel =>
            refine ⟨k + 1, q + nq, by omega, by omega, Nat.le_refl _, rfl, rfl, fun j hj => ?_⟩
            by_cases e : j = k
            · subst e
              exact keeps_pos (by rw [B.out.1, ← B.out.2.2, B.out.2.1]; exact HD.out)
            · exact A.out j (by omega)
      · have hke : k = d.size := by omega
        go_wp2
        go_ret
        subst hke
        obtain ⟨e1, e2⟩ := HS.out q hall
        exact ⟨by rw [e1]; rfl, q, e2⟩
end Go.Proofs.Ytgbdohidlndhjaa.XIs
