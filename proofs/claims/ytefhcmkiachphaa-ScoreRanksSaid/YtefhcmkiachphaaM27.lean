/- Sorting places by what is better, on the machine: blocks that change places, rotations, insertion. Conditions: lengths as they stand in each statement. Insertion and merges of places by what is better, on the machine. Conditions: lengths as they stand in each statement. A merge in place is right, on the machine. Conditions: lengths as they stand in each statement. SortStableFunc puts places in order. Conditions: lengths as they stand in each statement. The order of floating-point numbers as that of whole numbers; what is better is an order of places. No condition. Sums of floating-point number -/
import Derived.Test.YtefhcmkiachphaaM25
import Derived.Test.YtefhcmkiachphaaM26
section
/- Sorting places by what is better, on the machine: blocks that change places, rotations, insertion. Conditions: lengths as_ they stand in each statement. -/
set_option linter.unusedVariables false
set_option linter.unusedSimpArgs false
namespace Go.Proofs.Ytefhcmkiachphaa.Sp
open Go Go.Proofs.Ytefhcmkiachphaa.Ab Go.Proofs.Ytefhcmkiachphaa.Tb

abbrev inpI : Ty := .pair .unit (.sl (.int .i64))
abbrev cloL (L : List Nat) : A := A.c (C.cl 21 [Pt.sh (Ty.sl (Ty.flt FloatKind.f64)) L (0 : Nat)])
/-- The slice holds these values. -/
def Rp (N : Nat) (ys : List Int) (f : Nat → Nat) : Prop := ys.length = N ∧ ∀ p, p < N → ys[p]? = some ((f p : Nat) : Int)
theorem Rp.get {N : Nat} {ys : List Int} {f : Nat → Nat} (h : Rp N ys f) {p : Nat} (hp : p < N) {β : Type} (F : Int → Option β) : Option.bind ys[p]? F = F ((f p : Nat) : Int) := by rw [h.2 p hp]; rfl
theorem Rp.swap {N : Nat} {ys : List Int} {f : Nat → Nat} (h : Rp N ys f) {i j : Nat} (hi : i < N) (hj : j < N) (hne : i ≠ j) : Rp N ((ys.set i ((f j : Nat) : Int)).set j ((f i : Nat) : Int)) (swF f i j) := by
  refine ⟨by rw [List.length_set, List.length_set]; exact h.1, fun p hp => ?_⟩
  unfold swF
  by_cases h1 : p = i
  · rw [if_pos h1, h1, List.getElem?_set_ne (fun e => hne e.symm), List.getElem?_set_self (by rw [h.1]; exact hi)]
  · rw [if_neg h1]
    by_cases h2 : p = j
    · rw [if_pos h2, h2, List.getElem?_set_self (by rw [List.length_set, h.1]; exact hj)]
    · rw [if_neg h2, List.getElem?_set_ne (fun e => h2 e.symm), List.getElem?_set_ne (fun e => h1 e.symm)]
      exact h.2 p hp
theorem Rp.set1 {N : Nat} {ys : List Int} {f : Nat → Nat} (h : Rp N ys f) {i j : Nat} (hj : j < N) (hne : i ≠ j) (z : Int) {β : Type} (F : Int → Option β) : Option.bind (ys.set i z)[j]? F = F ((f j : Nat) : Int) := by
  rw [List.getElem?_set_ne hne]; exact h.get hj F
abbrev AnsE (N : Nat) (P : (Nat → Nat) → Prop) (o : Option (List RV)) : Prop := ∃ (g : Nat → Nat) (zs : List Int), o = some (injRs [] () ++ injRs [RT.d inpI] ((), zs)) ∧ Rp N zs g ∧ P g
abbrev AnsF (N : Nat) (P : (Nat → Nat) → Prop) (o : Option (dens [] × dens ([inpI].map RT.d))) : Prop := ∃ (g : Nat → Nat) (zs : List Int), o = some ((), ((), zs)) ∧ Rp N zs g ∧ P g
theorem AnsE.imp {N : Nat} {P Q : (Nat → Nat) → Prop} {o : Option (List RV)} (h : AnsE N P o) (k : ∀ g, P g → Q g) : AnsE N Q o := let ⟨g, z, e, r, p⟩ := h; ⟨g, z, e, r, k g p⟩
theorem swapi_loop (N a b n : Nat) (hN : N ≤ 1000) (hab : a + n ≤ b) (hb : b + n ≤ N) (f : Nat → Nat) : ∀ (d i : Nat) (ys : List Int), n - i ≤ d → i ≤ n → Rp N ys (swB f a b i) → AnsE N (fun g => g = swB f a b n) (l36_1 N (a : Int) (b : Int) (n : Int) (i : Int) ys)
  | 0, i, ys, hd, hi, hr => by
    have : i = n := by omega
    subst this
    refine ⟨_, ys, cutG_step ((q36_1 ..).trans ?_), hr, rfl⟩
    rw [ifs_neg (by simp)]
  | d + 1, i, ys, hd, hi, hr => by
    by_cases hin : i < n
    · have e1 : IntKind.i64.wrap ((b : Int) + (i : Int)) = ((b + i : Nat) : Int) := by rw [wr _ (by omega)]; omega
      have e2 : IntKind.i64.wrap ((a : Int) + (i : Int)) = ((a + i : Nat) : Int) := by rw [wr _ (by omega)]; omega
      have e3 : IntKind.i64.wrap ((i : Int) + 1) = ((i + 1 : Nat) : Int) := by rw [wr _ (by omega)]; omega
      have hs := hr.swap (i := a + i) (j := b + i) (by omega) (by omega) (by omega)
      rw [swB_succ f a b i (by omega)] at hs
      obtain ⟨g, zs, h1, h2, h3⟩ := swapi_loop N a b n hN hab hb f d (i + 1) _ (by omega) (by omega) hs
      refine ⟨g, zs, cutG_step ((q36_1 ..).trans ?_), h2, h3⟩
      rw [ifs_pos (by simp; omega), e1, e2, e3, ifs_pos (by omega), Int.toNat_natCast, Int.toNat_natCast, hr.get (by omega), ifs_pos (by omega), hr.get (by omega), ifs_pos (by omega), hr.get (by omega), ifs_pos (by omega), hr.set1 (by omega) (by omega)]
      exact h1
    · have : i = n := by omega
      subst this
      refine ⟨_, ys, cutG_step ((q36_1 ..).trans ?_), hr, rfl⟩
      rw [ifs_neg (by simp)]
theorem swapi_ok (N a b n : Nat) (L : List Nat) (hN : N ≤ 1000) (hab : a + n ≤ b) (hb : b + n ≤ N) (f : Nat → Nat) (ys : List Int) (hr : Rp N ys f) :
    AnsF N (fun g => g = swB f a b n) (cR2 36 [] [inpI] [A.c (C.ow 0 N), inj (.int .i64) (a : Int), inj (.int .i64) (b : Int), inj (.int .i64) (n : Int), cloL L, inj inpI ((), ys)]) := by
  have hl := hr.1
  subst hl
  obtain ⟨g, zs, h1, h2, h3⟩ := swapi_loop ys.length a b n hN hab hb f n 0 ys (by omega) (Nat.zero_le _) (by rw [swB_zero]; exact hr)
  exact ⟨g, zs, callT2_of ((e36 ..).trans h1), h2, h3⟩
theorem roti_loop (N m : Nat) (L : List Nat) (hN : N ≤ 1000) : ∀ (d i j : Nat) (f : Nat → Nat) (ys : List Int), i + j ≤ d → 0 < i → 0 < j → i ≤ m → m + j ≤ N → Rp N ys f → AnsE N (fun g => g = rotF f (m - i) m (m + j)) (l35_2 N (m : Int) L (i : Int) (j : Int) ys)
  | 0, i, j, f, ys, hd, hi, hj, hm, hb, hr => by omega
  | d + 1, i, j, f, ys, hd, hi, hj, hm, hb, hr => by
    have e1 : IntKind.i64.wrap ((m : Int) - (i : Int)) = ((m - i : Nat) : Int) := by rw [wr _ (by omega)]; omega
    by_cases hij : i = j
    · subst hij
      obtain ⟨g, zs, h1, h2, h3⟩ := swapi_ok N (m - i) m i L hN (by omega) hb f ys hr
      refine ⟨g, zs, cutG_step ((q35_2 ..).trans ?_), h2, by rw [h3, rot_eq f m i hm]⟩
      rw [ifs_neg (by simp), e1, h1, Option.bind_some]
    · by_cases hgt : i > j
      · obtain ⟨g, zs, h1, h2, h3⟩ := swapi_ok N (m - i) m j L hN (by omega) hb f ys hr
        obtain ⟨g2, z2, k1, k2, k3⟩ := roti_loop N m L hN d (i - j) j g zs (by omega) (by omega) hj (by omega) hb h2
        refine ⟨g2, z2, cutG_step ((q35_2 ..).trans ?_), k2, by rw [k3, h3, rot_gt f m i j hm hgt]⟩
        have e2 : IntKind.i64.wrap ((i : Int) - (j : Int)) = ((i - j : Nat) : Int) := by rw [wr _ (by omega)]; omega
        rw [ifs_pos (by simp; omega), ifs_pos (by simp; omega), e1, h1, Option.bind_some, e2]
        exact k1
      · obtain ⟨g, zs, h1, h2, h3⟩ := swapi_ok N (m - i) (m + j - i) i L hN (by omega) (by omega) f ys hr
        obtain ⟨g2, z2, k1, k2, k3⟩ := roti_loop N m L hN d i (j - i) g zs (by omega) hi (by omega) hm (by omega) h2
        refine ⟨g2, z2, cutG_step ((q35_2 ..).trans ?_), k2, by rw [k3, h3, rot_lt f m i j hm (by omega)]⟩
        have e2 : IntKind.i64.wrap ((m : Int) + (j : Int)) = ((m + j : Nat) : Int) := by rw [wr _ (by omega)]; omega
        have e3 : IntKind.i64.wrap (((m + j : Nat) : Int) - (i : Int)) = ((m + j - i : Nat) : Int) := by rw [wr _ (by omega)]; omega
        have e4 : IntKind.i64.wrap ((j : Int) - (i : Int)) = ((j - i : Nat) : Int) := by rw [wr _ (by omega)]; omega
        rw [ifs_pos (by simp; omega), ifs_neg (by simp; omega), e1, e2, e3, h1, Option.bind_some, e4]
        exact k1
theorem roti_ok (N a m b : Nat) (L : List Nat) (hN : N ≤ 1000) (ha : a < m) (hm : m < b) (hb : b ≤ N) (f : Nat → Nat) (ys : List Int) (hr : Rp N ys f) :
    AnsF N (fun g => g = rotF f a m b) (cR2 35 [] [inpI] [A.c (C.ow 0 N), inj (.int .i64) (a : Int), inj (.int .i64) (m : Int), inj (.int .i64) (b : Int), cloL L, inj inpI ((), ys)]) := by
  have hl := hr.1
  subst hl
  obtain ⟨g, zs, h1, h2, h3⟩ := roti_loop ys.length m L hN _ (m - a) (b - m) f ys (Nat.le_refl _) (by omega) (by omega) (by omega) (by omega) hr
  refine ⟨g, zs, callT2_of ((e35 ..).trans ?_), h2, by rw [h3]; congr 1 <;> omega⟩
  have e1 : IntKind.i64.wrap ((m : Int) - (a : Int)) = ((m - a : Nat) : Int) := by rw [wr _ (by omega)]; omega
  have e2 : IntKind.i64.wrap ((b : Int) - (m : Int)) = ((b - m : Nat) : Int) := by rw [wr _ (by omega)]; omega
  rw [e1, e2]; exact h1

/-! ### What is better -/
def bet (x y : Nat) : Bool := (fo x x == some .eq) && ((fo y y != some .eq) || (fo x y == some .gt))
theorem better_ok (x y : Nat) : cR 13 [RT.d .bool] [inj (.flt .f64) x, inj (.flt .f64) y] = some (bet x y) := by
  refine callT_of ((e13 x y).trans ?_)
  unfold bet
  cases h1 : (fo x x == some Ordering.eq) with
  | false => rw [ifs_neg (by simp)]; rfl
  | true =>
    rw [ifs_pos rfl]
    cases h2 : (fo y y != some Ordering.eq) with
    | false => rw [ifs_pos rfl]; rfl
    | true => rw [ifs_neg (by simp)]; rfl
def btL (L : List Nat) (x y : Nat) : Bool := bet (L.getD x 0) (L.getD y 0)
theorem rankc_ok (L : List Nat) (x y : Nat) (hx : x < L.length) (hy : y < L.length) : ∃ c : Int, cR 21 [RT.d (.int .i64)] [inj (.int .i64) (x : Int), inj (.int .i64) (y : Int), A.c (C.pt (Pt.sh (Ty.sl (Ty.flt FloatKind.f64)) L (0 : Nat)))] = some c ∧ (c < 0 ↔ btL L x y = true) := by
  have gx : L[x]? = some (L.getD x 0) := by rw [List.getD_eq_getElem?_getD, List.getElem?_eq_getElem hx]; rfl
  have gy : L[y]? = some (L.getD y 0) := by rw [List.getD_eq_getElem?_getD, List.getElem?_eq_getElem hy]; rfl
  have key : ∀ c : Int, callG W0 (callW W0) (cutW W0) 21 [inj (.int .i64) (x : Int), inj (.int .i64) (y : Int), A.c (C.pt (Pt.sh (Ty.sl (Ty.flt FloatKind.f64)) L (0 : Nat)))] = some (injRs [RT.d (.int .i64)] c) → cR 21 [RT.d (.int .i64)] [inj (.int .i64) (x : Int), inj (.int .i64) (y : Int), A.c (C.pt (Pt.sh (Ty.sl (Ty.flt FloatKind.f64)) L (0 : Nat)))] = some c := fun c h => callT_of h
  cases h1 : btL L x y with
  | true =>
    have h1' : bet (L.getD x 0) (L.getD y 0) = true := h1
    refine ⟨-1, key _ ((e21 ..).trans ?_), by simp⟩
    rw [ifs_pos (by omega), Int.toNat_natCast, gx, Option.bind_some, ifs_pos (by omega), Int.toNat_natCast, gy, Option.bind_some, better_ok, Option.bind_some, ifs_pos h1']
  | false =>
    cases h2 : btL L y x with
    | true =>
      have h2' : bet (L.getD y 0) (L.getD x 0) = true := h2
      refine ⟨1, key _ ((e21 ..).trans ?_), by simp⟩
      rw [ifs_pos (by omega), Int.toNat_natCast, gx, Option.bind_some, ifs_pos (by omega), Int.toNat_natCast, gy, Option.bind_some, better_ok, Option.bind_some, ifs_neg (by show ¬ btL L x y = true; rw [h1]; simp), ifs_pos (by omega), Option.bind_some, ifs_pos (by omega), Option.bind_some, better_ok, Option.bind_some, ifs_pos h2']
    | false =>
      refine ⟨0, key _ ((e21 ..).trans ?_), by simp⟩
      rw [ifs_pos (by omega), Int.toNat_natCast, gx, Option.bind_some, ifs_pos (by omega), Int.toNat_natCast, gy, Option.bind_some, better_ok, Option.bind_some, ifs_neg (by show ¬ btL L x y = true; rw [h1]; simp), ifs_pos (by omega), Option.bind_some, ifs_pos (by omega), Option.bind_some, better_ok, Option.bind_some, ifs_neg (by show ¬ btL L y x = true; rw [h2]; simp)]

end Go.Proofs.Ytefhcmkiachphaa.Sp
end
section
/- Insertion and merges of places by what is better, on the machine. Conditions: lengths as_ they stand in each statement. -/
set_option linter.unusedVariables false
set_option linter.unusedSimpArgs false
namespace Go.Proofs.Ytefhcmkiachphaa.Sp
open Go Go.Proofs.Ytefhcmkiachphaa.Ab Go.Proofs.Ytefhcmkiachphaa.Tb

/-- The order of places: a comparison of a later place with an earlier one decides it. -/
structure Cx (L : List Nat) (lt : Nat → Nat → Prop) : Prop where
  T : Tot lt
  c : ∀ x y, x < y → y < L.length → (btL L y x = true ↔ lt y x)
def Vl (L : List Nat) (N : Nat) (f : Nat → Nat) : Prop := ∀ p, p < N → f p < L.length
theorem Vl.wi {L : List Nat} {N : Nat} {f g : Nat → Nat} (h : Vl L N f) {a b : Nat} (w : Wi f g a b) (hb : b ≤ N) : Vl L N g := fun p hp => by
  by_cases c : a ≤ p ∧ p < b
  · obtain ⟨q, q1, q2, e⟩ := w.mem p c.1 c.2
    rw [e]; exact h q (by omega)
  · rw [w.out p (by omega)]; exact h p hp
theorem Cx.cmp {L : List Nat} {lt : Nat → Nat → Prop} (hC : Cx L lt) {x y : Nat} (hxy : x < y) (hy : y < L.length) : ∃ c : Int, cR 21 [RT.d (.int .i64)] [inj (.int .i64) (y : Int), inj (.int .i64) (x : Int), A.c (C.pt (Pt.sh (Ty.sl (Ty.flt FloatKind.f64)) L (0 : Nat)))] = some c ∧ (c < 0 ↔ lt y x) := by
  obtain ⟨c, h1, h2⟩ := rankc_ok L y x hy (by omega)
  exact ⟨c, h1, h2.trans (hC.c x y hxy hy)⟩
theorem midI_ok (i j : Nat) (h : i + j ≤ 1000000) : IntKind.i64.wrap (Int.fdiv (IntKind.u64.wrap (IntKind.i64.wrap ((i : Int) + (j : Int)))) ((2 : Int) ^ min (Int.toNat 1) (IntKind.bits IntKind.u64))) = (((i + j) / 2 : Nat) : Int) := by
  have e1 : IntKind.i64.wrap ((i : Int) + (j : Int)) = (i : Int) + j := wr _ (by omega)
  rw [e1, IntWalk.u64_in _ (by omega)]
  have e : ((2 : Int) ^ min (Int.toNat 1) (IntKind.bits IntKind.u64)) = 2 := by decide
  rw [e, Int.fdiv_eq_ediv_of_nonneg _ (by omega), wr _ (by omega)]
  omega

/-! ### Insertion -/
theorem ins_in {L : List Nat} {lt : Nat → Nat → Prop} (hC : Cx L lt) (N a b : Nat) (hN : N ≤ 1000) (hb : b ≤ N) (f0 : Nat → Nat) (hv : Vl L N f0) (i : Nat) (hi : i < b) (P : (Nat → Nat) → Prop)
    (K : ∀ (g : Nat → Nat) (zs : List Int), Rp N zs g → Wi f0 g a (i + 1) → So lt g a (i + 1) → AnsE N P (l32_1 N (a : Int) (b : Int) L ((i + 1 : Nat) : Int) zs)) :
    ∀ (e j : Nat) (f : Nat → Nat) (zs : List Int), j - a ≤ e → a ≤ j → j ≤ i → Rp N zs f → Wi f0 f a (i + 1) → So lt f a j → (∀ p q, j ≤ p → p < q → q < i + 1 → lt (f p) (f q)) → (∀ p q, a ≤ p → p < j → j < q → q < i + 1 → lt (f p) (f q)) → (∀ p, a ≤ p → p < j → f p < f j) →
      AnsE N P (l32_4 N (a : Int) (b : Int) L (i : Int) (j : Int) zs) := by
  have e3 : IntKind.i64.wrap ((i : Int) + 1) = ((i + 1 : Nat) : Int) := by rw [wr _ (by omega)]; omega
  intro e
  induction e with
  | zero =>
    intro j f zs he haj hji hr hw h1 h2 h3 h4
    obtain ⟨g, z, k1, k2, k3⟩ := K f zs hr hw (fun p q hp hpq hq => h2 p q (by omega) hpq hq)
    refine ⟨g, z, cutG_step ((q32_4 ..).trans ?_), k2, k3⟩
    rw [ifs_neg (by simp; omega), e3]; exact k1
  | succ e ih =>
    intro j f zs he haj hji hr hw h1 h2 h3 h4
    by_cases hj : j > a
    · have e1 : IntKind.i64.wrap ((j : Int) - 1) = ((j - 1 : Nat) : Int) := by rw [wr _ (by omega)]; omega
      have hvf := hv.wi hw (by omega)
      obtain ⟨c, hc1, hc2⟩ := hC.cmp (h4 (j - 1) (by omega) (by omega)) (hvf j (by omega))
      by_cases hc : c < 0
      · have hl := hc2.1 hc
        have hs := hr.swap (i := j) (j := j - 1) (by omega) (by omega) (by omega)
        have s1 : swF f j (j - 1) j = f (j - 1) := by unfold swF; rw [if_pos rfl]
        have s2 : swF f j (j - 1) (j - 1) = f j := by unfold swF; rw [if_neg (by omega), if_pos rfl]
        have s3 : ∀ p, p ≠ j → p ≠ j - 1 → swF f j (j - 1) p = f p := fun p p1 p2 => by unfold swF; rw [if_neg p1, if_neg p2]
        obtain ⟨g, z, k1, k2, k3⟩ := ih (j - 1) (swF f j (j - 1)) _ (by omega) (by omega) (by omega) hs (hw.trans (wi_sw f (by omega) (by omega) (by omega) (by omega)))
          (fun p q hp hpq hq => by rw [s3 p (by omega) (by omega), s3 q (by omega) (by omega)]; exact h1 p q hp hpq (by omega))
          (fun p q hp hpq hq => by
            by_cases p1 : p = j - 1
            · rw [p1, s2]
              by_cases q1 : q = j
              · rw [q1, s1]; exact hl
              · rw [s3 q q1 (by omega)]; exact h2 j q (Nat.le_refl _) (by omega) hq
            · by_cases p2 : p = j
              · rw [p2, s1, s3 q (by omega) (by omega)]; exact h3 (j - 1) q (by omega) (by omega) (by omega) hq
              · rw [s3 p p2 p1, s3 q (by omega) (by omega)]; exact h2 p q (by omega) hpq hq)
          (fun p q hp hpj hjq hq => by
            rw [s3 p (by omega) (by omega)]
            by_cases q1 : q = j
            · rw [q1, s1]; exact h1 p (j - 1) hp hpj (by omega)
            · rw [s3 q q1 (by omega)]; exact h3 p q hp (by omega) (by omega) hq)
          (fun p hp hpj => by rw [s3 p (by omega) (by omega), s2]; exact h4 p hp (by omega))
        refine ⟨g, z, cutG_step ((q32_4 ..).trans ?_), k2, k3⟩
        rw [ifs_pos (by simp; omega), ifs_pos (by omega), Int.toNat_natCast, hr.get (by omega), e1, ifs_pos (by omega), Int.toNat_natCast, hr.get (by omega), hc1, Option.bind_some, ifs_pos (by simpa using hc), ifs_pos (by omega), hr.get (by omega), ifs_pos (by omega), hr.get (by omega), ifs_pos (by omega), hr.get (by omega), ifs_pos (by omega), hr.set1 (by omega) (by omega)]
        exact k1
      · have hl : lt (f (j - 1)) (f j) := hC.T.tot _ _ (fun h => by have := h4 (j - 1) (by omega) (by omega); omega) (fun h => hc (hc2.2 h))
        obtain ⟨g, z, k1, k2, k3⟩ := K f zs hr hw (fun p q hp hpq hq => by
          by_cases q1 : q < j
          · exact h1 p q hp hpq q1
          · by_cases p1 : j ≤ p
            · exact h2 p q p1 hpq hq
            · by_cases q2 : q = j
              · subst q2
                rcases le_of h1 (p := p) (q := q - 1) hp (by omega) (by omega) with h | h
                · rw [h]; exact hl
                · exact hC.T.tr _ _ _ h hl
              · exact h3 p q hp (by omega) (by omega) hq)
        refine ⟨g, z, cutG_step ((q32_4 ..).trans ?_), k2, k3⟩
        rw [ifs_pos (by simp; omega), ifs_pos (by omega), Int.toNat_natCast, hr.get (by omega), e1, ifs_pos (by omega), Int.toNat_natCast, hr.get (by omega), hc1, Option.bind_some, ifs_neg (by simpa using hc), e3]
        exact k1
    · obtain ⟨g, z, k1, k2, k3⟩ := K f zs hr hw (fun p q hp hpq hq => h2 p q (by omega) hpq hq)
      refine ⟨g, z, cutG_step ((q32_4 ..).trans ?_), k2, k3⟩
      rw [ifs_neg (by simp; omega), e3]; exact k1
theorem ins_out {L : List Nat} {lt : Nat → Nat → Prop} (hC : Cx L lt) (N a b : Nat) (hN : N ≤ 1000) (hb : b ≤ N) (f0 : Nat → Nat) (hv : Vl L N f0) (hinc : ∀ p q, a ≤ p → p < q → q < b → f0 p < f0 q) :
    ∀ (d i : Nat) (f : Nat → Nat) (zs : List Int), b - i ≤ d → a ≤ i → i ≤ b → Rp N zs f → Wi f0 f a i → So lt f a i → AnsE N (fun g => Wi f0 g a b ∧ So lt g a b) (l32_1 N (a : Int) (b : Int) L (i : Int) zs)
  | 0, i, f, zs, hd, hai, hib, hr, hw, hs => by
    have : i = b := by omega
    subst this
    refine ⟨f, zs, cutG_step ((q32_1 ..).trans ?_), hr, hw, hs⟩
    rw [ifs_neg (by simp)]
  | d + 1, i, f, zs, hd, hai, hib, hr, hw, hs => by
    by_cases hi : i < b
    · obtain ⟨g, z, k1, k2, k3⟩ := ins_in hC N a b hN hb f0 hv i hi (fun g => Wi f0 g a b ∧ So lt g a b) (fun g z h1 h2 h3 => ins_out hC N a b hN hb f0 hv hinc d (i + 1) g z (by omega) (by omega) hi h1 h2 h3) _ i f zs (Nat.le_refl _) hai (Nat.le_refl _) hr (hw.wide (Nat.le_refl _) (by omega)) hs
        (fun p q hp hpq hq => by omega) (fun p q hp hpi hiq hq => by omega) (fun p hp hpi => by
          obtain ⟨q, q1, q2, e⟩ := hw.mem p hp hpi
          rw [e, hw.out i (.inr (Nat.le_refl _))]
          exact hinc q i q1 q2 hi)
      refine ⟨g, z, cutG_step ((q32_1 ..).trans ?_), k2, k3⟩
      rw [ifs_pos (by simpa using hi)]; exact k1
    · have : i = b := by omega
      subst this
      refine ⟨f, zs, cutG_step ((q32_1 ..).trans ?_), hr, hw, hs⟩
      rw [ifs_neg (by simp)]
theorem insi_ok {L : List Nat} {lt : Nat → Nat → Prop} (hC : Cx L lt) (N a b : Nat) (hN : N ≤ 1000) (hab : a < b) (hb : b ≤ N) (f : Nat → Nat) (ys : List Int) (hr : Rp N ys f) (hv : Vl L N f) (hinc : ∀ p q, a ≤ p → p < q → q < b → f p < f q) :
    AnsF N (fun g => Wi f g a b ∧ So lt g a b) (cR2 32 [] [inpI] [A.c (C.ow 0 N), inj (.int .i64) (a : Int), inj (.int .i64) (b : Int), cloL L, inj inpI ((), ys)]) := by
  have hl := hr.1
  subst hl
  obtain ⟨g, zs, h1, h2, h3⟩ := ins_out hC ys.length a b hN hb f hv hinc _ (a + 1) f ys (Nat.le_refl _) (by omega) hab hr (Wi.refl _ _ _) (fun p q hp hpq hq => by omega)
  refine ⟨g, zs, callT2_of ((e32 ..).trans ?_), h2, h3⟩
  have e1 : IntKind.i64.wrap ((a : Int) + 1) = ((a + 1 : Nat) : Int) := by rw [wr _ (by omega)]; omega
  rw [e1]; exact h1

/-! ### One into many -/
/-- The value at a is moved up to i - 1. -/
def upF (f : Nat → Nat) (a i : Nat) : Nat → Nat := fun p => if a ≤ p ∧ p + 1 < i then f (p + 1) else if p + 1 = i then f a else f p
/-- The value at m is moved down to i. -/
def dnF (f : Nat → Nat) (i m : Nat) : Nat → Nat := fun p => if p = i then f m else if i < p ∧ p ≤ m then f (p - 1) else f p
theorem upF_one (f : Nat → Nat) (a : Nat) : upF f a (a + 1) = f := by
  funext p; unfold upF
  rw [if_neg (by omega)]
  by_cases h : p + 1 = a + 1
  · rw [if_pos h]; congr 1; omega
  · rw [if_neg h]
theorem upF_step (f : Nat → Nat) (a k : Nat) (h : a ≤ k) : swF (upF f a (k + 1)) k (k + 1) = upF f a (k + 2) := by
  funext p; unfold swF upF
  by_cases h1 : p = k
  · subst h1
    rw [if_pos rfl, if_neg (by omega), if_neg (by omega), if_pos (by omega)]
  · rw [if_neg h1]
    by_cases h2 : p = k + 1
    · subst h2
      rw [if_pos rfl, if_neg (by omega), if_pos rfl, if_neg (by omega), if_pos rfl]
    · rw [if_neg h2]
      by_cases h3 : a ≤ p ∧ p + 1 < k + 1
      · rw [if_pos h3, if_pos (by omega)]
      · rw [if_neg h3, if_neg (by omega), if_neg (by omega), if_neg (by omega)]
theorem dnF_zero (f : Nat → Nat) (m : Nat) : dnF f m m = f := by
  funext p; unfold dnF
  by_cases h : p = m
  · rw [if_pos h, h]
  · rw [if_neg h, if_neg (by omega)]
theorem dnF_step (f : Nat → Nat) (k m : Nat) (h0 : 0 < k) (h : k ≤ m) : swF (dnF f k m) k (k - 1) = dnF f (k - 1) m := by
  funext p; unfold swF dnF
  by_cases h1 : p = k
  · subst h1
    rw [if_pos rfl, if_neg (by omega), if_neg (by omega), if_neg (by omega), if_pos (by omega)]
  · rw [if_neg h1]
    by_cases h2 : p = k - 1
    · rw [if_pos h2, if_pos rfl, if_pos h2]
    · rw [if_neg h2, if_neg h1, if_neg h2]
      by_cases h3 : k < p ∧ p ≤ m
      · rw [if_pos h3, if_pos (by omega)]
      · rw [if_neg h3, if_neg (by omega)]
theorem up_done {lt : Nat → Nat → Prop} (T : Tot lt) {f : Nat → Nat} {a b i : Nat} (P : Pm lt f a (a + 1) b) (h1 : a + 1 ≤ i) (h2 : i ≤ b) (lo : a + 1 < i → lt (f (i - 1)) (f a)) (hi : i < b → lt (f a) (f i)) : Wi f (upF f a i) a b ∧ So lt (upF f a i) a b := by
  refine ⟨⟨fun p hp => by unfold upF; rw [if_neg (by omega), if_neg (by omega)], fun p p1 p2 => ?_⟩, fun p q hp hpq hq => ?_⟩
  · unfold upF
    by_cases c1 : a ≤ p ∧ p + 1 < i
    · rw [if_pos c1]; exact ⟨p + 1, by omega, by omega, rfl⟩
    · rw [if_neg c1]
      by_cases c2 : p + 1 = i
      · rw [if_pos c2]; exact ⟨a, Nat.le_refl _, by omega, rfl⟩
      · rw [if_neg c2]; exact ⟨p, p1, p2, rfl⟩
  · unfold upF
    by_cases c1 : p + 1 < i
    · rw [if_pos ⟨hp, c1⟩]
      by_cases d1 : q + 1 < i
      · rw [if_pos ⟨by omega, d1⟩]; exact P.r _ _ (by omega) (by omega) (by omega)
      · rw [if_neg (by omega)]
        by_cases d2 : q + 1 = i
        · rw [if_pos d2]
          have h := lo (by omega)
          rcases le_of P.r (p := p + 1) (q := i - 1) (by omega) (by omega) (by omega) with e | e
          · rw [e]; exact h
          · exact T.tr _ _ _ e h
        · rw [if_neg d2]; exact P.r _ _ (by omega) (by omega) hq
    · rw [if_neg (by omega)]
      by_cases c2 : p + 1 = i
      · rw [if_pos c2, if_neg (by omega), if_neg (by omega)]
        have h := hi (by omega)
        rcases le_of P.r (p := i) (q := q) (by omega) (by omega) hq with e | e
        · rw [← e]; exact h
        · exact T.tr _ _ _ h e
      · rw [if_neg c2, if_neg (by omega), if_neg (by omega)]
        exact P.r _ _ (by omega) hpq hq
theorem dn_done {lt : Nat → Nat → Prop} (T : Tot lt) {f : Nat → Nat} {a m i : Nat} (P : Pm lt f a m (m + 1)) (h1 : a ≤ i) (h2 : i ≤ m) (lo : a < i → lt (f (i - 1)) (f m)) (hi : i < m → lt (f m) (f i)) : Wi f (dnF f i m) a (m + 1) ∧ So lt (dnF f i m) a (m + 1) := by
  refine ⟨⟨fun p hp => by unfold dnF; rw [if_neg (by omega), if_neg (by omega)], fun p p1 p2 => ?_⟩, fun p q hp hpq hq => ?_⟩
  · unfold dnF
    by_cases c1 : p = i
    · rw [if_pos c1]; exact ⟨m, by omega, by omega, rfl⟩
    · rw [if_neg c1]
      by_cases c2 : i < p ∧ p ≤ m
      · rw [if_pos c2]; exact ⟨p - 1, by omega, by omega, rfl⟩
      · rw [if_neg c2]; exact ⟨p, p1, p2, rfl⟩
  · unfold dnF
    by_cases c1 : p = i
    · rw [if_pos c1, if_neg (by omega), if_pos (by omega)]
      have h := hi (by omega)
      rcases le_of P.l (p := i) (q := q - 1) (by omega) (by omega) (by omega) with e | e
      · rw [← e]; exact h
      · exact T.tr _ _ _ h e
    · rw [if_neg c1]
      by_cases c2 : i < p ∧ p ≤ m
      · rw [if_pos c2, if_neg (by omega), if_pos (by omega)]
        exact P.l _ _ (by omega) (by omega) (by omega)
      · rw [if_neg c2]
        by_cases d1 : q = i
        · rw [if_pos d1]
          have h := lo (by omega)
          rcases le_of P.l (p := p) (q := i - 1) hp (by omega) (by omega) with e | e
          · rw [e]; exact h
          · exact T.tr _ _ _ e h
        · rw [if_neg d1]
          by_cases d2 : i < q ∧ q ≤ m
          · rw [if_pos d2]
            exact P.l _ _ hp (by omega) (by omega)
          · rw [if_neg d2]; exact P.l _ _ hp hpq (by omega)
theorem up_walk (N a i : Nat) (hN : N ≤ 1000) (hi : i ≤ N) (f : Nat → Nat) : ∀ (d k : Nat) (ys : List Int), i - k ≤ d → a ≤ k → k < i → Rp N ys (upF f a (k + 1)) → AnsE N (fun g => g = upF f a i) (l33_9 N (i : Int) (k : Int) ys)
  | 0, k, ys, hd, hak, hk, hr => by omega
  | d + 1, k, ys, hd, hak, hk, hr => by
    have e0 : IntKind.i64.wrap ((i : Int) - 1) = ((i - 1 : Nat) : Int) := by rw [wr _ (by omega)]; omega
    by_cases h : k + 1 < i
    · have e1 : IntKind.i64.wrap ((k : Int) + 1) = ((k + 1 : Nat) : Int) := by rw [wr _ (by omega)]; omega
      have hs := hr.swap (i := k) (j := k + 1) (by omega) (by omega) (by omega)
      rw [upF_step f a k hak] at hs
      obtain ⟨g, zs, h1, h2, h3⟩ := up_walk N a i hN hi f d (k + 1) _ (by omega) (by omega) h hs
      refine ⟨g, zs, cutG_step ((q33_9 ..).trans ?_), h2, h3⟩
      rw [e0, ifs_pos (by simp; omega), e1, ifs_pos (by omega), Int.toNat_natCast, Int.toNat_natCast, hr.get (by omega), ifs_pos (by omega), hr.get (by omega), ifs_pos (by omega), hr.get (by omega), ifs_pos (by omega), hr.set1 (by omega) (by omega)]
      exact h1
    · have : i = k + 1 := by omega
      subst this
      refine ⟨_, ys, cutG_step ((q33_9 ..).trans ?_), hr, rfl⟩
      rw [e0, ifs_neg (by simp)]
theorem dn_walk (N i m : Nat) (hN : N ≤ 1000) (hm : m < N) (f : Nat → Nat) : ∀ (d k : Nat) (ys : List Int), k - i ≤ d → i ≤ k → k ≤ m → Rp N ys (dnF f k m) → AnsE N (fun g => g = dnF f i m) (l33_21 N (i : Int) (k : Int) ys)
  | 0, k, ys, hd, hik, hk, hr => by
    have : k = i := by omega
    subst this
    refine ⟨_, ys, cutG_step ((q33_21 ..).trans ?_), hr, rfl⟩
    rw [ifs_neg (by simp)]
  | d + 1, k, ys, hd, hik, hk, hr => by
    by_cases h : i < k
    · have e1 : IntKind.i64.wrap ((k : Int) - 1) = ((k - 1 : Nat) : Int) := by rw [wr _ (by omega)]; omega
      have hs := hr.swap (i := k) (j := k - 1) (by omega) (by omega) (by omega)
      rw [dnF_step f k m (by omega) hk] at hs
      obtain ⟨g, zs, h1, h2, h3⟩ := dn_walk N i m hN hm f d (k - 1) _ (by omega) (by omega) (by omega) hs
      refine ⟨g, zs, cutG_step ((q33_21 ..).trans ?_), h2, h3⟩
      rw [ifs_pos (by simp; omega), e1, ifs_pos (by omega), Int.toNat_natCast, Int.toNat_natCast, hr.get (by omega), ifs_pos (by omega), hr.get (by omega), ifs_pos (by omega), hr.get (by omega), ifs_pos (by omega), hr.set1 (by omega) (by omega)]
      exact h1
    · have : k = i := by omega
      subst this
      refine ⟨_, ys, cutG_step ((q33_21 ..).trans ?_), hr, rfl⟩
      rw [ifs_neg (by simp)]
theorem bin1_walk {L : List Nat} {lt : Nat → Nat → Prop} (hC : Cx L lt) (N a b : Nat) (hN : N ≤ 1000) (hab : a + 1 < b) (hb : b ≤ N) (f : Nat → Nat) (ys : List Int) (hr : Rp N ys f) (hv : Vl L N f) (P : Pm lt f a (a + 1) b) :
    ∀ (d i j : Nat), j - i ≤ d → a + 1 ≤ i → i ≤ j → j ≤ b → (a + 1 < i → lt (f (i - 1)) (f a)) → (j < b → lt (f a) (f j)) → AnsE N (fun g => Wi f g a b ∧ So lt g a b) (l33_3 N (a : Int) L (i : Int) (j : Int) ys) := by
  have fin : ∀ i : Nat, a + 1 ≤ i → i ≤ b → (a + 1 < i → lt (f (i - 1)) (f a)) → (i < b → lt (f a) (f i)) → AnsE N (fun g => Wi f g a b ∧ So lt g a b) (l33_3 N (a : Int) L (i : Int) (i : Int) ys) := fun i h1 h2 lo hi => by
    obtain ⟨g, zs, k1, k2, k3⟩ := up_walk N a i hN (by omega) f _ a ys (Nat.le_refl _) (Nat.le_refl _) (by omega) (by rw [upF_one]; exact hr)
    refine ⟨g, zs, cutG_step ((q33_3 ..).trans ?_), k2, by rw [k3]; exact up_done hC.T P h1 h2 lo hi⟩
    rw [ifs_neg (by simp)]; exact k1
  intro d
  induction d with
  | zero =>
    intro i j hd hi hij hj lo hi'
    have : j = i := by omega
    subst this
    exact fin j hi hj lo hi'
  | succ d ih =>
    intro i j hd hi hij hj lo hi'
    by_cases hlt : i < j
    · have hmid := midI_ok i j (by omega)
      have hb1 : (i + j) / 2 < j := by omega
      have hb0 : i ≤ (i + j) / 2 := by omega
      generalize hh : (i + j) / 2 = h at hmid hb1 hb0
      have e1 : IntKind.i64.wrap ((h : Int) + 1) = ((h + 1 : Nat) : Int) := by rw [wr _ (by omega)]; omega
      have hx := P.x a h (Nat.le_refl _) (by omega) (by omega) (by omega)
      obtain ⟨c, hc1, hc2⟩ := hC.cmp hx (hv h (by omega))
      by_cases hc : c < 0
      · obtain ⟨g, zs, k1, k2, k3⟩ := ih (h + 1) j (by omega) (by omega) (by omega) hj (fun _ => by rw [Nat.add_sub_cancel]; exact hc2.1 hc) hi'
        refine ⟨g, zs, cutG_step ((q33_3 ..).trans ?_), k2, k3⟩
        rw [ifs_pos (by simp; omega), hmid, ifs_pos (by omega), Int.toNat_natCast, hr.get (by omega), ifs_pos (by omega), Int.toNat_natCast, hr.get (by omega), hc1, Option.bind_some, ifs_pos (by simpa using hc), e1]
        exact k1
      · obtain ⟨g, zs, k1, k2, k3⟩ := ih i h (by omega) hi (by omega) (by omega) lo (fun _ => hC.T.tot _ _ (fun e => by omega) (fun e => hc (hc2.2 e)))
        refine ⟨g, zs, cutG_step ((q33_3 ..).trans ?_), k2, k3⟩
        rw [ifs_pos (by simp; omega), hmid, ifs_pos (by omega), Int.toNat_natCast, hr.get (by omega), ifs_pos (by omega), Int.toNat_natCast, hr.get (by omega), hc1, Option.bind_some, ifs_neg (by simpa using hc)]
        exact k1
    · have : j = i := by omega
      subst this
      exact fin j hi hj lo hi'
theorem bin2_walk {L : List Nat} {lt : Nat → Nat → Prop} (hC : Cx L lt) (N a m : Nat) (hN : N ≤ 1000) (ham : a < m) (hm : m < N) (f : Nat → Nat) (ys : List Int) (hr : Rp N ys f) (hv : Vl L N f) (P : Pm lt f a m (m + 1)) :
    ∀ (d i j : Nat), j - i ≤ d → a ≤ i → i ≤ j → j ≤ m → (a < i → lt (f (i - 1)) (f m)) → (j < m → lt (f m) (f j)) → AnsE N (fun g => Wi f g a (m + 1) ∧ So lt g a (m + 1)) (l33_15 N (m : Int) L (i : Int) (j : Int) ys) := by
  have fin : ∀ i : Nat, a ≤ i → i ≤ m → (a < i → lt (f (i - 1)) (f m)) → (i < m → lt (f m) (f i)) → AnsE N (fun g => Wi f g a (m + 1) ∧ So lt g a (m + 1)) (l33_15 N (m : Int) L (i : Int) (i : Int) ys) := fun i h1 h2 lo hi => by
    obtain ⟨g, zs, k1, k2, k3⟩ := dn_walk N i m hN hm f _ m ys (Nat.le_refl _) h2 (Nat.le_refl _) (by rw [dnF_zero]; exact hr)
    refine ⟨g, zs, cutG_step ((q33_15 ..).trans ?_), k2, by rw [k3]; exact dn_done hC.T P h1 h2 lo hi⟩
    rw [ifs_neg (by simp)]; exact k1
  intro d
  induction d with
  | zero =>
    intro i j hd hi hij hj lo hi'
    have : j = i := by omega
    subst this
    exact fin j hi hj lo hi'
  | succ d ih =>
    intro i j hd hi hij hj lo hi'
    by_cases hlt : i < j
    · have hmid := midI_ok i j (by omega)
      have hb1 : (i + j) / 2 < j := by omega
      have hb0 : i ≤ (i + j) / 2 := by omega
      generalize hh : (i + j) / 2 = h at hmid hb1 hb0
      have e1 : IntKind.i64.wrap ((h : Int) + 1) = ((h + 1 : Nat) : Int) := by rw [wr _ (by omega)]; omega
      have hx := P.x h m (by omega) (by omega) (Nat.le_refl _) (by omega)
      obtain ⟨c, hc1, hc2⟩ := hC.cmp hx (hv m hm)
      by_cases hc : c < 0
      · obtain ⟨g, zs, k1, k2, k3⟩ := ih i h (by omega) hi (by omega) (by omega) lo (fun _ => hc2.1 hc)
        refine ⟨g, zs, cutG_step ((q33_15 ..).trans ?_), k2, k3⟩
        rw [ifs_pos (by simp; omega), ifs_pos (by omega), Int.toNat_natCast, hr.get (by omega), hmid, ifs_pos (by omega), Int.toNat_natCast, hr.get (by omega), hc1, Option.bind_some, ifs_neg (by simpa using hc)]
        exact k1
      · obtain ⟨g, zs, k1, k2, k3⟩ := ih (h + 1) j (by omega) (by omega) (by omega) hj (fun _ => by rw [Nat.add_sub_cancel]; exact hC.T.tot _ _ (fun e => by omega) (fun e => hc (hc2.2 e))) hi'
        refine ⟨g, zs, cutG_step ((q33_15 ..).trans ?_), k2, k3⟩
        rw [ifs_pos (by simp; omega), ifs_pos (by omega), Int.toNat_natCast, hr.get (by omega), hmid, ifs_pos (by omega), Int.toNat_natCast, hr.get (by omega), hc1, Option.bind_some, ifs_pos (by simpa using hc), e1]
        exact k1
    · have : j = i := by omega
      subst this
      exact fin j hi hj lo hi'

end Go.Proofs.Ytefhcmkiachphaa.Sp
end
section
/- A merge in place is right, on the machine. Conditions: lengths as_ they stand in each statement. -/
set_option linter.unusedVariables false
set_option linter.unusedSimpArgs false
namespace Go.Proofs.Ytefhcmkiachphaa.Sp
open Go Go.Proofs.Ytefhcmkiachphaa.Ab Go.Proofs.Ytefhcmkiachphaa.Tb

noncomputable def symI (N : Nat) (L : List Nat) (a m b : Int) (ys : List Int) : Option (dens [] × dens ([inpI].map RT.d)) :=
  cR2 33 [] [inpI] [A.c (C.ow 0 N), inj (.int .i64) a, inj (.int .i64) m, inj (.int .i64) b, cloL L, inj inpI ((), ys)]
noncomputable def t2I (N : Nat) (L : List Nat) (b mid en : Int) (zs : List Int) : Option (List RV) :=
  ifs (decide (mid < en) = true) (ifs (decide (en < b) = true) (Option.bind (symI N L mid en b zs) fun r => some (injRs [] () ++ injRs [RT.d inpI] ((), r.2.2))) (some (injRs [] () ++ injRs [RT.d inpI] ((), zs)))) (some (injRs [] () ++ injRs [RT.d inpI] ((), zs)))
noncomputable def t1I (N : Nat) (L : List Nat) (a b mid start en : Int) (zs : List Int) : Option (List RV) :=
  ifs (decide (a < start) = true) (ifs (decide (start < mid) = true) (Option.bind (symI N L a start mid zs) fun r => t2I N L b mid en r.2.2) (t2I N L b mid en zs)) (t2I N L b mid en zs)
def SymS (L : List Nat) (lt : Nat → Nat → Prop) (N d : Nat) : Prop := ∀ (a m b : Nat) (f : Nat → Nat) (ys : List Int), b - a ≤ d → a < m → m < b → b ≤ N → Rp N ys f → Vl L N f → Pm lt f a m b → AnsF N (fun g => Wi f g a b ∧ So lt g a b) (symI N L (a : Int) (m : Int) (b : Int) ys)
theorem Pm.same {lt : Nat → Nat → Prop} {f g : Nat → Nat} {a m b : Nat} (h : Pm lt f a m b) (ham : a ≤ m) (hmb : m ≤ b) (e : ∀ p, a ≤ p → p < b → g p = f p) : Pm lt g a m b :=
  ⟨h.l.same fun p h1 h2 => e p h1 (by omega), h.r.same fun p h1 h2 => e p (by omega) h2, fun p q h1 h2 h3 h4 => by rw [e p h1 (by omega), e q (by omega) h4]; exact h.x p q h1 h2 h3 h4⟩
theorem t2I_ok {L : List Nat} {lt : Nat → Nat → Prop} {N d : Nat} (ih : SymS L lt N d) (b mid e : Nat) (g : Nat → Nat) (zs : List Int) (hd : b - mid ≤ d) (hb : b ≤ N) (hme : mid ≤ e) (heb : e ≤ b) (hr : Rp N zs g) (hv : Vl L N g) (P : Pm lt g mid e b) :
    AnsE N (fun h => Wi g h mid b ∧ So lt h mid b) (t2I N L (b : Int) (mid : Int) (e : Int) zs) := by
  unfold t2I
  by_cases h1 : mid < e
  · rw [ifs_pos (by simp; omega)]
    by_cases h2 : e < b
    · rw [ifs_pos (by simp; omega)]
      obtain ⟨h, z, k1, k2, k3⟩ := ih mid e b g zs hd h1 h2 hb hr hv P
      exact ⟨h, z, by rw [k1, Option.bind_some], k2, k3⟩
    · rw [ifs_neg (by simp; omega)]
      have : e = b := by omega
      exact ⟨g, zs, rfl, hr, Wi.refl _ _ _, by rw [← this]; exact P.l⟩
  · rw [ifs_neg (by simp; omega)]
    have : e = mid := by omega
    exact ⟨g, zs, rfl, hr, Wi.refl _ _ _, by rw [← this]; exact P.r⟩
theorem t1I_ok {L : List Nat} {lt : Nat → Nat → Prop} (hC : Cx L lt) {N d : Nat} (ih : SymS L lt N d) {f : Nat → Nat} {a m b mid start e : Nat} (zs : List Int) (hd : b - mid ≤ d) (hd2 : mid - a ≤ d) (ham : a ≤ mid) (hmb : mid ≤ b) (hb : b ≤ N) (hv : Vl L N f) (P : Pm lt f a m b) (K : Cut lt f a m b mid start e) (hr : Rp N zs (rotF f start m e)) :
    AnsE N (fun h => Wi f h a b ∧ So lt h a b) (t1I N L (a : Int) (b : Int) (mid : Int) (start : Int) (e : Int) zs) := by
  obtain ⟨p1, p2⟩ := cut_pm P K
  have ⟨s1, s2, s3, e1, e2, sum, lo, hi⟩ := K
  have hvr : Vl L N (rotF f start m e) := hv.wi (wi_rot f s3 e1) (by omega)
  have fin : ∀ (g : Nat → Nat) (z : List Int), Rp N z g → Wi (rotF f start m e) g a mid → So lt g a mid → AnsE N (fun h => Wi f h a b ∧ So lt h a b) (t2I N L (b : Int) (mid : Int) (e : Int) z) := fun g z hg hw hs => by
    have hvg := hvr.wi hw (by omega)
    have p2' : Pm lt g mid e b := p2.same (by omega) e2 fun p h1 h2 => hw.out p (.inr h1)
    exact (t2I_ok ih b mid e g z hd hb (by omega) e2 hg hvg p2').imp fun h ⟨k1, k2⟩ => cut_done hC.T P K hw hs k1 k2 ham hmb
  unfold t1I
  by_cases h1 : a < start
  · rw [ifs_pos (by simp; omega)]
    by_cases h2 : start < mid
    · rw [ifs_pos (by simp; omega)]
      obtain ⟨g, z, k1, k2, k3, k4⟩ := ih a start mid _ zs hd2 h1 h2 (by omega) hr hvr p1
      rw [k1, Option.bind_some]
      exact fin g z k2 k3 k4
    · rw [ifs_neg (by simp; omega)]
      have : start = mid := by omega
      exact fin _ zs hr (Wi.refl _ _ _) (by have := p1.l; rwa [‹start = mid›] at this ⊢)
  · rw [ifs_neg (by simp; omega)]
    have : start = a := by omega
    exact fin _ zs hr (Wi.refl _ _ _) (by have := p1.r; rwa [‹start = a›] at this ⊢)
theorem rot_none (f : Nat → Nat) (s m e : Nat) (h : s = m ∨ m = e) (h1 : s ≤ m) (h2 : m ≤ e) : rotF f s m e = f := by
  funext p; unfold rotF
  rcases h with h | h
  · subst h
    by_cases c : s ≤ p ∧ p < s + (e - s)
    · rw [if_pos c]; congr 1; omega
    · rw [if_neg c, if_neg (by omega)]
  · subst h
    rw [if_neg (by omega)]
    by_cases c : s + (m - m) ≤ p ∧ p < m
    · rw [if_pos c]; congr 1; omega
    · rw [if_neg c]
theorem mid_walk {L : List Nat} {lt : Nat → Nat → Prop} (hC : Cx L lt) {N D : Nat} (ih : SymS L lt N D) (hN : N ≤ 1000) (a m b mid : Nat) (f : Nat → Nat) (ys : List Int) (ham : a < m) (hmb : m < b) (hb : b ≤ N) (hr : Rp N ys f) (hv : Vl L N f) (P : Pm lt f a m b) (hd : b - mid ≤ D) (hd2 : mid - a ≤ D) (hm1 : a ≤ mid) (hm2 : mid ≤ b)
    (s0 r0 : Nat) (hs0 : s0 = a ∨ s0 + b = mid + m) (hsa : a ≤ s0) (hsb : mid + m ≤ s0 + b) (hr0 : r0 = mid ∨ r0 = m) (hrm : r0 ≤ mid) (hrm2 : r0 ≤ m) :
    ∀ (d start r : Nat), r - start ≤ d → s0 ≤ start → start ≤ r → r ≤ r0 → (start ≠ s0 → lt (f (start - 1)) (f (mid + m - start))) → (r ≠ r0 → lt (f (mid + m - 1 - r)) (f r)) →
      AnsE N (fun g => Wi f g a b ∧ So lt g a b) (l33_33 N (a : Int) (m : Int) (b : Int) L (mid : Int) ((mid + m : Nat) : Int) (start : Int) (r : Int) (((mid + m : Nat) : Int) - 1) ys) := by
  have fin : ∀ start : Nat, s0 ≤ start → start ≤ r0 → (start ≠ s0 → lt (f (start - 1)) (f (mid + m - start))) → (start ≠ r0 → lt (f (mid + m - 1 - start)) (f start)) → AnsE N (fun g => Wi f g a b ∧ So lt g a b) (l33_33 N (a : Int) (m : Int) (b : Int) L (mid : Int) ((mid + m : Nat) : Int) (start : Int) (start : Int) (((mid + m : Nat) : Int) - 1) ys) := fun start h1 h2 lo hi => by
    have hend : IntKind.i64.wrap (((mid + m : Nat) : Int) - (start : Int)) = ((mid + m - start : Nat) : Int) := by rw [wr _ (by omega)]; omega
    have K : Cut lt f a m b mid start (mid + m - start) := ⟨by omega, by omega, by omega, by omega, by omega, by omega, fun h3 h4 => lo (by omega), fun h3 h4 => by
      have := hi (by omega)
      rwa [show mid + m - start - 1 = mid + m - 1 - start by omega]⟩
    suffices hR : AnsE N (fun g => Wi f g a b ∧ So lt g a b) (ifs (decide ((start : Int) < (m : Int)) = true) (ifs (decide ((m : Int) < IntKind.i64.wrap (((mid + m : Nat) : Int) - (start : Int))) = true)
        (Option.bind (cR2 35 [] [inpI] [A.c (C.ow 0 N), inj (.int .i64) (start : Int), inj (.int .i64) (m : Int), inj (.int .i64) (IntKind.i64.wrap (((mid + m : Nat) : Int) - (start : Int))), cloL L, inj inpI ((), ys)]) fun r => t1I N L (a : Int) (b : Int) (mid : Int) (start : Int) (IntKind.i64.wrap (((mid + m : Nat) : Int) - (start : Int))) r.2.2)
        (t1I N L (a : Int) (b : Int) (mid : Int) (start : Int) (IntKind.i64.wrap (((mid + m : Nat) : Int) - (start : Int))) ys)) (t1I N L (a : Int) (b : Int) (mid : Int) (start : Int) (IntKind.i64.wrap (((mid + m : Nat) : Int) - (start : Int))) ys)) by
      obtain ⟨g, z, k1, k2⟩ := hR
      refine ⟨g, z, cutG_step ((q33_33 ..).trans ?_), k2⟩
      rw [ifs_neg (by simp)]
      exact k1
    rw [hend]
    by_cases c1 : start < m
    · rw [ifs_pos (by simp; omega)]
      by_cases c2 : m < mid + m - start
      · rw [ifs_pos (by simp; omega)]
        obtain ⟨g, z, k1, k2, k3⟩ := roti_ok N start m (mid + m - start) L hN c1 c2 (by omega) f ys hr
        rw [k1, Option.bind_some]
        exact t1I_ok hC ih z hd hd2 hm1 hm2 hb hv P K (by rw [← k3]; exact k2)
      · rw [ifs_neg (by simp; omega)]
        exact t1I_ok hC ih ys hd hd2 hm1 hm2 hb hv P K (by rw [rot_none f _ _ _ (.inr (by omega)) (by omega) (by omega)]; exact hr)
    · rw [ifs_neg (by simp; omega)]
      exact t1I_ok hC ih ys hd hd2 hm1 hm2 hb hv P K (by rw [rot_none f _ _ _ (.inl (by omega)) (by omega) (by omega)]; exact hr)
  intro d
  induction d with
  | zero =>
    intro start r h1 h2 h3 h4 lo hi
    have : r = start := by omega
    subst this
    exact fin r h2 h4 lo hi
  | succ d ihd =>
    intro start r h1 h2 h3 h4 lo hi
    by_cases hlt : start < r
    · have hmid := midI_ok start r (by omega)
      have hc1 : (start + r) / 2 < r := by omega
      have hc2 : start ≤ (start + r) / 2 := by omega
      generalize hh : (start + r) / 2 = c at hmid hc1 hc2
      have e1 : IntKind.i64.wrap ((c : Int) + 1) = ((c + 1 : Nat) : Int) := by rw [wr _ (by omega)]; omega
      have e2 : IntKind.i64.wrap ((((mid + m : Nat) : Int) - 1) - (c : Int)) = ((mid + m - 1 - c : Nat) : Int) := by rw [wr _ (by omega)]; omega
      have hx := P.x c (mid + m - 1 - c) (by omega) (by omega) (by omega) (by omega)
      obtain ⟨v, hv1, hv2⟩ := hC.cmp hx (hv _ (by omega))
      by_cases hc : v < 0
      · obtain ⟨g, z, k1, k2⟩ := ihd start c (by omega) h2 hc2 (by omega) lo (fun _ => hv2.1 hc)
        refine ⟨g, z, cutG_step ((q33_33 ..).trans ?_), k2⟩
        rw [ifs_pos (by simp; omega), hmid, e2, ifs_pos (by omega), Int.toNat_natCast, hr.get (by omega), ifs_pos (by omega), Int.toNat_natCast, hr.get (by omega), hv1, Option.bind_some, ifs_neg (by simpa using hc)]
        exact k1
      · obtain ⟨g, z, k1, k2⟩ := ihd (c + 1) r (by omega) (by omega) (by omega) h4 (fun _ => by
          rw [Nat.add_sub_cancel, show mid + m - (c + 1) = mid + m - 1 - c by omega]
          exact hC.T.tot _ _ (fun e => by omega) (fun e => hc (hv2.2 e))) hi
        refine ⟨g, z, cutG_step ((q33_33 ..).trans ?_), k2⟩
        rw [ifs_pos (by simp; omega), hmid, e2, ifs_pos (by omega), Int.toNat_natCast, hr.get (by omega), ifs_pos (by omega), Int.toNat_natCast, hr.get (by omega), hv1, Option.bind_some, ifs_pos (by simpa using hc), e1]
        exact k1
    · have : r = start := by omega
      subst this
      exact fin r h2 h4 lo hi
theorem symS_ok {L : List Nat} {lt : Nat → Nat → Prop} (hC : Cx L lt) (N : Nat) (hN : N ≤ 1000) : ∀ d, SymS L lt N d
  | 0 => fun a m b f ys h1 h2 h3 => by omega
  | d + 1 => by
    intro a m b f ys hd ham hmb hb hr hv P
    have ih := symS_ok hC N hN d
    have hl := hr.1
    subst hl
    suffices hR : ∃ o, callG W0 (callW W0) (cutW W0) 33 [A.c (C.ow (0 : Nat) (List.length ys)), inj (.int .i64) (a : Int), inj (.int .i64) (m : Int), inj (.int .i64) (b : Int), cloL L, A.ag [C.sl (.int .i64) ys]] = o ∧ AnsE ys.length (fun g => Wi f g a b ∧ So lt g a b) o by
      obtain ⟨o, e, g, z, e2, k⟩ := hR
      exact ⟨g, z, callT2_of (e.trans e2), k⟩
    refine ⟨_, e33 .., ?_⟩
    have e1 : IntKind.i64.wrap ((m : Int) - (a : Int)) = ((m - a : Nat) : Int) := by rw [wr _ (by omega)]; omega
    have e2 : IntKind.i64.wrap ((b : Int) - (m : Int)) = ((b - m : Nat) : Int) := by rw [wr _ (by omega)]; omega
    rw [e1, e2]
    by_cases c1 : m - a = 1
    · have : m = a + 1 := by omega
      subst this
      rw [ifs_pos (by simp)]
      exact bin1_walk hC ys.length a b hN hmb hb f ys hr hv P _ (a + 1) b (Nat.le_refl _) (Nat.le_refl _) (by omega) (Nat.le_refl _) (fun h => by omega) (fun h => by omega)
    · rw [ifs_neg (by simp; omega)]
      by_cases c2 : b - m = 1
      · have : b = m + 1 := by omega
        subst this
        rw [ifs_pos (by simp)]
        exact bin2_walk hC ys.length a m hN ham (by omega) f ys hr hv P _ a m (Nat.le_refl _) (Nat.le_refl _) (by omega) (Nat.le_refl _) (fun h => by omega) (fun h => by omega)
      · rw [ifs_neg (by simp; omega), midI_ok a b (by omega)]
        generalize hmid : (a + b) / 2 = mid
        have e3 : IntKind.i64.wrap ((mid : Int) + (m : Int)) = ((mid + m : Nat) : Int) := by rw [wr _ (by omega)]; omega
        have e4 : IntKind.i64.wrap (((mid + m : Nat) : Int) - 1) = ((mid + m : Nat) : Int) - 1 := wr _ (by omega)
        have e5 : m > mid → IntKind.i64.wrap (((mid + m : Nat) : Int) - (b : Int)) = ((mid + m - b : Nat) : Int) := fun h => by rw [wr _ (by omega)]; omega
        rw [e3, e4]
        by_cases c3 : m > mid
        · rw [ifs_pos (by simp; omega), e5 c3]
          exact mid_walk hC ih hN a m b mid f ys ham hmb hb hr hv P (by omega) (by omega) (by omega) (by omega) (mid + m - b) mid (.inr (by omega)) (by omega) (by omega) (.inl rfl) (Nat.le_refl _) (by omega) _ _ _ (Nat.le_refl _) (Nat.le_refl _) (by omega) (Nat.le_refl _) (fun h => absurd rfl h) (fun h => absurd rfl h)
        · rw [ifs_neg (by simp; omega)]
          exact mid_walk hC ih hN a m b mid f ys ham hmb hb hr hv P (by omega) (by omega) (by omega) (by omega) a m (.inl rfl) (Nat.le_refl _) (by omega) (.inr rfl) (by omega) (Nat.le_refl _) _ _ _ (Nat.le_refl _) (Nat.le_refl _) (by omega) (Nat.le_refl _) (fun h => absurd rfl h) (fun h => absurd rfl h)

end Go.Proofs.Ytefhcmkiachphaa.Sp
end
section
/- SortStableFunc puts places in order. Conditions: lengths as_ they stand in each statement. -/
set_option linter.unusedVariables false
set_option linter.unusedSimpArgs false
namespace Go.Proofs.Ytefhcmkiachphaa.Sp
open Go Go.Proofs.Ytefhcmkiachphaa.Ab Go.Proofs.Ytefhcmkiachphaa.Tb

/-- A block in order that holds its own places alone. -/
structure Blk (lt : Nat → Nat → Prop) (f : Nat → Nat) (s e : Nat) : Prop where
  so : So lt f s e
  v : ∀ p, s ≤ p → p < e → s ≤ f p ∧ f p < e
theorem Blk.same {lt : Nat → Nat → Prop} {f g : Nat → Nat} {s e : Nat} (h : Blk lt f s e) (k : ∀ p, s ≤ p → p < e → g p = f p) : Blk lt g s e :=
  ⟨h.so.same k, fun p h1 h2 => by rw [k p h1 h2]; exact h.v p h1 h2⟩
theorem Blk.merge {lt : Nat → Nat → Prop} {f : Nat → Nat} {a m b : Nat} (h1 : Blk lt f a m) (h2 : Blk lt f m b) : Pm lt f a m b :=
  ⟨h1.so, h2.so, fun p q p1 p2 q1 q2 => by have := (h1.v p p1 p2).2; have := (h2.v q q1 q2).1; omega⟩
theorem Blk.wi {lt : Nat → Nat → Prop} {f g : Nat → Nat} {a m b : Nat} (h1 : Blk lt f a m) (h2 : Blk lt f m b) (ham : a ≤ m) (hmb : m ≤ b) (w : Wi f g a b) (s : So lt g a b) : Blk lt g a b :=
  ⟨s, fun p p1 p2 => by
    obtain ⟨q, q1, q2, e⟩ := w.mem p p1 p2
    rw [e]
    by_cases c : q < m
    · have := h1.v q q1 c; omega
    · have := h2.v q (by omega) q2; omega⟩
theorem insi_end {L : List Nat} (N a b : Nat) (hN : N ≤ 1000) (hab : b ≤ a) (ha : a ≤ 1000) (f : Nat → Nat) (ys : List Int) (hr : Rp N ys f) :
    AnsF N (fun g => g = f) (cR2 32 [] [inpI] [A.c (C.ow 0 N), inj (.int .i64) (a : Int), inj (.int .i64) (b : Int), cloL L, inj inpI ((), ys)]) := by
  have hl := hr.1
  subst hl
  have e1 : IntKind.i64.wrap ((a : Int) + 1) = ((a + 1 : Nat) : Int) := by rw [wr _ (by omega)]; omega
  refine ⟨f, ys, callT2_of ((e32 ..).trans ?_), hr, rfl⟩
  rw [e1]
  refine cutG_step ((q32_1 ..).trans ?_)
  rw [ifs_neg (by simp; omega)]
  rfl
theorem mul_lt {j k c : Nat} (h : j < k) : j * c + c ≤ k * c := by
  have := Nat.mul_le_mul_right c (show j + 1 ≤ k by omega)
  rwa [Nat.succ_mul] at this
abbrev SortP (lt : Nat → Nat → Prop) (N : Nat) (g : Nat → Nat) : Prop := Blk lt g 0 N
theorem stab7_walk {L : List Nat} {lt : Nat → Nat → Prop} (hC : Cx L lt) (N : Nat) (hN : N ≤ 1000) (hNL : N ≤ L.length) : ∀ (d bs : Nat) (f : Nat → Nat) (ys : List Int), N - bs ≤ d → 0 < bs → bs ≤ 2000 → Rp N ys f → (∀ k, k * bs ≤ N → Blk lt f (k * bs) (min (k * bs + bs) N)) → AnsE N (SortP lt N) (l28_7 N (N : Int) L (bs : Int) ys)
  | d, bs, f, ys, hd, h0, hbs, hr, hB => by
    by_cases hlt : bs < N
    · obtain ⟨d', rfl⟩ : ∃ d', d = d' + 1 := ⟨d - 1, by omega⟩
      obtain ⟨t, ht⟩ : ∃ t, t = 2 * bs := ⟨_, rfl⟩
      have e3 : IntKind.i64.wrap ((2 : Int) * (bs : Int)) = ((t : Nat) : Int) := by rw [wr _ (by omega)]; omega
      have e2 : IntKind.i64.wrap ((bs : Int) * 2) = ((t : Nat) : Int) := by rw [wr _ (by omega)]; omega
      have inner : ∀ (e k : Nat) (g : Nat → Nat) (zs : List Int), N - k * t ≤ e → k * t ≤ N → Rp N zs g → (∀ j, j < k → Blk lt g (j * t) (j * t + t)) → (∀ j, 2 * k ≤ j → j * bs ≤ N → Blk lt g (j * bs) (min (j * bs + bs) N)) →
          AnsE N (SortP lt N) (l28_9 N (N : Int) L (bs : Int) ((k * t : Nat) : Int) ((k * t + t : Nat) : Int) zs) := by
        intro e
        induction e with
        | zero =>
          intro k g zs he hk hg hb1 hb2
          have ha : k * t = N := by omega
          obtain ⟨g', z, k1, k2, k3⟩ := stab7_walk hC N hN hNL d' t g zs (by omega) (by omega) (by omega) hg (fun j hj => by
            by_cases c : j < k
            · have := mul_lt (c := t) c
              rw [Nat.min_eq_left (by omega)]; exact hb1 j c
            · have hj2 : N ≤ j * t := by
                have := Nat.mul_le_mul_right t (show k ≤ j by omega)
                omega
              refine ⟨fun p q hp hpq hq => ?_, fun p hp hq => ?_⟩ <;> omega)
          refine ⟨g', z, cutG_step ((q28_9 ..).trans ?_), k2, k3⟩
          have e1 : IntKind.i64.wrap (((k * t : Nat) : Int) + (bs : Int)) = ((k * t + bs : Nat) : Int) := by rw [wr _ (by omega)]; omega
          rw [ifs_neg (by simp; omega), e1, ifs_neg (by simp; omega), e2]
          exact k1
        | succ e ihe =>
          intro k g zs he hk hg hb1 hb2
          have hk2 : 2 * k * bs = k * t := by rw [ht, Nat.mul_comm 2 k, Nat.mul_assoc]
          have hk3 : (2 * k + 1) * bs = k * t + bs := by rw [Nat.succ_mul, hk2]
          have hv : Vl L N g := fun p hp => by
            by_cases c : p < k * t
            · -- an earlier block
              have hj : p / t < k := by
                rw [Nat.div_lt_iff_lt_mul (by omega)]; exact c
              have h1 := Nat.div_mul_le_self p t
              have h2 := Nat.lt_div_mul_add (a := p) (b := t) (by omega)
              have := (hb1 _ hj).v p h1 h2
              have := mul_lt (c := t) hj
              omega
            · have hj : 2 * k ≤ p / bs := by
                rw [Nat.le_div_iff_mul_le h0, hk2]; omega
              have h1 := Nat.div_mul_le_self p bs
              have h2 := Nat.lt_div_mul_add (a := p) (b := bs) h0
              have := (hb2 _ hj (by omega)).v p h1 (by omega)
              omega
          generalize ha : k * t = a at *
          have e1 : IntKind.i64.wrap ((a : Int) + (bs : Int)) = ((a + bs : Nat) : Int) := by rw [wr _ (by omega)]; omega
          have hb20 : Blk lt g a (min (a + bs) N) := by
            have := hb2 (2 * k) (Nat.le_refl _) (by omega)
            rwa [hk2] at this
          by_cases c : a + t ≤ N
          · have hb21 : Blk lt g (a + bs) (a + t) := by
              have := hb2 (2 * k + 1) (by omega) (by omega)
              rw [hk3, Nat.min_eq_left (by omega)] at this
              rwa [show a + bs + bs = a + t by omega] at this
            rw [Nat.min_eq_left (by omega)] at hb20
            obtain ⟨g2, z, k1, k2, k3, k4⟩ := symS_ok hC N hN _ a (a + bs) (a + t) g zs (Nat.le_refl _) (by omega) (by omega) c hg hv (hb20.merge hb21)
            have hnew := hb20.wi hb21 (by omega) (by omega) k3 k4
            have hka : (k + 1) * t = a + t := by rw [Nat.succ_mul, ha]
            have hih := ihe (k + 1) g2 z (by rw [hka]; omega) (by rw [hka]; exact c) k2 (fun j hj => by
              by_cases cj : j < k
              · have h1 := mul_lt (c := t) cj
                exact (hb1 j cj).same fun p hp hq => k3.out p (.inl (by omega))
              · have : j = k := by omega
                subst this
                rw [ha]; exact hnew) (fun j hj hjN => by
              have h1 : a + t ≤ j * bs := by
                have := Nat.mul_le_mul_right bs hj
                have e : 2 * (k + 1) * bs = (k + 1) * t := by rw [ht, Nat.mul_comm 2 (k + 1), Nat.mul_assoc]
                rw [e, hka] at this; exact this
              exact (hb2 j (by omega) hjN).same fun p hp hq => k3.out p (.inr (by omega)))
            rw [hka] at hih
            obtain ⟨g3, z3, m1, m2, m3⟩ := hih
            have e4 : IntKind.i64.wrap (((a + t : Nat) : Int) + ((t : Nat) : Int)) = ((a + t + t : Nat) : Int) := by rw [wr _ (by omega)]; omega
            refine ⟨g3, z3, cutG_step ((q28_9 ..).trans ?_), m2, m3⟩
            have k1' := k1
            unfold symI at k1'
            rw [ifs_pos (by simp; omega), e1, k1', Option.bind_some, e3, e4]
            exact m1
          · have hlast : ∀ (g2 : Nat → Nat), (∀ j, j < k → Blk lt g2 (j * t) (j * t + t)) → Blk lt g2 a N → ∀ j, j * t ≤ N → Blk lt g2 (j * t) (min (j * t + t) N) := fun g2 q1 q2 j hj => by
              by_cases cj : j < k
              · have := mul_lt (c := t) cj
                rw [Nat.min_eq_left (by omega)]; exact q1 j cj
              · by_cases cj2 : j = k
                · subst cj2
                  rw [ha, Nat.min_eq_right (by omega)]; exact q2
                · exfalso
                  have := mul_lt (c := t) (show k < j by omega)
                  omega
            by_cases c2 : a + bs < N
            · have hb21 : Blk lt g (a + bs) N := by
                have := hb2 (2 * k + 1) (by omega) (by omega)
                rwa [hk3, Nat.min_eq_right (by omega)] at this
              rw [Nat.min_eq_left (by omega)] at hb20
              obtain ⟨g2, z, k1, k2, k3, k4⟩ := symS_ok hC N hN _ a (a + bs) N g zs (Nat.le_refl _) (by omega) c2 (Nat.le_refl _) hg hv (hb20.merge hb21)
              have hnew := hb20.wi hb21 (by omega) (by omega) k3 k4
              obtain ⟨g3, z3, m1, m2, m3⟩ := stab7_walk hC N hN hNL d' t g2 z (by omega) (by omega) (by omega) k2 (hlast g2 (fun j cj => by
                have h1 := mul_lt (c := t) cj
                exact (hb1 j cj).same fun p hp hq => k3.out p (.inl (by omega))) hnew)
              refine ⟨g3, z3, cutG_step ((q28_9 ..).trans ?_), m2, m3⟩
              have k1' := k1
              unfold symI at k1'
              rw [ifs_neg (by simp; omega), e1, ifs_pos (by simp; omega), k1', Option.bind_some, e2]
              exact m1
            · rw [Nat.min_eq_right (by omega)] at hb20
              obtain ⟨g3, z3, m1, m2, m3⟩ := stab7_walk hC N hN hNL d' t g zs (by omega) (by omega) (by omega) hg (hlast g hb1 hb20)
              refine ⟨g3, z3, cutG_step ((q28_9 ..).trans ?_), m2, m3⟩
              rw [ifs_neg (by simp; omega), e1, ifs_neg (by simp; omega), e2]
              exact m1
      obtain ⟨g, z, h1, h2, h3⟩ := inner _ 0 f ys (Nat.le_refl _) (by omega) hr (fun j hj => by omega) (fun j _ hj => hB j hj)
      refine ⟨g, z, cutG_step ((q28_7 ..).trans ?_), h2, h3⟩
      rw [ifs_pos (by simp; omega), e3]
      rw [Nat.zero_mul, Nat.zero_add] at h1
      exact h1
    · refine ⟨f, ys, cutG_step ((q28_7 ..).trans ?_), hr, ?_⟩
      · rw [ifs_neg (by simp; omega)]
      · have := hB 0 (by omega)
        rw [Nat.zero_mul, Nat.zero_add, Nat.min_eq_right (by omega)] at this
        exact this
termination_by d => d
theorem stab2_walk {L : List Nat} {lt : Nat → Nat → Prop} (hC : Cx L lt) (N : Nat) (hN : N ≤ 1000) (hNL : N ≤ L.length) : ∀ (d k : Nat) (f : Nat → Nat) (ys : List Int), N - k * 20 ≤ d → k * 20 ≤ N → Rp N ys f → (∀ j, j < k → Blk lt f (j * 20) (j * 20 + 20)) → (∀ p, k * 20 ≤ p → f p = p) →
    AnsE N (SortP lt N) (l28_2 N (N : Int) L 20 ((k * 20 : Nat) : Int) ((k * 20 + 20 : Nat) : Int) ys) := by
  have last : ∀ (k : Nat) (f : Nat → Nat) (ys : List Int), k * 20 ≤ N → N < k * 20 + 20 → Rp N ys f → (∀ j, j < k → Blk lt f (j * 20) (j * 20 + 20)) → (∀ p, k * 20 ≤ p → f p = p) →
      AnsE N (SortP lt N) (l28_2 N (N : Int) L 20 ((k * 20 : Nat) : Int) ((k * 20 + 20 : Nat) : Int) ys) := fun k f ys hk hk2 hr hb hid => by
    have hv : Vl L N f := fun p hp => by
      by_cases c : p < k * 20
      · have := (hb (p / 20) (by omega)).v p (by omega) (by omega)
        omega
      · rw [hid p (by omega)]; omega
    have hins : AnsF N (fun g => Wi f g (k * 20) N ∧ So lt g (k * 20) N) (cR2 32 [] [inpI] [A.c (C.ow 0 N), inj (.int .i64) ((k * 20 : Nat) : Int), inj (.int .i64) (N : Int), cloL L, inj inpI ((), ys)]) := by
      by_cases c : k * 20 < N
      · exact insi_ok hC N (k * 20) N hN c (Nat.le_refl _) f ys hr hv (fun p q hp hpq hq => by rw [hid p hp, hid q (by omega)]; exact hpq)
      · obtain ⟨g, z, k1, k2, k3⟩ := insi_end (L := L) N (k * 20) N hN (by omega) (by omega) f ys hr
        exact ⟨g, z, k1, k2, by rw [k3]; exact Wi.refl _ _ _, fun p q hp hpq hq => by omega⟩
    obtain ⟨g, z, k1, k2, k3, k4⟩ := hins
    obtain ⟨g3, z3, m1, m2, m3⟩ := stab7_walk hC N hN hNL _ 20 g z (Nat.le_refl _) (by omega) (by omega) k2 (fun j hj => by
      by_cases cj : j < k
      · rw [Nat.min_eq_left (by omega)]
        exact (hb j cj).same fun p hp hq => k3.out p (.inl (by omega))
      · have : j = k := by omega
        subst this
        rw [Nat.min_eq_right (by omega)]
        refine ⟨k4, fun p hp hq => ?_⟩
        obtain ⟨q, q1, q2, e⟩ := k3.mem p hp hq
        rw [e, hid q q1]; omega)
    refine ⟨g3, z3, cutG_step ((q28_2 ..).trans ?_), m2, m3⟩
    rw [ifs_neg (by simp; omega), k1, Option.bind_some]
    exact m1
  intro d
  induction d with
  | zero =>
    intro k f ys hd hk hr hb hid
    exact last k f ys hk (by omega) hr hb hid
  | succ d ih =>
    intro k f ys hd hk hr hb hid
    by_cases c : k * 20 + 20 ≤ N
    · have hv : Vl L N f := fun p hp => by
        by_cases c : p < k * 20
        · have := (hb (p / 20) (by omega)).v p (by omega) (by omega)
          omega
        · rw [hid p (by omega)]; omega
      obtain ⟨g, z, k1, k2, k3, k4⟩ := insi_ok hC N (k * 20) (k * 20 + 20) hN (by omega) c f ys hr hv (fun p q hp hpq hq => by rw [hid p hp, hid q (by omega)]; exact hpq)
      have hk1 : (k + 1) * 20 = k * 20 + 20 := by omega
      have hih := ih (k + 1) g z (by omega) (by omega) k2 (fun j hj => by
        by_cases cj : j < k
        · exact (hb j cj).same fun p hp hq => k3.out p (.inl (by omega))
        · have : j = k := by omega
          subst this
          refine ⟨k4, fun p hp hq => ?_⟩
          obtain ⟨q, q1, q2, e⟩ := k3.mem p hp hq
          rw [e, hid q q1]; omega) (fun p hp => by rw [k3.out p (.inr (by omega))]; exact hid p (by omega))
      rw [hk1] at hih
      obtain ⟨g3, z3, m1, m2, m3⟩ := hih
      have e4 : IntKind.i64.wrap (((k * 20 + 20 : Nat) : Int) + 20) = ((k * 20 + 20 + 20 : Nat) : Int) := by rw [wr _ (by omega)]; omega
      refine ⟨g3, z3, cutG_step ((q28_2 ..).trans ?_), m2, m3⟩
      rw [ifs_pos (by simp; omega), k1, Option.bind_some, e4]
      exact m1
    · exact last k f ys hk (by omega) hr hb hid
theorem sorti_ok {L : List Nat} {lt : Nat → Nat → Prop} (hC : Cx L lt) (ys : List Int) (hN : ys.length ≤ 1000) (hNL : ys.length ≤ L.length) (hr : Rp ys.length ys (fun p => p)) :
    AnsF ys.length (SortP lt ys.length) (cR2 20 [] [inpI] [A.c (C.ow 0 ys.length), cloL L, inj inpI ((), ys)]) := by
  have h := stab2_walk hC ys.length hN hNL _ 0 (fun p => p) ys (Nat.le_refl _) (by omega) hr (fun j hj => by omega) (fun p _ => rfl)
  rw [Nat.zero_mul, Nat.zero_add] at h
  obtain ⟨g, z, h1, h2, h3⟩ := h
  refine ⟨g, z, callT2_of ((e20 ..).trans ?_), h2, h3⟩
  have h4 : cR2 28 [] [inpI] [A.c (C.ow 0 ys.length), inj (.int .i64) ((ys.length : Nat) : Int), cloL L, inj inpI ((), ys)] = some ((), ((), z)) := callT2_of ((e28 ..).trans h1)
  rw [h4, Option.bind_some]
  rfl

end Go.Proofs.Ytefhcmkiachphaa.Sp
end
section
/- The order of floating-point numbers as_ that of whole numbers; what is better is an order of places. No condition. -/
set_option linter.unusedVariables false
set_option linter.unusedSimpArgs false
namespace Go.Proofs.Ytefhcmkiachphaa.Sp
open Go Go.Proofs.Ytefhcmkiachphaa.Ab

theorem cmp_int (a b : Int) : compare a b = if a < b then Ordering.lt else if a = b then .eq else .gt := rfl
theorem cmp_scale (a b c : Int) (h : 0 < c) : compare (a * c) (b * c) = compare a b := by
  rw [cmp_int, cmp_int]
  have h1 : a * c < b * c ↔ a < b := Int.mul_lt_mul_right h
  have h2 : a * c = b * c ↔ a = b := ⟨fun e => Int.eq_of_mul_eq_mul_right (by omega) e, fun e => by rw [e]⟩
  simp only [h1, h2]
abbrev rd (x : Nat) : Ieee.Datum := FloatKind.f64.format.read x
theorem rd_num {x : Nat} {s : Bool} {m : Nat} {i : Int} (h : rd x = .number s m i) : m < 9007199254740992 ∧ -1074 ≤ i ∧ i ≤ 971 := by
  have h1 : Ieee.Format.signWeight FloatKind.f64.format = 9223372036854775808 := by decide
  have h2 : Ieee.Format.binade FloatKind.f64.format = 4503599627370496 := by decide
  have h3 : Ieee.Format.infRung FloatKind.f64.format = 9218868437227405312 := by decide
  have h4 : Ieee.Format.leastPlace FloatKind.f64.format = -1074 := by decide
  unfold rd Ieee.Format.read at h
  simp only [h1, h2, h3, h4] at h
  split at h
  · cases h; omega
  · split at h
    · cases h; omega
    · split at h <;> cases h
def BIG : Int := 2 ^ 3000
set_option exponentiation.threshold 4000 in
theorem big_lt {m k : Nat} (hm : m < 9007199254740992) (hk : k ≤ 2045) : ((m <<< k : Nat) : Int) < BIG := by
  have h1 : m <<< k = m * 2 ^ k := Nat.shiftLeft_eq m k
  have h2 : (2 : Nat) ^ k ≤ 2 ^ 2045 := Nat.pow_le_pow_right (by decide) hk
  have h3 : m * 2 ^ k ≤ 9007199254740992 * 2 ^ 2045 := Nat.mul_le_mul (Nat.le_of_lt hm) h2
  have h4 : (9007199254740992 * 2 ^ 2045 : Nat) < 2 ^ 3000 := by decide +kernel
  have h5 : m <<< k < 2 ^ 3000 := by rw [h1]; exact Nat.lt_of_le_of_lt h3 h4
  have h6 : BIG = ((2 ^ 3000 : Nat) : Int) := by
    unfold BIG
    rw [Int.natCast_pow]; rfl
  rw [h6]
  exact Int.ofNat_lt.2 h5
def fkey (x : Nat) : Option Int :=
  match rd x with
  | .nan .. => none
  | .infinity s => some (if s then -BIG else BIG)
  | .number s m i => some (Ieee.signed s m (i + 1074).toNat)
theorem signed_mul (s : Bool) (m k l : Nat) : Ieee.signed s m k * ((2 ^ l : Nat) : Int) = Ieee.signed s m (k + l) := by
  unfold Ieee.signed
  have h : ((m <<< k : Nat) : Int) * ((2 ^ l : Nat) : Int) = ((m <<< (k + l) : Nat) : Int) := by
    rw [← Int.natCast_mul, Nat.shiftLeft_eq, Nat.shiftLeft_eq, Nat.pow_add, Nat.mul_assoc]
  cases s with
  | true => simp only [if_true]; rw [Int.neg_mul, h]
  | false => simp only [Bool.false_eq_true, if_false]; exact h
theorem key_lt {x : Nat} {s : Bool} {m : Nat} {i : Int} (h : rd x = .number s m i) : -BIG < Ieee.signed s m (i + 1074).toNat ∧ Ieee.signed s m (i + 1074).toNat < BIG := by
  obtain ⟨h1, h2, h3⟩ := rd_num h
  have hb := big_lt h1 (k := (i + 1074).toNat) (by omega)
  have h0 : (0 : Int) ≤ ((m <<< (i + 1074).toNat : Nat) : Int) := Int.natCast_nonneg _
  unfold Ieee.signed
  cases s <;> simp only [if_true, Bool.false_eq_true, if_false] <;> omega
theorem big_pos : 0 < BIG := by unfold BIG; exact Int.pow_pos (by decide)
/-- The order of floating-point numbers is that of whole numbers. -/
theorem fo_key (x y : Nat) : fo x y = match fkey x, fkey y with
    | some a, some b => some (compare a b)
    | _, _ => none := by
  have hp := big_pos
  show Ieee.Datum.order (rd x) (rd y) = _
  unfold fkey
  cases hx : rd x with
  | nan s f => rfl
  | infinity s =>
    cases hy : rd y with
    | nan t f => rfl
    | infinity t =>
      simp only [Ieee.Datum.order]
      cases s <;> cases t <;> simp only [if_true, Bool.false_eq_true, if_false, cmp_int]
      · rw [if_neg (by omega)]; rfl
      · rw [if_neg (by omega), if_neg (by omega)]; rfl
      · rw [if_pos (by omega)]; rfl
      · rw [if_neg (by omega)]; rfl
    | number t n j =>
      obtain ⟨k1, k2⟩ := key_lt hy
      simp only [Ieee.Datum.order]
      cases s <;> simp only [if_true, Bool.false_eq_true, if_false, cmp_int]
      · rw [if_neg (by omega), if_neg (by omega)]
      · rw [if_pos (by omega)]
  | number s m i =>
    obtain ⟨k1, k2⟩ := key_lt hx
    cases hy : rd y with
    | nan t f => rfl
    | infinity t =>
      simp only [Ieee.Datum.order]
      cases t <;> simp only [if_true, Bool.false_eq_true, if_false, cmp_int]
      · rw [if_pos (by omega)]
      · rw [if_neg (by omega), if_neg (by omega)]
    | number t n j =>
      obtain ⟨_, i2, _⟩ := rd_num hx
      obtain ⟨_, j2, _⟩ := rd_num hy
      simp only [Ieee.Datum.order]
      congr 1
      have hb : -1074 ≤ min i j := by omega
      rw [← cmp_scale _ _ (((2 ^ (min i j + 1074).toNat : Nat) : Int)) (by exact Int.ofNat_lt.2 (Nat.pow_pos (by decide))), signed_mul, signed_mul]
      have e1 : (i - min i j).toNat + (min i j + 1074).toNat = (i + 1074).toNat := by omega
      have e2 : (j - min i j).toNat + (min i j + 1074).toNat = (j + 1074).toNat := by omega
      rw [e1, e2]

theorem bet_key (x y : Nat) : bet x y = match fkey x with
    | none => false
    | some a => match fkey y with
      | none => true
      | some b => decide (b < a) := by
  unfold bet
  rw [fo_key x x, fo_key y y, fo_key x y]
  cases hx : fkey x with
  | none => rfl
  | some a =>
    simp only [cmp_int]
    rw [if_neg (by omega)]
    cases hy : fkey y with
    | none => simp
    | some b =>
      simp only
      by_cases h1 : a < b
      · rw [if_pos h1, decide_eq_false (by omega)]
        simp
      · rw [if_neg h1]
        by_cases h2 : a = b
        · rw [if_pos h2, decide_eq_false (by omega)]
          simp
        · rw [if_neg h2, decide_eq_true (by omega)]
          simp
theorem bet_asym {x y : Nat} (h : bet x y = true) : bet y x = false := by
  rw [bet_key] at h ⊢
  cases hx : fkey x with
  | none => rw [hx] at h; cases h
  | some a =>
    rw [hx] at h
    cases hy : fkey y with
    | none => rfl
    | some b =>
      rw [hy] at h
      simp only [decide_eq_true_eq] at h
      simp only [decide_eq_false_iff_not]
      omega
theorem bet_nt {x y z : Nat} (h : bet x z = true) : bet x y = true ∨ bet y z = true := by
  rw [bet_key] at h
  rw [bet_key x y, bet_key y z]
  cases hx : fkey x with
  | none => rw [hx] at h; cases h
  | some a =>
    rw [hx] at h
    cases hy : fkey y with
    | none => exact .inl rfl
    | some b =>
      cases hz : fkey z with
      | none => exact .inr rfl
      | some c =>
        rw [hz] at h
        simp only [decide_eq_true_eq] at h ⊢
        omega
/-- The order of places: what is better is ahead, of what is as_ good the earlier place. -/
def ltL (L : List Nat) (x y : Nat) : Prop := btL L x y = true ∨ (btL L y x = false ∧ x < y)
theorem bt_nt {L : List Nat} {x y z : Nat} (h : btL L x z = true) : btL L x y = true ∨ btL L y z = true := bet_nt h
theorem bt_asym {L : List Nat} {x y : Nat} (h : btL L x y = true) : btL L y x = false := bet_asym h
theorem ltL_tot (L : List Nat) : Tot (ltL L) where
  irr x h := by
    rcases h with h | ⟨_, h⟩
    · have := bt_asym h; rw [h] at this; cases this
    · omega
  tr x y z h k := by
    unfold ltL at *
    rcases h with h | ⟨h, hxy⟩ <;> rcases k with k | ⟨k, hyz⟩
    · rcases bt_nt (y := z) h with e | e
      · exact .inl e
      · have := bt_asym k; rw [this] at e; cases e
    · rcases bt_nt (y := z) h with e | e
      · exact .inl e
      · rw [k] at e; cases e
    · rcases bt_nt (y := x) k with e | e
      · rw [h] at e; cases e
      · exact .inl e
    · refine .inr ⟨?_, by omega⟩
      cases e : btL L z x with
      | false => rfl
      | true =>
        rcases bt_nt (y := y) e with e' | e'
        · rw [k] at e'; cases e'
        · rw [h] at e'; cases e'
  tot x y hne h := by
    unfold ltL at *
    cases e : btL L y x with
    | true => exact .inl rfl
    | false =>
      refine .inr ⟨?_, ?_⟩
      · cases e' : btL L x y with
        | false => rfl
        | true => exact absurd (.inl e') h
      · by_cases c : x < y
        · exact absurd (.inr ⟨e, c⟩) h
        · omega
theorem cx_ok (L : List Nat) : Cx L (ltL L) := ⟨ltL_tot L, fun x y hxy _ => ⟨fun h => .inl h, fun h => h.elim id fun h => by have := h.2; omega⟩⟩

end Go.Proofs.Ytefhcmkiachphaa.Sp
end
section
/- Sums of floating-point numbers; which are infinite. No condition. -/
set_option linter.unusedVariables false
set_option linter.unusedSimpArgs false
namespace Go.Proofs.Ytefhcmkiachphaa.Sp
open Go Go.Proofs.Ytefhcmkiachphaa.Ab Go.Proofs.Ytefhcmkiachphaa.Tb

abbrev fsub (x y : Nat) : Option Nat := Ieee.Format.sub (FloatKind.format FloatKind.f64) x y
abbrev fadd (x y : Nat) : Option Nat := Ieee.Format.add (FloatKind.format FloatKind.f64) x y
def NotNaN (x : Nat) : Prop := ∀ s f, rd x ≠ .nan s f
theorem fo_self (x : Nat) : (fo x x == some .eq) = true ↔ NotNaN x := by
  rw [fo_key]
  unfold fkey NotNaN
  cases rd x with
  | nan s f => simp
  | infinity s => simp [cmp_int]
  | number s m i => simp [cmp_int]
theorem sub_num {x : Nat} {s : Bool} {m : Nat} {i : Int} (h : rd x = .number s m i) : fsub x x = some 0 := by
  have e : fsub x x = ((rd x).sum (rd x).opposite).map (FloatKind.f64.format.write) := rfl
  rw [e, h]
  have hz : Ieee.signed s m 0 + Ieee.signed (!s) m 0 = 0 := by
    unfold Ieee.signed
    cases s <;> simp <;> omega
  simp only [Ieee.Datum.opposite, Ieee.Datum.sum, Int.min_self, Int.sub_self, Int.toNat_zero, hz, if_true, Option.map_some]
  unfold Ieee.Format.write Ieee.Format.nearest
  simp
  cases s <;> rfl
theorem sub_inf {x : Nat} {s : Bool} (h : rd x = .infinity s) : fsub x x = none := by
  have e : fsub x x = ((rd x).sum (rd x).opposite).map (FloatKind.f64.format.write) := rfl
  rw [e, h]
  cases s <;> rfl
theorem word_not (neg : Bool) (r : Nat) (h : r ≤ 9218868437227405312) : NotNaN (Ieee.Format.word FloatKind.f64.format neg r) := by
  have h1 : Ieee.Format.signWeight FloatKind.f64.format = 9223372036854775808 := by decide
  have h2 : Ieee.Format.binade FloatKind.f64.format = 4503599627370496 := by decide
  have h3 : Ieee.Format.infRung FloatKind.f64.format = 9218868437227405312 := by decide
  intro s f
  unfold rd Ieee.Format.read Ieee.Format.word
  have hr : (if neg = true then Ieee.Format.signWeight FloatKind.f64.format + r else r) % 9223372036854775808 = r := by
    rw [h1]; split <;> omega
  simp only [h1, h2, h3] at hr ⊢
  rw [hr]
  split
  · simp
  · split
    · simp
    · rw [if_pos (by omega)]; simp
theorem write_not {d : Ieee.Datum} (h : ∀ s f, d ≠ .nan s f) : NotNaN (FloatKind.f64.format.write d) := by
  have h3 : Ieee.Format.infRung FloatKind.f64.format = 9218868437227405312 := by decide
  cases d with
  | nan s f => exact absurd rfl (h s f)
  | infinity s => exact word_not s _ (by rw [h3]; omega)
  | number s m i =>
    unfold Ieee.Format.write Ieee.Format.nearest
    simp only
    split
    · exact word_not s 0 (by omega)
    · exact word_not s _ (by rw [h3]; omega)
theorem add_num {x y : Nat} {s : Bool} {m : Nat} {i : Int} (hx : NotNaN x) (h : rd y = .number s m i) : ∃ r, fadd x y = some r ∧ NotNaN r := by
  have e : fadd x y = ((rd x).sum (rd y)).map (FloatKind.f64.format.write) := rfl
  rw [e, h]
  cases hd : rd x with
  | nan t f => exact absurd hd (hx t f)
  | infinity t => exact ⟨_, rfl, write_not (fun s f h => by cases h)⟩
  | number t n j => exact ⟨_, rfl, write_not (fun s f h => by cases h)⟩
theorem abs_bits (a : Nat) : Int.toNat (IntKind.wrap IntKind.u64 (((BitVec.ofInt (IntKind.bits IntKind.u64) (a : Int) &&& ~~~BitVec.ofInt (IntKind.bits IntKind.u64) (9223372036854775808 : Int)).toNat : Nat) : Int)) = a % 9223372036854775808 := by
  have h1 : (~~~BitVec.ofInt (IntKind.bits IntKind.u64) (9223372036854775808 : Int)).toNat = 2 ^ 63 - 1 := by decide
  have h2 : (BitVec.ofInt (IntKind.bits IntKind.u64) (a : Int)).toNat = a % 2 ^ 64 := by
    rw [BitVec.ofInt_natCast, BitVec.toNat_ofNat]; rfl
  rw [BitVec.toNat_and, h1, h2, Nat.and_two_pow_sub_one_eq_mod]
  rw [IntWalk.u64_in _ (by omega)]
  omega
theorem fabs_ok (a : Nat) : cR 29 [RT.d (.flt .f64)] [inj (.flt .f64) a] = some (a % 9223372036854775808) := by
  refine callT_of ((e29 a).trans ?_)
  rw [abs_bits]
theorem rd_abs (a : Nat) : rd (a % 9223372036854775808) = match rd a with
    | .number _ m i => .number false m i
    | .infinity _ => .infinity false
    | .nan _ f => .nan false f := by
  have h1 : Ieee.Format.signWeight FloatKind.f64.format = 9223372036854775808 := by decide
  unfold rd Ieee.Format.read
  simp only [h1]
  have e1 : a % 9223372036854775808 / 9223372036854775808 % 2 = 0 := by omega
  have e2 : a % 9223372036854775808 % 9223372036854775808 = a % 9223372036854775808 := by omega
  rw [e1, e2]
  have e3 : ((0 : Nat) == 1) = false := rfl
  rw [e3]
  split
  · rfl
  · split
    · rfl
    · split <;> rfl
theorem max_key : rd 9218868437227405311 = .number false 9007199254740991 971 := by decide +kernel
theorem isInf_num {x : Nat} {s : Bool} {m : Nat} {i : Int} (h : rd x = .number s m i) : cR 22 [RT.d .bool] [inj (.flt .f64) x, inj (.int .i64) 0] = some false := by
  refine callT_of ((e22 x 0).trans ?_)
  rw [ifs_pos (by simp), fabs_ok, Option.bind_some]
  have hk : (fo (x % 9223372036854775808) 9218868437227405311 == some .gt) = false := by
    rw [fo_key]
    unfold fkey
    rw [rd_abs, h, max_key]
    obtain ⟨h1, h2, h3⟩ := rd_num h
    simp only [Ieee.signed, Bool.false_eq_true, if_false, cmp_int]
    have hle : m <<< (i + 1074).toNat ≤ 9007199254740991 <<< (971 + 1074 : Int).toNat := by
      rw [Nat.shiftLeft_eq, Nat.shiftLeft_eq]
      exact Nat.mul_le_mul (by omega) (Nat.pow_le_pow_right (by decide) (by omega))
    generalize m <<< (i + 1074).toNat = u at *
    generalize (9007199254740991 : Nat) <<< (971 + 1074 : Int).toNat = v at *
    by_cases c : (u : Int) < v
    · rw [if_pos c]; rfl
    · rw [if_neg c, if_pos (by omega)]; rfl
  show some (injRs [RT.d .bool] (fo (x % 9223372036854775808) 9218868437227405311 == some .gt)) = _
  rw [hk]
theorem isInf_inf {x : Nat} {s : Bool} (h : rd x = .infinity s) : cR 22 [RT.d .bool] [inj (.flt .f64) x, inj (.int .i64) 0] = some true := by
  refine callT_of ((e22 x 0).trans ?_)
  rw [ifs_pos (by simp), fabs_ok, Option.bind_some]
  have hk : (fo (x % 9223372036854775808) 9218868437227405311 == some .gt) = true := by
    rw [fo_key]
    unfold fkey
    have hm := key_lt max_key
    rw [rd_abs, h, max_key]
    simp only [Bool.false_eq_true, if_false, cmp_int]
    rw [if_neg (by omega), if_neg (by omega)]; rfl
  show some (injRs [RT.d .bool] (fo (x % 9223372036854775808) 9218868437227405311 == some .gt)) = _
  rw [hk]

/-! ### The sum -/
/-- One number more, if it is one and not infinite. -/
def addTo (sum x : Nat) : Nat := match rd x with
  | .number .. => (fadd sum x).getD 0
  | _ => sum
theorem addTo_not {sum : Nat} (h : NotNaN sum) (x : Nat) : NotNaN (addTo sum x) := by
  unfold addTo
  cases hx : rd x with
  | number s m i =>
    obtain ⟨r, h1, h2⟩ := add_num h hx
    rw [h1]; exact h2
  | _ => exact h
def sumF (L : List Nat) : Nat := L.foldl addTo 0
theorem zero_not : NotNaN 0 := (fo_self 0).1 (by decide +kernel)
theorem total_loop (L : List Nat) (hL : L.length ≤ 1000) : ∀ (d i : Nat) (s : Nat), L.length - i = d → i ≤ L.length → NotNaN s → l14_3 s L (L.length : Int) (i : Int) = some (injRs [RT.d (.flt .f64)] ((L.drop i).foldl addTo s))
  | 0, i, s, hd, hi, hs => by
    refine cutG_step ((q14_3 ..).trans ?_)
    rw [ifs_neg (by simp; omega), List.drop_of_length_le (by omega)]; rfl
  | d + 1, i, s, hd, hi, hs => by
    have hlt : i < L.length := by omega
    have e3 : IntKind.i64.wrap ((i : Int) + 1) = ((i + 1 : Nat) : Int) := by rw [wr _ (by omega)]; omega
    refine cutG_step ((q14_3 ..).trans ?_)
    have ih := total_loop L hL d (i + 1) (addTo s L[i]) (by omega) (by omega) (addTo_not hs _)
    rw [ifs_pos (by simp; omega), ifs_pos (by omega), Int.toNat_natCast, at_ok hlt, e3, List.drop_eq_getElem_cons hlt, List.foldl_cons]
    unfold addTo at ih ⊢
    cases hx : rd L[i] with
    | nan t f =>
      rw [hx] at ih
      rw [ifs_neg (fun h => (fo_self L[i]).1 h t f hx)]
      exact ih
    | infinity t =>
      rw [hx] at ih
      rw [ifs_pos ((fo_self L[i]).2 (fun a b h => by rw [hx] at h; cases h)), isInf_inf hx, Option.bind_some, ifs_neg (by simp)]
      exact ih
    | number t m j =>
      rw [hx] at ih
      obtain ⟨r, h1, h2⟩ := add_num hs hx
      have h1' : Ieee.Format.add (FloatKind.format FloatKind.f64) s L[i] = some r := h1
      rw [h1] at ih
      rw [ifs_pos ((fo_self L[i]).2 (fun a b h => by rw [hx] at h; cases h)), isInf_num hx, Option.bind_some, ifs_pos (by simp), h1', ifs_neg (by simp), Option.bind_some]
      simp only [h1]
      exact ih
theorem total_ok (L : List Nat) (hL : L.length ≤ 1000) : cR 14 [RT.d (.flt .f64)] [inj (.sl (.flt .f64)) L] = some (sumF L) := by
  refine callT_of ((e14 L).trans ?_)
  have := total_loop L hL _ 0 0 rfl (Nat.zero_le _) zero_not
  rwa [List.drop_zero] at this

end Go.Proofs.Ytefhcmkiachphaa.Sp
end
section
/- ScoreRanks answers true. Conditions: what the parameters' kinds tell. -/
set_option linter.unusedVariables false
set_option linter.unusedSimpArgs false
namespace Go.Proofs.Ytefhcmkiachphaa.Sp
open Go Go.Proofs.Ytefhcmkiachphaa.Ab Go.Proofs.Ytefhcmkiachphaa.Tb

/-! ### Ranks -/
theorem rank_ok (L : List Nat) (hL : L.length ≤ 1000) : ∃ (g : Nat → Nat) (zs : List Int), cR 11 [RT.own 3 (.int .i64)] [inj (.sl (.flt .f64)) L] = some zs ∧ Rp L.length zs g ∧ SortP (ltL L) L.length g := by
  have key : ∀ (d i : Nat) (ys : List Int), L.length - i = d → i ≤ L.length → ys.length = L.length → (∀ p, p < i → ys[p]? = some ((p : Nat) : Int)) →
      ∃ (g : Nat → Nat) (zs : List Int), l11_3 L.length (L.length : Int) (i : Int) L ys = some (injRs [RT.own 3 (.int .i64)] zs) ∧ Rp L.length zs g ∧ SortP (ltL L) L.length g := by
    intro d
    induction d with
    | zero =>
      intro i ys hd hi hl hp
      have hr : Rp ys.length ys (fun p => p) := ⟨rfl, fun p h => hp p (by omega)⟩
      obtain ⟨g, zs, h1, h2, h3⟩ := sorti_ok (cx_ok L) ys (by omega) (by omega) hr
      rw [hl] at h1 h2 h3
      refine ⟨g, zs, cutG_step ((q11_3 ..).trans ?_), h2, h3⟩
      rw [ifs_neg (by simp; omega), h1, Option.bind_some]
      show some (injRs [RT.own 3 (.int .i64)] (zs.take L.length)) = _
      rw [List.take_of_length_le (by have := h2.1; omega)]
    | succ d ih =>
      intro i ys hd hi hl hp
      have hlt : i < L.length := by omega
      have e3 : IntKind.i64.wrap ((i : Int) + 1) = ((i + 1 : Nat) : Int) := by rw [wr _ (by omega)]; omega
      obtain ⟨g, zs, h1, h2, h3⟩ := ih (i + 1) (ys.set i ((i : Nat) : Int)) (by omega) (by omega) (by rw [List.length_set]; exact hl) (fun p hpi => by
        by_cases c : p = i
        · rw [c, List.getElem?_set_self (by omega)]
        · rw [List.getElem?_set_ne (fun e => c e.symm)]; exact hp p (by omega))
      refine ⟨g, zs, cutG_step ((q11_3 ..).trans ?_), h2, h3⟩
      rw [ifs_pos (by simp; omega), ifs_pos (by omega), Int.toNat_natCast, at_ok (by omega), e3]
      exact h1
  obtain ⟨g, zs, h1, h2, h3⟩ := key _ 0 (List.replicate L.length 0) rfl (Nat.zero_le _) List.length_replicate (fun p hp => by omega)
  refine ⟨g, zs, callT_of ((e11 L).trans ?_), h2, h3⟩
  rw [ifs_pos (sz8s _ (by omega)), Int.toNat_natCast, List.length_replicate]
  exact h1

/-! ### Between 0 and 1 -/
theorem key0 : fkey 0 = some 0 := by decide +kernel
theorem key1 : ∃ k, fkey f1 = some k ∧ 0 < k := ⟨Ieee.signed false 4503599627370496 1022, by decide +kernel, by decide +kernel⟩
theorem clamp_ok (x : Nat) : cR 12 [RT.d (.flt .f64)] [inj (.flt .f64) x] = some (if (fo x 0 == some .gt) = true then (if (fo x f1 == some .gt) = true then f1 else x) else 0) := by
  refine callT_of ((e12 x).trans ?_)
  cases h1 : (fo x 0 == some Ordering.gt) with
  | false => rw [ifs_pos (by rfl)]; rfl
  | true =>
    rw [ifs_neg (by simp), if_pos rfl]
    cases h2 : (fo x f1 == some Ordering.gt) with
    | false => rw [ifs_neg (by simp), if_neg (by simp)]
    | true => rw [ifs_pos rfl, if_pos rfl]

end Go.Proofs.Ytefhcmkiachphaa.Sp
end
section
/- ScoreRanks answers true. Conditions: what the parameters' kinds tell. -/
set_option linter.unusedVariables false
set_option linter.unusedSimpArgs false
set_option linter.unusedSectionVars false
namespace Go.Proofs.Ytefhcmkiachphaa.Sp
open Go Go.Proofs.Ytefhcmkiachphaa.Ab Go.Proofs.Ytefhcmkiachphaa.Tb

abbrev TR : Option (List RV) := some (injRs [RT.d .bool] true)
abbrev gL (L : List Nat) (p : Nat) : Nat := L.getD p 0
theorem get_at (L : List Nat) {p : Nat} (h : p < L.length) {β : Type} (F : Nat → Option β) : Option.bind L[p]? F = F (gL L p) := by
  rw [List.getElem?_eq_getElem h]
  show F L[p] = _
  rw [show L[p] = gL L p by unfold gL; rw [List.getD_eq_getElem?_getD, List.getElem?_eq_getElem h]; rfl]
/-- Which places are not seen yet. -/
def Sn (n i : Nat) (g : Nat → Nat) (seen : List Bool) : Prop := seen.length = n ∧ ∀ v, v < n → (∀ j, j < i → g j ≠ v) → seen[v]? = some false
theorem Sn.next {n i : Nat} {g : Nat → Nat} {seen : List Bool} (h : Sn n i g seen) : Sn n (i + 1) g (seen.set (g i) true) :=
  ⟨by rw [List.length_set]; exact h.1, fun v hv hj => by
    rw [List.getElem?_set_ne (hj i (by omega))]
    exact h.2 v hv fun j hji => hj j (by omega)⟩
section
variable {L : List Nat} (hL : L.length ≤ 60) {g : Nat → Nat} {rs : List Int} (hr : Rp L.length rs g) (hg : SortP (ltL L) L.length g)
include hL hr hg
theorem gv {p : Nat} (h : p < L.length) : g p < L.length := (hg.v p (Nat.zero_le _) h).2
theorem ginj {p q : Nat} (hpq : p < q) (hq : q < L.length) : g p ≠ g q := fun e => by
  have := hg.so p q (Nat.zero_le _) hpq hq
  rw [e] at this
  exact (ltL_tot L).irr _ this
theorem r8 {i sum : Nat} {seen : List Bool} (hi : i < L.length) (h : l4_7 L L.length sum L.length ((i + 1 : Nat) : Int) rs seen = TR) : l4_8 L L.length sum L.length (i : Int) rs seen = TR := by
  have e3 : IntKind.i64.wrap ((i : Int) + 1) = ((i + 1 : Nat) : Int) := by rw [wr _ (by omega)]; omega
  refine cutG_step ((q4_8 ..).trans ?_)
  rw [e3]; exact h
theorem r22 {i sum : Nat} {seen : List Bool} (h0 : 0 < i) (hi : i < L.length) (h : l4_7 L L.length sum L.length ((i + 1 : Nat) : Int) rs seen = TR) :
    l4_22 L L.length sum L.length (i : Int) (gL L (g (i - 1))) (gL L (g i)) (bet (gL L (g i)) (gL L (g (i - 1)))) (bet (gL L (g (i - 1))) (gL L (g i))) rs seen = TR := by
  have h8 := r8 hL hr hg hi h
  have hord := hg.so (i - 1) i (Nat.zero_le _) (by omega) hi
  have hup : bet (gL L (g i)) (gL L (g (i - 1))) = false := by
    rcases hord with e | ⟨e, _⟩
    · exact bet_asym e
    · exact e
  refine cutG_step ((q4_22 ..).trans ?_)
  rw [better_ok, Option.bind_some, hup, ifs_pos (by rfl), ifs_pos rfl]
  cases hd : bet (gL L (g (i - 1))) (gL L (g i)) with
  | true => rw [ifs_neg (by simp)]; exact h8
  | false =>
    have hlt : g (i - 1) < g i := by
      rcases hord with e | ⟨_, e⟩
      · have e : bet (gL L (g (i - 1))) (gL L (g i)) = true := e
        rw [hd] at e; cases e
      · exact e
    have e1 : IntKind.i64.wrap ((i : Int) - 1) = ((i - 1 : Nat) : Int) := by rw [wr _ (by omega)]; omega
    rw [ifs_pos (by rfl), e1, ifs_pos (by omega), Int.toNat_natCast, hr.get (by omega), ifs_pos (by omega), Int.toNat_natCast, hr.get hi, ifs_neg (by simp; omega)]
    exact h8
theorem r21 {i sum : Nat} {seen : List Bool} (h0 : 0 < i) (hi : i < L.length) (h : l4_7 L L.length sum L.length ((i + 1 : Nat) : Int) rs seen = TR) :
    l4_21 L L.length sum L.length (i : Int) (gL L (g (i - 1))) (gL L (g i)) (bet (gL L (g i)) (gL L (g (i - 1)))) rs seen = TR := by
  have h22 := r22 hL hr hg h0 hi h
  refine cutG_step ((q4_21 ..).trans ?_)
  generalize gL L (g (i - 1)) = p at *
  generalize gL L (g i) = q at *
  cases h1 : (fo p p == some Ordering.eq) with
  | false =>
    rw [ifs_neg (by simp)]
    have e : bet p q = false := by unfold bet; rw [h1]; rfl
    rw [e] at h22; exact h22
  | true =>
    rw [ifs_pos rfl]
    cases h2 : (fo q q != some Ordering.eq) with
    | false =>
      rw [ifs_pos rfl]
      have e : bet p q = (fo p q == some Ordering.gt) := by unfold bet; rw [h1, h2]; rfl
      rw [e] at h22; exact h22
    | true =>
      rw [ifs_neg (by simp)]
      have e : bet p q = true := by unfold bet; rw [h1, h2]; rfl
      rw [e] at h22; exact h22
theorem r19 {i sum : Nat} {seen : List Bool} (h0 : 0 < i) (hi : i < L.length) (h : l4_7 L L.length sum L.length ((i + 1 : Nat) : Int) rs seen = TR) :
    l4_19 L L.length sum L.length (i : Int) rs seen = TR := by
  have h21 := r21 hL hr hg h0 hi h
  have e1 : IntKind.i64.wrap ((i : Int) - 1) = ((i - 1 : Nat) : Int) := by rw [wr _ (by omega)]; omega
  have v1 := gv hL hr hg (p := i - 1) (by omega)
  have v2 := gv hL hr hg (p := i) hi
  refine cutG_step ((q4_19 ..).trans ?_)
  rw [e1, ifs_pos (by omega), Int.toNat_natCast, hr.get (by omega), ifs_pos (by omega), Int.toNat_natCast, get_at L v1, ifs_pos (by omega), Int.toNat_natCast, hr.get hi, ifs_pos (by omega), Int.toNat_natCast, get_at L v2]
  generalize gL L (g (i - 1)) = p at *
  generalize gL L (g i) = q at *
  cases h1 : (fo q q == some Ordering.eq) with
  | false =>
    rw [ifs_neg (by simp)]
    have e : bet q p = false := by unfold bet; rw [h1]; rfl
    rw [e] at h21; exact h21
  | true =>
    rw [ifs_pos rfl]
    cases h2 : (fo p p != some Ordering.eq) with
    | false =>
      rw [ifs_pos rfl]
      have e : bet q p = (fo q p == some Ordering.gt) := by unfold bet; rw [h1, h2]; rfl
      rw [e] at h21; exact h21
    | true =>
      rw [ifs_neg (by simp)]
      have e : bet q p = true := by unfold bet; rw [h1, h2]; rfl
      rw [e] at h21; exact h21
theorem r15 {i sum : Nat} {seen : List Bool} (hi : i < L.length) (hs : Sn L.length i g seen) (h : ∀ seen', Sn L.length (i + 1) g seen' → l4_7 L L.length sum L.length ((i + 1 : Nat) : Int) rs seen' = TR) :
    l4_15 L L.length sum L.length (i : Int) rs seen = TR := by
  have v2 := gv hL hr hg (p := i) hi
  have hnew := hs.2 (g i) v2 (fun j hj => ginj hL hr hg hj hi)
  have h7 := h _ hs.next
  have h17 : l4_17 L L.length sum L.length (i : Int) rs seen = TR := by
    refine cutG_step ((q4_17 ..).trans ?_)
    rw [ifs_pos (by omega), Int.toNat_natCast, hr.get hi, ifs_pos (by omega), Int.toNat_natCast, hnew, Option.bind_some]
    by_cases h0 : i = 0
    · rw [ifs_pos (by simp [h0])]; exact r8 hL hr hg hi h7
    · rw [ifs_neg (by simp; omega)]; exact r19 hL hr hg (by omega) hi h7
  refine cutG_step ((q4_15 ..).trans ?_)
  rw [ifs_pos (by simp), ifs_pos (by omega), Int.toNat_natCast, hr.get hi, ifs_pos (by simp), ifs_pos (by omega), hr.get hi, ifs_pos (by simp; omega), ifs_pos (by omega), hr.get hi, ifs_pos (by omega), Int.toNat_natCast, hnew, Option.bind_some, ifs_neg (by simp)]
  exact h17
theorem r13 {i sum : Nat} {seen : List Bool} (hi : i < L.length) (hs : Sn L.length i g seen) (hn : NotNaN sum) (h : ∀ seen', Sn L.length (i + 1) g seen' → l4_7 L L.length (addTo sum (gL L i)) L.length ((i + 1 : Nat) : Int) rs seen' = TR) :
    l4_13 L L.length sum L.length (i : Int) (gL L i) rs seen = TR := by
  refine cutG_step ((q4_13 ..).trans ?_)
  unfold addTo at h
  cases hx : rd (gL L i) with
  | nan t f =>
    rw [hx] at h
    rw [ifs_neg (fun e => (fo_self (gL L i)).1 e t f hx)]
    exact r15 hL hr hg hi hs h
  | infinity t =>
    rw [hx] at h
    have e1 : Ieee.Format.sub (FloatKind.format FloatKind.f64) (gL L i) (gL L i) = none := sub_inf hx
    rw [ifs_pos ((fo_self (gL L i)).2 (fun a b e => by rw [hx] at e; cases e)), e1, ifs_pos (by rfl)]
    exact r15 hL hr hg hi hs h
  | number t m j =>
    rw [hx] at h
    obtain ⟨r, h1, h2⟩ := add_num hn hx
    have e1 : Ieee.Format.sub (FloatKind.format FloatKind.f64) (gL L i) (gL L i) = some 0 := sub_num hx
    have e2 : Ieee.Format.add (FloatKind.format FloatKind.f64) sum (gL L i) = some r := h1
    have e3 : (Ieee.Format.order (FloatKind.format FloatKind.f64) 0 0 == some Ordering.eq) = true := by decide +kernel
    rw [ifs_pos ((fo_self (gL L i)).2 (fun a b e => by rw [hx] at e; cases e)), e1, ifs_neg (by simp), Option.bind_some, ifs_pos e3, e2, ifs_neg (by simp), Option.bind_some]
    simp only [h1] at h
    exact r15 hL hr hg hi hs h
theorem r11 {i sum : Nat} {seen : List Bool} (x : Nat) (h13 : l4_13 L L.length sum L.length (i : Int) x rs seen = TR) :
    l4_10 L L.length sum L.length (i : Int) x rs seen = TR := by
  obtain ⟨k, hk, hk0⟩ := key1
  have c1 : (fo f1 0 == some .gt || fo f1 0 == some .eq) = true := by decide +kernel
  have c2 : (!(fo f1 f1 == some .lt || fo f1 f1 == some .eq)) = false := by decide +kernel
  have c3 : (fo f1 f1 != some .eq) = false := by decide +kernel
  have z1 : (fo 0 0 == some .gt || fo 0 0 == some .eq) = true := by decide +kernel
  have z2 : (!(fo 0 f1 == some .lt || fo 0 f1 == some .eq)) = false := by decide +kernel
  have z3 : (fo 0 0 != some .eq) = false := by decide +kernel
  have z4 : fd f1 0 = some 9218868437227405312 := by decide +kernel
  have z5 : ¬ (fo 9218868437227405312 0 == some .lt) = true := by decide +kernel
  refine cutG_step ((q4_10 ..).trans ?_)
  rw [clamp_ok, Option.bind_some]
  refine cutG_step ((q4_11 ..).trans ?_)
  by_cases h1 : (fo x 0 == some .gt) = true
  · rw [if_pos h1]
    have nb : ¬ ((!(fo x 0 == some .gt)) = true) := by rw [h1]; simp
    by_cases h2 : (fo x f1 == some .gt) = true
    · have h2' := beq_iff_eq.1 h2
      have nl : ¬ (fo x f1 == some .lt) = true := by rw [h2']; decide
      have pg : (fo x f1 == some .gt || fo x f1 == some .eq) = true := by rw [h2']; decide
      rw [if_pos h2, ifs_pos c1, ifs_pos c2, ifs_pos h1, ifs_neg nl, ifs_pos pg, ifs_pos c3, ifs_neg nb]
      exact h13
    · rw [if_neg h2]
      have h1' := beq_iff_eq.1 h1
      have hkey : fkey x ≠ none := fun e => by
        rw [fo_key, e] at h1'; cases h1'
      obtain ⟨a, ha⟩ := Option.ne_none_iff_exists'.1 hkey
      have hself : (fo x x != some .eq) = false := by rw [fo_key, ha]; simp [cmp_int]
      have p0 : (fo x 0 == some .gt || fo x 0 == some .eq) = true := by rw [h1']; decide
      rw [fo_key, ha, hk] at h2
      have hle : a ≤ k := by
        simp only [cmp_int] at h2
        by_cases c : a ≤ k
        · exact c
        · rw [if_neg (by omega), if_neg (by omega)] at h2; exact absurd rfl h2
      by_cases c : a < k
      · have e : fo x f1 = some .lt := by rw [fo_key, ha, hk]; simp only [cmp_int]; rw [if_pos c]
        have q1 : (!(fo x f1 == some .lt || fo x f1 == some .eq)) = false := by rw [e]; decide
        have q2 : (fo x f1 == some .lt) = true := by rw [e]; decide
        have q3 : ¬ (fo x f1 == some .gt || fo x f1 == some .eq) = true := by rw [e]; decide
        rw [ifs_pos p0, ifs_pos q1, ifs_pos h1, ifs_pos q2, ifs_pos hself, ifs_neg q3, ifs_neg nb]
        exact h13
      · have e : fo x f1 = some .eq := by rw [fo_key, ha, hk]; simp only [cmp_int]; rw [if_neg c, if_pos (by omega)]
        have q1 : (!(fo x f1 == some .lt || fo x f1 == some .eq)) = false := by rw [e]; decide
        have q2 : ¬ (fo x f1 == some .lt) = true := by rw [e]; decide
        have q3 : (fo x f1 == some .gt || fo x f1 == some .eq) = true := by rw [e]; decide
        have q4 : (fo x f1 != some .eq) = false := by rw [e]; decide
        rw [ifs_pos p0, ifs_pos q1, ifs_pos h1, ifs_neg q2, ifs_pos q3, ifs_pos q4, ifs_neg nb]
        exact h13
  · rw [if_neg h1]
    have pb : (!(fo x 0 == some .gt)) = true := by simpa using h1
    have q3 : ¬ (fo x f1 == some .gt || fo x f1 == some .eq) = true := by
      rw [fo_key, hk]
      rw [fo_key, key0] at h1
      cases ha : fkey x with
      | none => simp
      | some a =>
        rw [ha] at h1
        simp only [cmp_int] at h1 ⊢
        have : a ≤ 0 := by
          by_cases c : a ≤ 0
          · exact c
          · rw [if_neg (by omega), if_neg (by omega)] at h1; exact absurd rfl h1
        rw [if_pos (by omega)]; decide
    have z4' : Ieee.Format.div (FloatKind.format FloatKind.f64) 4607182418800017408 0 = some 9218868437227405312 := z4
    rw [ifs_pos z1, ifs_pos z2, ifs_neg h1, ifs_neg q3, ifs_pos pb, ifs_pos z3, z4', ifs_neg (by simp), Option.bind_some, ifs_neg z5]
    exact h13
theorem r7 : ∀ (d i sum : Nat) (seen : List Bool), L.length - i = d → i ≤ L.length → NotNaN sum → Sn L.length i g seen → (L.drop i).foldl addTo sum = sumF L → l4_7 L L.length sum L.length (i : Int) rs seen = TR
  | 0, i, sum, seen, hd, hi, hn, hs, he => by
    rw [List.drop_of_length_le (by omega)] at he
    have he : sum = sumF L := he
    refine cutG_step ((q4_7 ..).trans ?_)
    have hself : (Ieee.Format.order (FloatKind.format FloatKind.f64) (sumF L) sum == some Ordering.eq) = true := by
      rw [he]; exact (fo_self (sumF L)).2 (by rw [← he]; exact hn)
    rw [ifs_neg (by simp; omega), total_ok L (by omega), Option.bind_some, awake30_ok, Option.bind_some, ifs_pos rfl, ifs_neg (by rw [hself]; simp)]
  | d + 1, i, sum, seen, hd, hi, hn, hs, he => by
    have hlt : i < L.length := by omega
    refine cutG_step ((q4_7 ..).trans ?_)
    rw [ifs_pos (by simp; omega), ifs_pos (by omega), Int.toNat_natCast, get_at L hlt]
    refine r11 hL hr hg _ (r13 hL hr hg hlt hs hn fun seen' hs' => r7 d (i + 1) _ seen' (by omega) (by omega) (addTo_not hn _) hs' ?_)
    rw [List.drop_eq_getElem_cons hlt, List.foldl_cons] at he
    rw [show gL L i = L[i] by unfold gL; rw [List.getD_eq_getElem?_getD, List.getElem?_eq_getElem hlt]; rfl]
    exact he
end
theorem scoreRanks_of (l : List Nat) (hl : l.length ≤ top) : callW W0 4 [inj (.sl (.flt .f64)) l] = some (injRs [RT.d .bool] true) := by
  have key : ∀ L : List Nat, L.length ≤ 60 → ∃ rs, cR 11 [RT.own 3 (.int .i64)] [inj (.sl (.flt .f64)) L] = some rs ∧ rs.length = L.length ∧ l4_7 L L.length 0 L.length 0 rs (List.replicate L.length false) = TR := fun L hL => by
    obtain ⟨g, rs, h1, h2, h3⟩ := rank_ok L (by omega)
    refine ⟨rs, h1, h2.1, r7 hL h2 h3 _ 0 0 _ rfl (Nat.zero_le _) zero_not ⟨List.length_replicate, fun v hv _ => by rw [List.getElem?_replicate, if_pos hv]⟩ (by rw [List.drop_zero]; rfl)⟩
  have sz : ∀ n : Nat, n ≤ 60 → 0 ≤ (n : Int) ∧ (n : Int) ≤ (n : Int) ∧ (n : Int) * ((1 : Nat) : Int) ≤ 140737488355328 := fun n h => by omega
  refine callG_step ((e4 l).trans ?_)
  by_cases h : l.length > 60
  · have e : List.drop (Int.toNat 0) (List.take (Int.toNat 60) l) = l.take 60 := rfl
    obtain ⟨rs, h1, h2, h3⟩ := key (l.take 60) (by rw [List.length_take]; omega)
    rw [ifs_pos (by simp; omega), ifs_pos (by omega), e, h1, Option.bind_some, ifs_pos (sz _ (by rw [List.length_take]; omega)), Int.toNat_natCast, List.length_replicate, h2]
    exact h3
  · obtain ⟨rs, h1, h2, h3⟩ := key l (by omega)
    rw [ifs_neg (by simp; omega), h1, Option.bind_some, ifs_pos (sz _ (by omega)), Int.toNat_natCast, List.length_replicate, h2]
    exact h3
end Go.Proofs.Ytefhcmkiachphaa.Sp
end
