/- Proved: what the hunks of two lists are good for, and that the law's first calls come out as they must. Condition: lists of at most 400 lines. -/
import Derived.Test.YtnegeacpfkcecaaXDiffx0
import Derived.Test.YtnegeacpfkcecaaXDiffx4
import Derived.Test.YtnegeacpfkcecaaXDiffx5
import Derived.Test.YtnegeacpfkcecaaXDiffx6
import Derived.Test.YtnegeacpfkcecaaXDiffx7
import Derived.Test.YtnegeacpfkcecaaXDiffx9
import Derived.Test.YtnegeacpfkcecaaPureDiffAlike
import Derived.Test.YtnegeacpfkcecaaPureDiffWalk
namespace Go.Proofs.Ytnegeacpfkcecaa.DiffCore
open Go.RowKit Go.Proofs.Ytnegeacpfkcecaa.XDiff Go.Proofs.YtnegeacpfkcecaaW.PrintWords Go.Proofs.YtnegeacpfkcecaaW.PrintLast Go.Proofs.YtnegeacpfkcecaaW.PrintMore
open Go.Proofs.Ytnegeacpfkcecaa.DiffSpec Go.Proofs.Ytnegeacpfkcecaa.DiffTable Go.Proofs.Ytnegeacpfkcecaa.DiffOps Go.Proofs.Ytnegeacpfkcecaa.DiffAlike Go.Proofs.Ytnegeacpfkcecaa.DiffWalk

theorem appl_bound : ∀ (l : List S66) (s : Nat) (a r : L), appl s a l = some r → ∀ h ∈ l, h.f0 ≤ ((s + a.length : Nat) : Int)
  | [], _, _, _, _, h, hh => by simp at hh
  | x :: l, s, a, r, hap, h, hh => by
    simp only [appl] at hap
    split at hap
    case isFalse => cases hap
    rename_i hc
    obtain ⟨h1, h2, h3⟩ := hc
    obtain ⟨r', hr, _⟩ := Option.map_eq_some_iff.1 hap
    rcases List.mem_cons.1 hh with rfl | hh
    · omega
    · have := appl_bound l _ _ _ hr h hh
      have h4 := congrArg List.length h3
      rw [List.length_take, List.length_drop] at h4
      rw [List.length_drop] at this
      omega
theorem mem_sum : ∀ (l : List S66) (h : S66), h ∈ l → h.f1.length ≤ sumO l ∧ h.f2.length ≤ sumN l
  | [], h, hh => by simp at hh
  | x :: l, h, hh => by
    rw [sumO_cons, sumN_cons]
    rcases List.mem_cons.1 hh with rfl | hh
    · omega
    · have := mem_sum l h hh
      omega
theorem chk_len : ∀ (l : List S66) (p : Option S66), chk p l = true → l.length ≤ sumO l + sumN l
  | [], _, _ => by simp
  | x :: l, p, h => by
    obtain ⟨h1, h2, h3, h4⟩ := (chk_cons _ _ _).1 h
    have := chk_len l _ h4
    rw [sumO_cons, sumN_cons, List.length_cons]
    omega
theorem mild_of (l : List S66) (a r : L) (hap : appl 0 a l = some r) (hck : chk none l = true) (ha : a.length ≤ 1000000) (hs : sumO l ≤ 500000 ∧ sumN l ≤ 500000) : Mild l ∧ ∀ h ∈ l, h.f0 ≤ 1000000000 := by
  have hb := appl_bound l 0 a r hap
  refine ⟨⟨by have := chk_len l none hck; omega, fun h hh => ?_⟩, fun h hh => by have := hb h hh; omega⟩
  have h1 := hb h hh
  have h2 := mem_sum l h hh
  omega
theorem sum_inv : ∀ (l : List S66) (d : Int), sumO (inv d l) = sumN l ∧ sumN (inv d l) = sumO l
  | [], _ => ⟨rfl, rfl⟩
  | x :: l, d => by
    simp only [inv]
    rw [sumO_cons, sumN_cons, sumO_cons, sumN_cons, (sum_inv l _).1, (sum_inv l _).2]
    exact ⟨rfl, rfl⟩
/-- What is known of the hunks of two lists. -/
theorem facts (a b : L) : appl 0 a (hk a b 0 none) = some b ∧ chk none (hk a b 0 none) = true ∧ sumO (hk a b 0 none) + lcs a b = a.length ∧ sumN (hk a b 0 none) + lcs a b = b.length := by
  have h1 := (hk_appl _ a b (Nat.le_refl _) 0).1 0 [] rfl
  have h2 := (hk_chk _ a b (Nat.le_refl _) 0 none).1 (fun q hq => by cases hq)
  have h3 := hk_size _ a b (Nat.le_refl _) 0 none
  simp only [List.nil_append] at h1
  have e1 : sumO (Option.toList (none : Option S66)) = 0 := rfl
  have e2 : sumN (Option.toList (none : Option S66)) = 0 := rfl
  rw [e1, e2] at h3
  exact ⟨h1, h2, by omega, by omega⟩
theorem hunks_ev (a b : L) (ha : a.length ≤ 400) (hb : b.length ≤ 400) : Ev (fun k => diff_Hunks.f k a b) (hk a b 0 none) := by
  refine Ev.congr (f := fun k => (diff_walk.f k a b).bind fun t144 => some t144) (fun k => ?_) (Ev.bind (walk_ev a b (by omega) (by omega)) (Ev.now _))
  unfold diff_Hunks.f
  rw [if_neg (by unfold mx; split <;> omega)]
/-- Any hunks that go: done, and taken back. -/
theorem there_back (l : List S66) (a b : L) (ha : a.length ≤ 400000) (hb : b.length ≤ 400000) (hap : appl 0 a l = some b) (hck : chk none l = true) (hs : sumO l ≤ 500000 ∧ sumN l ≤ 500000) :
    Ev (fun k => diff_Apply.f k a l) (b, 0) ∧ Ev (fun k => diff_Invert.f k l) (inv 0 l) ∧ Ev (fun k => diff_Apply.f k b (inv 0 l)) (a, 0) := by
  obtain ⟨hm, h9⟩ := mild_of l a b hap hck (by omega) hs
  have hap2 := appl_inv l 0 0 0 a b rfl hap
  have hck2 := chk_inv0 l hck
  have hsi := sum_inv l 0
  obtain ⟨hm2, _⟩ := mild_of (inv 0 l) b a hap2 hck2 (by omega) (by rw [hsi.1, hsi.2]; omega)
  have h1 := apply_ev a l (by omega) hm (by omega) hck
  have h3 := apply_ev b (inv 0 l) (by omega) hm2 (by rw [hsi.1, hsi.2]; omega) hck2
  rw [hap] at h1
  rw [hap2] at h3
  exact ⟨h1, invert_ev l hm h9 (by omega) hck, h3⟩
/-! ### rafterref04.Same: the same hunks are the same -/
theorem refsame_ev (l : List S66) (hl : l.length ≤ 1000000) (hb : ∀ h ∈ l, h.f1.length ≤ 1000000 ∧ h.f2.length ≤ 1000000) : Ev (fun k => rafterref04_Same.f k l l) true := by
  have key : ∀ d i : Nat, l.length - i = d → i ≤ l.length → Ev (fun k => rafterref04_Same.l0 k l l (i : Int)) true := by
    intro d
    induction d with
    | zero =>
      intro i hd hi
      refine Ev.step (f := fun _ => some true) (fun k => ?_) (Ev.now _)
      simp only [rafterref04_Same.l0]
      rw [if_neg (by omega)]
    | succ d ih =>
      intro i hd hi
      have h1 : i < l.length := by omega
      have hbi := hb l[i] (List.getElem_mem h1)
      have s1 := same_ev l[i].f1 l[i].f1 (by omega)
      have s2 := same_ev l[i].f2 l[i].f2 (by omega)
      rw [decide_eq_true rfl] at s1 s2
      refine Ev.step (f := fun k => (rafterref01_Same.f k l[i].f1 l[i].f1).bind fun t264 => (if t264 = true then ((rafterref01_Same.f k l[i].f2 l[i].f2).bind fun t267 => (rafterref04_Same.j1 k l l (i : Int) (!t267))) else (rafterref04_Same.j1 k l l (i : Int) true))) (fun k => ?_) (Ev.bind s1 ?_)
      · simp only [rafterref04_Same.l0]
        rw [if_pos (by omega), if_pos (by omega), if_pos (by omega), rdT l i h1, if_pos trivial]
      · refine Ev.congr (f := fun k => (rafterref01_Same.f k l[i].f2 l[i].f2).bind fun t267 => (rafterref04_Same.j1 k l l (i : Int) (!t267))) (fun k => by rw [if_pos rfl]) (Ev.bind s2 ?_)
        refine Ev.step (f := fun k => rafterref04_Same.l0 k l l ((i + 1 : Nat) : Int)) (fun k => ?_) (ih (i + 1) (by omega) (by omega))
        simp only [rafterref04_Same.j1]
        rw [if_neg (by simp), wrap_nat i (by omega)]
  refine Ev.congr (f := fun k => rafterref04_Same.l0 k l l ((0 : Nat) : Int)) (fun k => ?_) (key _ 0 rfl (by omega))
  unfold rafterref04_Same.f
  rw [if_pos rfl]
  rfl
/-! ### awake -/
def wa : L := [⟨#[97]⟩, ⟨#[98]⟩, ⟨#[99]⟩]
def wb : L := [⟨#[97]⟩, ⟨#[120]⟩, ⟨#[99]⟩]
theorem w_lcs : lcs wa wb = 2 := by
  unfold wa wb
  simp [lcs_cons, lcs_nil_left, lcs_nil_right]
theorem w_hk : hk wa wb 0 none = [⟨1, [⟨#[98]⟩], [⟨#[120]⟩]⟩] := by
  unfold wa wb
  simp [hk, lcs_cons, lcs_nil_left, lcs_nil_right, addO, addN]
theorem awake_ev : Ev (fun k => rafterlaw04_awake.f k) true := by
  obtain ⟨f1, f2, f3, f4⟩ := facts wa wb
  have hl : wa.length = 3 := rfl
  have hl2 : wb.length = 3 := rfl
  obtain ⟨t1, t2, t3⟩ := there_back (hk wa wb 0 none) wa wb (by omega) (by omega) f1 f2 (by omega)
  have h1 := hunks_ev wa wb (by omega) (by omega)
  have h5 := size_ev (hk wa wb 0 none) (by rw [w_hk]; simp) (by omega) (by omega)
  have s1 := same_ev wb wb (by omega)
  have s2 := same_ev wa wa (by omega)
  rw [decide_eq_true rfl] at s1 s2
  have h6 := own_ev wa wb (by omega) (by omega)
  have h7 := check_ev (hk wa wb 0 none) (mild_of _ wa wb f1 f2 (by omega) (by omega)).1
  rw [if_pos f2] at h7
  have eO : sumO (hk wa wb 0 none) = 1 := by rw [w_lcs] at f3; omega
  have eN : sumN (hk wa wb 0 none) = 1 := by rw [w_lcs] at f4; omega
  rw [eO, eN] at h5
  rw [w_lcs] at h6
  rw [w_hk] at h1 t1 t2 t3 h5 h7
  refine Ev.congr (f := fun k => (diff_Hunks.f k wa wb).bind fun t208 => ((diff_Apply.f k wa t208).bind fun bt211 => ((diff_Invert.f k t208).bind fun t215 => ((diff_Apply.f k wb t215).bind fun bt218 => ((diff_Size.f k t208).bind fun bt222 => (if (t208.length : Int) = 1 then (if 0 < (t208.length : Int) then (if ((rd_T66 t208 0).f0) = 1 then (if bt211.2 = 0 then ((rafterref01_Same.f k bt211.1 wb).bind fun t225 => (if t225 = true then (if bt218.2 = 0 then ((rafterref01_Same.f k bt218.1 wa).bind fun t226 => (if t226 = true then ((diff_Alike.f k wa wb).bind fun t227 => (if t227 = 2 then (if bt222.1 = 1 then (if bt222.2 = 1 then ((diff_Check.f k t208).bind fun t228 => (some (t228 == 0))) else (some false)) else (some false)) else (some false))) else (some false))) else (some false)) else (some false))) else (some false)) else (some false)) else (none)) else (some false))))))) (fun k => rfl) ?_
  refine Ev.bind h1 (Ev.bind t1 (Ev.bind t2 (Ev.bind t3 (Ev.bind h5 ?_))))
  refine Ev.congr (f := fun k => (rafterref01_Same.f k wb wb).bind fun t225 => (if t225 = true then ((rafterref01_Same.f k wa wa).bind fun t226 => (if t226 = true then ((diff_Alike.f k wa wb).bind fun t227 => (if t227 = 2 then ((diff_Check.f k [⟨1, [⟨#[98]⟩], [⟨#[120]⟩]⟩]).bind fun t228 => (some (t228 == 0))) else (some false))) else (some false))) else (some false))) (fun k => by rfl) ?_
  refine Ev.bind s1 (Ev.congr (fun k => by rw [if_pos rfl]) (Ev.bind s2 (Ev.congr (fun k => by rw [if_pos rfl]) (Ev.bind h6 (Ev.congr (fun k => by rw [if_pos (by decide)]) (Ev.bind h7 (Ev.congr (f := fun _ => some true) (fun k => rfl) (Ev.now _))))))))
end Go.Proofs.Ytnegeacpfkcecaa.DiffCore
