/- A tree's files seen as a map from paths, and what a step does to such a map. No condition: plain lists. slices.SortStableFunc at files (symMerge and on), and tree.Of: a tree as it may be. Conditions: lengths as they stand in each statement. Two steps that change places come to the same map. Conditions: the steps may be, and the lengths as they stand in each statement. Steps that pass rows, in plain words. No condition: these are definitions. Rows of steps on maps; rows that change places, and a step that comes to the front, come to the same map. Conditions: the lengths as they stand in each st -/
import Derived.Test.YtabhngbpkfdeiaaGreatDoorM5
import Derived.Test.YtabhngbpkfdeiaaGreatDoorM4
section
/- A tree's files seen as a map from paths, and what a step does to such a map. No condition: plain lists. -/
set_option linter.unusedVariables false
set_option linter.unusedSimpArgs false
namespace Go.Proofs.YtabhngbpkfdeiaaGreatDoor.Sp
open Go Go.Proofs.YtabhngbpkfdeiaaGreatDoor.Ab Go.Proofs.YtabhngbpkfdeiaaGreatDoor.Tb Go.Proofs.YtabhngbpkfdeiaaGreatDoor.EText

abbrev En := Bool × List Txt
abbrev Mp := Txt → Option En
def mp (l : List Fil) : Mp := fun p => if hasP l p = true then some (getP l p).1.2 else none
def upd (m : Mp) (p : Txt) (v : Option En) : Mp := fun x => if x = p then v else m x
theorem upd_at (m : Mp) (p : Txt) (v : Option En) : upd m p v p = v := by simp [upd]
theorem upd_ne (m : Mp) {p x : Txt} (v : Option En) (h : x ≠ p) : upd m p v x = m x := by simp [upd, h]
theorem upd_comm (m : Mp) {p q : Txt} (v w : Option En) (h : p ≠ q) : upd (upd m p v) q w = upd (upd m q w) p v := by
  funext x
  unfold upd
  by_cases h1 : x = q
  · by_cases h2 : x = p
    · exact absurd (h2.symm.trans h1) h
    · rw [if_pos h1, if_neg h2, if_pos h1]
  · rw [if_neg h1]
    by_cases h2 : x = p
    · rw [if_pos h2, if_pos h2]
    · rw [if_neg h2, if_neg h2, if_neg h1]
theorem upd_upd (m : Mp) (p : Txt) (v w : Option En) : upd (upd m p v) p w = upd m p w := by
  funext x; unfold upd; by_cases h1 : x = p <;> simp [h1]
theorem upd_id (m : Mp) {p : Txt} {v : Option En} (h : m p = v) : upd m p v = m := by
  funext x; unfold upd; by_cases h1 : x = p <;> simp [h1, h]

theorem mp_mem {l : List Fil} (hs : Srt l) {p : Txt} {e : En} : mp l p = some e ↔ (p, e) ∈ l := by
  unfold mp
  constructor
  · intro h
    split at h
    · rename_i hh
      obtain ⟨h1, h2⟩ := getP_mem hh
      cases h
      have : ((getP l p).1.1, (getP l p).1.2) ∈ l := h1
      rw [h2] at this; exact this
    · cases h
  · intro h
    have h1 := getP_of hs h
    have h2 : getP l p = ((p, e), true) := h1
    have h3 : hasP l p = true := by rw [← getP_snd, h2]
    rw [if_pos h3, h2]
theorem mp_none {l : List Fil} (hs : Srt l) {p : Txt} : mp l p = none ↔ hasP l p = false := by
  unfold mp
  cases hasP l p <;> simp
theorem srt_ext : ∀ {l m : List Fil}, Srt l → Srt m → (∀ e, e ∈ l ↔ e ∈ m) → l = m
  | [], [], _, _, _ => rfl
  | [], b :: m, _, _, h => by have := (h b).2 (by simp); cases this
  | a :: l, [], _, _, h => by have := (h a).1 (by simp); cases this
  | a :: l, b :: m, h1, h2, h => by
    have k1 := List.pairwise_cons.1 h1
    have k2 := List.pairwise_cons.1 h2
    have e : a = b := by
      rcases List.mem_cons.1 ((h a).1 (by simp)) with e | e
      · exact e
      · rcases List.mem_cons.1 ((h b).2 (by simp)) with f | f
        · exact f.symm
        · have := lessP_asym (k2.1 a e)
          rw [k1.1 b f] at this; cases this
    subst e
    refine congrArg (a :: ·) (srt_ext k1.2 k2.2 fun x => ⟨fun hx => ?_, fun hx => ?_⟩)
    · rcases List.mem_cons.1 ((h x).1 (List.mem_cons_of_mem _ hx)) with e | e
      · subst e; have := k1.1 x hx; rw [lessP_irrefl] at this; cases this
      · exact e
    · rcases List.mem_cons.1 ((h x).2 (List.mem_cons_of_mem _ hx)) with e | e
      · subst e; have := k2.1 x hx; rw [lessP_irrefl] at this; cases this
      · exact e
theorem mp_ext {l m : List Fil} (h1 : Srt l) (h2 : Srt m) (h : mp l = mp m) : l = m :=
  srt_ext h1 h2 fun e => by
    have k1 := mp_mem h1 (p := e.1) (e := e.2)
    have k2 := mp_mem h2 (p := e.1) (e := e.2)
    rw [h] at k1
    exact k1.symm.trans k2
theorem opt_ext {α : Type} {a b : Option α} (h : ∀ e, a = some e ↔ b = some e) : a = b := by
  cases a with
  | none => cases b with
    | none => rfl
    | some y => exact absurd ((h y).2 rfl) (by simp)
  | some x => exact ((h x).1 rfl).symm
theorem mp_put {l : List Fil} (hs : Srt l) (f : Fil) : mp (put l f) = upd (mp l) f.1 (some f.2) := by
  funext x
  refine opt_ext fun e => ?_
  rw [mp_mem (srt_put hs f), mem_put]
  unfold upd
  by_cases hx : x = f.1
  · rw [if_pos hx]
    constructor
    · rintro (h | ⟨h1, h2⟩)
      · rw [← h]
      · exact absurd hx h2
    · intro h; cases h; left; rw [hx]
  · rw [if_neg hx, mp_mem hs]
    constructor
    · rintro (h | ⟨h1, h2⟩)
      · rw [← h] at hx; exact absurd rfl hx
      · exact h1
    · exact fun h => .inr ⟨h, hx⟩
theorem mp_del {l : List Fil} (hs : Srt l) (p : Txt) : mp (del l p) = upd (mp l) p none := by
  funext x
  refine opt_ext fun e => ?_
  rw [mp_mem (srt_del hs p)]
  unfold upd del
  rw [List.mem_filter]
  by_cases hx : x = p
  · rw [if_pos hx]; simp [hx]
  · rw [if_neg hx, mp_mem hs]; simp [hx]

/-! ### What a step does to a map -/
def dirM (m : Mp) (p : Txt) : Prop := p = nope ∨ ∃ ls, m p = some (true, ls)
theorem dirM_iff {l : List Fil} (hs : Srt l) (p : Txt) : dirB l p = true ↔ dirM (mp l) p := by
  constructor
  · intro h
    rcases dir_get hs h with h | ⟨g, hg, e1, e2⟩
    · exact .inl h
    · refine .inr ⟨g.2.2, (mp_mem hs).2 ?_⟩
      rw [← e1, ← e2]; exact hg
  · rintro (h | ⟨ls, h⟩)
    · unfold dirB; rw [h]; simp
    · have := getP_of hs ((mp_mem hs).1 h)
      unfold dirB
      rw [show getP l p = ((p, true, ls), true) from this]
      simp
def Hnk (ls : List Txt) (p : Prm) (ls' : List Txt) : Prop := ∃ a b, ls = a ++ p.2.2.2.2.1 ++ b ∧ (a.length : Int) = p.2.2.2.1 ∧ ls' = a ++ p.2.2.2.2.2 ++ b
def Stp (p : Prm) (m m' : Mp) : Prop :=
  (p.1 = 1 ∧ m p.2.1 = none ∧ dirM m (upP p.2.1) ∧ m' = upd m p.2.1 (some (true, []))) ∨
  (p.1 = 2 ∧ m p.2.1 = some (true, []) ∧ (∀ e, m e ≠ none → upP e ≠ p.2.1) ∧ m' = upd m p.2.1 none) ∨
  (p.1 = 3 ∧ m p.2.1 = none ∧ dirM m (upP p.2.1) ∧ m' = upd m p.2.1 (some (false, []))) ∨
  (p.1 = 4 ∧ m p.2.1 = some (false, []) ∧ m' = upd m p.2.1 none) ∨
  (p.1 = 5 ∧ ∃ ls, m p.2.1 = some (false, ls) ∧ m p.2.2.1 = none ∧ dirM m (upP p.2.2.1) ∧ m' = upd (upd m p.2.1 none) p.2.2.1 (some (false, ls))) ∨
  (p.1 = 6 ∧ ∃ ls ls', m p.2.1 = some (false, ls) ∧ Hnk ls p ls' ∧ m' = upd m p.2.1 (some (false, ls')))

theorem inP_nil {l : List Fil} (hs : Srt l) (p : Txt) : inP l p = [] ↔ ∀ e, mp l e ≠ none → upP e ≠ p := by
  unfold inP
  rw [List.map_eq_nil_iff, List.filter_eq_nil_iff]
  constructor
  · intro h e he hu
    cases hm : mp l e with
    | none => exact he hm
    | some x => exact h _ ((mp_mem hs).1 hm) (by simpa using hu)
  · intro h e he
    simp only [decide_eq_true_eq]
    exact h e.1 (by rw [(mp_mem hs (e := e.2)).2 he]; simp)

/-! ### What a step does to the files -/
def hdo (ls : List Txt) (p : Prm) : Option (List Txt) :=
  if p.2.2.2.1.toNat + p.2.2.2.2.1.length ≤ ls.length ∧ (ls.drop p.2.2.2.1.toNat).take p.2.2.2.2.1.length = p.2.2.2.2.1 then
    some (ls.take p.2.2.2.1.toNat ++ p.2.2.2.2.2 ++ ls.drop (p.2.2.2.1.toNat + p.2.2.2.2.1.length)) else none
theorem hdo_iff {ls ls' : List Txt} {p : Prm} (h0 : 0 ≤ p.2.2.2.1) : hdo ls p = some ls' ↔ Hnk ls p ls' := by
  unfold hdo Hnk
  generalize hn : p.2.2.2.1.toNat = n
  have hn' : p.2.2.2.1 = (n : Int) := by omega
  rw [hn']
  generalize p.2.2.2.2.1 = o
  generalize p.2.2.2.2.2 = w
  constructor
  · intro h
    split at h
    · rename_i hc
      cases h
      refine ⟨ls.take n, ls.drop (n + o.length), ?_, by rw [List.length_take]; omega, rfl⟩
      have e := List.take_append_drop n ls
      have e2 := List.take_append_drop o.length (ls.drop n)
      rw [hc.2, List.drop_drop] at e2
      rw [List.append_assoc, e2, e]
    · cases h
  · rintro ⟨a, b, rfl, ha, rfl⟩
    have ha' : a.length = n := by omega
    subst ha'
    rw [if_pos]
    · congr 1
      rw [List.append_assoc a o b, List.take_left, ← List.drop_drop, List.drop_left, List.drop_left]
    · refine ⟨by simp only [List.length_append]; omega, ?_⟩
      rw [List.append_assoc, List.drop_left, List.take_left]

def goneP (l : List Fil) (p : Txt) (d : Bool) : List Fil × Int :=
  if hasP l p = false then ([], 9) else if (getP l p).1.2.1 ≠ d then ([], 11) else if (getP l p).1.2.2 ≠ [] then ([], 13) else rmP l p
def hunkP (l : List Fil) (p : Prm) : List Fil × Int :=
  if hasP l p.2.1 = false then ([], 9) else if (getP l p.2.1).1.2.1 = true then ([], 11) else
    match hdo (getP l p.2.1).1.2.2 p with
    | none => ([], 13)
    | some x => wrP l p.2.1 x
def applyP (l : List Fil) (p : Prm) : List Fil × Int :=
  if chk p ≠ 0 then ([], chk p) else if p.1 = 1 then mkP l p.2.1 else if p.1 = 2 ∨ p.1 = 4 then goneP l p.2.1 (decide (p.1 = 2)) else if p.1 = 5 then mvP l p.2.1 p.2.2.1
  else if p.1 = 6 then hunkP l p else if hasP l p.2.1 = true then ([], 10) else wrP l p.2.1 []

/-- Files as they may be in a tree: at most so many. -/
structure Gd (l : List Fil) (n : Nat) : Prop where
  tk : Tk l
  n : l.length ≤ n
  c : ∀ f ∈ l, checkL f.2.2 = 0
theorem Gd.weak {l : List Fil} {n k : Nat} (h : Gd l n) (hk : n ≤ k) : Gd l k := ⟨h.tk, Nat.le_trans h.n hk, h.c⟩
theorem Gd.line {l : List Fil} {n : Nat} (h : Gd l n) {p : Txt} {e : En} (he : mp l p = some e) : checkL e.2 = 0 := h.c (p, e) ((mp_mem h.tk.s).1 he)
theorem get_mp {l : List Fil} (hs : Srt l) {p : Txt} {e : En} (h : mp l p = some e) : hasP l p = true ∧ (getP l p).1 = (p, e) := by
  have h1 := getP_of hs ((mp_mem hs).1 h)
  have h2 : getP l p = ((p, e), true) := h1
  exact ⟨by rw [← getP_snd, h2], by rw [h2]⟩
theorem mp_get {l : List Fil} (hs : Srt l) {p : Txt} (h : hasP l p = true) : mp l p = some (getP l p).1.2 := by unfold mp; rw [if_pos h]
theorem checkL_LOk {l : List Txt} (h : checkL l = 0) : LOk l ∧ l.length ≤ 2000 := by
  have h0 := h
  unfold checkL at h
  split at h
  · cases h
  · rename_i h1
    split at h
    · rename_i h2
      have ht : (2000 : Nat) ≤ top := by decide
      refine ⟨⟨by omega, fun s hs => ?_⟩, by omega⟩
      have := List.all_eq_true.1 h2 s hs
      unfold lineB at this
      simp only [Bool.and_eq_true, decide_eq_true_eq] at this
      have h200 : (200 : Nat) ≤ top := by decide
      omega
    · cases h
theorem chk_path {p : Prm} (h : chk p = 0) : rightP p.2.1 = true := by
  unfold chk at h
  split at h
  · cases h
  · split at h
    · cases h
    · rename_i h1
      cases hr : rightP p.2.1 with
      | true => rfl
      | false => exact absurd (.inl hr) h1
theorem chk_to {p : Prm} (h : chk p = 0) (h5 : p.1 = 5) : rightP p.2.2.1 = true ∧ p.2.1 ≠ p.2.2.1 := by
  unfold chk at h
  split at h
  · cases h
  · split at h
    · cases h
    · rename_i h1
      refine ⟨?_, fun e => h1 (.inr ⟨h5, .inr e⟩)⟩
      cases hr : rightP p.2.2.1 with
      | true => rfl
      | false => exact absurd (.inr ⟨h5, .inl hr⟩) h1

theorem gd_put {l : List Fil} {n : Nat} (h : Gd l n) {f : Fil} (hr : rightP f.1 = true) (hc : checkL f.2.2 = 0) (hn : n ≤ 900) : Gd (put l f) (n + 1) := by
  have h0 := h.n
  obtain ⟨h1, h2⟩ := checkL_LOk hc
  exact ⟨tk_put h.tk ⟨hr, h1, by omega⟩ (by omega), by have := put_len h.tk.s f; omega, fun e he => by
    rcases mem_put.1 he with rfl | ⟨h3, _⟩
    · exact hc
    · exact h.c e h3⟩
theorem gd_del {l : List Fil} {n : Nat} (h : Gd l n) (p : Txt) : Gd (del l p) n :=
  ⟨tk_del h.tk p, Nat.le_trans (List.length_filter_le _ _) h.n, fun e he => h.c e (List.mem_filter.1 he).1⟩
theorem roomB_zero {l : List Fil} {p : Txt} (hn : l.length < 500) : roomB l p = 0 ↔ dirB l (upP p) = true := by
  unfold roomB
  cases dirB l (upP p) with
  | true => rw [if_neg (by simp), if_neg (by omega)]; simp
  | false => simp

/-- A step that may be done is done. -/
theorem apply_of {l : List Fil} {n : Nat} (h : Gd l n) (hn : n < 500) {p : Prm} (hc : chk p = 0) {m' : Mp} (hs : Stp p (mp l) m') (hm : ∀ x e, m' x = some e → checkL e.2 = 0) :
    ∃ l', applyP l p = (l', 0) ∧ mp l' = m' ∧ Gd l' (n + 1) := by
  have hS := h.tk.s
  have hr := chk_path hc
  have hlen : l.length < 500 := Nat.lt_of_le_of_lt h.n hn
  unfold applyP
  rw [if_neg (by simp [hc])]
  rcases hs with ⟨k, h1, h2, rfl⟩ | ⟨k, h1, h2, rfl⟩ | ⟨k, h1, h2, rfl⟩ | ⟨k, h1, rfl⟩ | ⟨k, ls, h1, h2, h3, rfl⟩ | ⟨k, ls, ls', h1, h2, rfl⟩
  · rw [if_pos k]
    unfold mkP
    rw [if_neg (by simp [hr]), if_neg (by simp [(mp_none hS).1 h1]), if_neg (by simp [(roomB_zero hlen).2 ((dirM_iff hS _).2 h2)])]
    exact ⟨_, rfl, mp_put hS _, gd_put h hr (show checkL [] = 0 by decide) (by omega)⟩
  · obtain ⟨g1, g2⟩ := get_mp hS h1
    rw [if_neg (by omega), if_pos (.inl k)]
    unfold goneP
    rw [if_neg (by simp [g1]), if_neg (by simp [g2, k]), if_neg (by simp [g2])]
    unfold rmP
    rw [if_neg (by simp [hr]), if_neg (by simp [g1]), if_neg (by simp [(inP_nil hS _).2 h2])]
    exact ⟨_, rfl, mp_del hS _, (gd_del h _).weak (by omega)⟩
  · rw [if_neg (by omega), if_neg (by omega), if_neg (by omega), if_neg (by omega), if_neg (by simp [(mp_none hS).1 h1])]
    unfold wrP
    have hg : (getP l p.2.1).1.2.1 = false := by rw [getP_no ((mp_none hS).1 h1)]; rfl
    rw [if_neg (by simp [hr]), if_neg (by simp [hg]), if_neg (by decide), if_neg (by simp [(roomB_zero hlen).2 ((dirM_iff hS _).2 h2)])]
    exact ⟨_, rfl, mp_put hS _, gd_put h hr (show checkL [] = 0 by decide) (by omega)⟩
  · obtain ⟨g1, g2⟩ := get_mp hS h1
    rw [if_neg (by omega), if_pos (.inr k)]
    unfold goneP
    rw [if_neg (by simp [g1]), if_neg (by simp [g2, k]), if_neg (by simp [g2])]
    unfold rmP
    rw [if_neg (by simp [hr]), if_neg (by simp [g1]), if_neg (by simp [g2])]
    exact ⟨_, rfl, mp_del hS _, (gd_del h _).weak (by omega)⟩
  · obtain ⟨g1, g2⟩ := get_mp hS h1
    obtain ⟨hr2, hne⟩ := chk_to hc k
    rw [if_neg (by omega), if_neg (by omega), if_pos k]
    unfold mvP
    rw [if_neg (by simp [hr, hr2]), if_neg (by simp [g1]), if_neg (by simp [g2]), if_neg (by simp [(mp_none hS).1 h2]), if_neg (by simp [(dirM_iff hS _).2 h3])]
    refine ⟨_, rfl, ?_, gd_put (gd_del h _) hr2 (by rw [g2]; exact h.line h1) (by omega)⟩
    rw [mp_put (srt_del hS _), mp_del hS, g2]
  · obtain ⟨g1, g2⟩ := get_mp hS h1
    have hat := (chk_hunk hc k).1
    rw [if_neg (by omega), if_neg (by omega), if_neg (by omega), if_pos k]
    unfold hunkP
    rw [if_neg (by simp [g1]), if_neg (by simp [g2]), g2]
    simp only [(hdo_iff hat).2 h2]
    have hcl : checkL ls' = 0 := hm p.2.1 (false, ls') (by rw [upd_at])
    unfold wrP
    rw [if_neg (by simp [hr]), if_neg (by simp [g2]), if_neg (by simp [hcl]), if_neg (by simp [g1])]
    exact ⟨_, rfl, mp_put hS _, gd_put h hr hcl (by omega)⟩
/-- What is done is a step. -/
theorem of_apply {l l' : List Fil} {n : Nat} (h : Gd l n) (hn : n < 500) {p : Prm} (ha : applyP l p = (l', 0)) : chk p = 0 ∧ Stp p (mp l) (mp l') ∧ Gd l' (n + 1) := by
  have hS := h.tk.s
  have hlen : l.length < 500 := Nat.lt_of_le_of_lt h.n hn
  have hcc : chk p = 0 := by
    unfold applyP at ha
    by_cases hc : chk p = 0
    · exact hc
    · rw [if_pos hc] at ha; exact absurd (Prod.mk.inj ha).2 hc
  have hr := chk_path hcc
  refine ⟨hcc, ?_⟩
  suffices hk : ∃ m', Stp p (mp l) m' ∧ ∀ x e, m' x = some e → checkL e.2 = 0 by
    obtain ⟨m', h1, h2⟩ := hk
    obtain ⟨l2, e1, e2, e3⟩ := apply_of h hn hcc h1 h2
    rw [ha] at e1; cases e1
    rw [e2]; exact ⟨h1, e3⟩
  have base : ∀ (q : Txt) (v : Option En), (∀ e, v = some e → checkL e.2 = 0) → ∀ (m : Mp), (∀ x e, m x = some e → checkL e.2 = 0) → ∀ x e, upd m q v x = some e → checkL e.2 = 0 := fun q v hv m hm x e hx => by
    unfold upd at hx
    split at hx
    · exact hv e hx
    · exact hm x e hx
  have hb := fun x e => h.line (p := x) (e := e)
  unfold applyP at ha
  rw [if_neg (by simp [hcc])] at ha
  by_cases k1 : p.1 = 1
  · rw [if_pos k1] at ha
    unfold mkP at ha
    rw [if_neg (by simp [hr])] at ha
    cases hh : hasP l p.2.1 with
    | true => rw [if_pos hh] at ha; cases ha
    | false =>
      rw [if_neg (by simp [hh])] at ha
      by_cases hroom : roomB l p.2.1 = 0
      · exact ⟨_, .inl ⟨k1, (mp_none hS).2 hh, (dirM_iff hS _).1 ((roomB_zero hlen).1 hroom), rfl⟩, base _ _ (fun e he => by cases he; decide) _ hb⟩
      · rw [if_pos hroom] at ha; exact absurd (Prod.mk.inj ha).2 hroom
  rw [if_neg k1] at ha
  by_cases k24 : p.1 = 2 ∨ p.1 = 4
  · rw [if_pos k24] at ha
    unfold goneP at ha
    cases hh : hasP l p.2.1 with
    | false => rw [if_pos hh] at ha; cases ha
    | true =>
      rw [if_neg (by simp [hh])] at ha
      by_cases hd : (getP l p.2.1).1.2.1 = decide (p.1 = 2)
      · rw [if_neg (by simp [hd])] at ha
        by_cases hl : (getP l p.2.1).1.2.2 = []
        · rw [if_neg (by simp [hl])] at ha
          have hm : mp l p.2.1 = some (decide (p.1 = 2), []) := by rw [mp_get hS hh, ← hd, ← hl]
          unfold rmP at ha
          rw [if_neg (by simp [hr]), if_neg (by simp [hh])] at ha
          rcases k24 with k | k
          · by_cases hi : inP l p.2.1 = []
            · exact ⟨_, .inr (.inl ⟨k, by rw [hm, k]; rfl, (inP_nil hS _).1 hi, rfl⟩), base _ _ (fun e he => by cases he) _ hb⟩
            · rw [if_pos ⟨by rw [hd, k]; rfl, hi⟩] at ha; cases ha
          · exact ⟨_, .inr (.inr (.inr (.inl ⟨k, by rw [hm, k]; rfl, rfl⟩))), base _ _ (fun e he => by cases he) _ hb⟩
        · rw [if_pos hl] at ha; cases ha
      · rw [if_pos hd] at ha; cases ha
  rw [if_neg k24] at ha
  by_cases k5 : p.1 = 5
  · rw [if_pos k5] at ha
    obtain ⟨hr2, hne⟩ := chk_to hcc k5
    unfold mvP at ha
    rw [if_neg (by simp [hr, hr2])] at ha
    cases hh : hasP l p.2.1 with
    | false => rw [if_pos hh] at ha; cases ha
    | true =>
      rw [if_neg (by simp [hh])] at ha
      cases hd : (getP l p.2.1).1.2.1 with
      | true => rw [if_pos hd] at ha; cases ha
      | false =>
        rw [if_neg (by simp [hd])] at ha
        cases ht : hasP l p.2.2.1 with
        | true => rw [if_pos ht] at ha; cases ha
        | false =>
          rw [if_neg (by simp [ht])] at ha
          cases hu : dirB l (upP p.2.2.1) with
          | false => rw [if_pos hu] at ha; cases ha
          | true =>
            have hm : mp l p.2.1 = some (false, (getP l p.2.1).1.2.2) := by rw [mp_get hS hh, ← hd]
            exact ⟨_, .inr (.inr (.inr (.inr (.inl ⟨k5, _, hm, (mp_none hS).2 ht, (dirM_iff hS _).1 hu, rfl⟩)))), base _ _ (fun e he => by cases he; exact hb _ _ hm) _ (base _ _ (fun e he => by cases he) _ hb)⟩
  rw [if_neg k5] at ha
  by_cases k6 : p.1 = 6
  · rw [if_pos k6] at ha
    have hat := (chk_hunk hcc k6).1
    unfold hunkP at ha
    cases hh : hasP l p.2.1 with
    | false => rw [if_pos hh] at ha; cases ha
    | true =>
      rw [if_neg (by simp [hh])] at ha
      cases hd : (getP l p.2.1).1.2.1 with
      | true => rw [if_pos hd] at ha; cases ha
      | false =>
        rw [if_neg (by simp [hd])] at ha
        cases hx : hdo (getP l p.2.1).1.2.2 p with
        | none => rw [hx] at ha; cases ha
        | some x =>
          rw [hx] at ha
          simp only at ha
          unfold wrP at ha
          rw [if_neg (by simp [hr]), if_neg (by simp [hd])] at ha
          by_cases hcl : checkL x = 0
          · have hm : mp l p.2.1 = some (false, (getP l p.2.1).1.2.2) := by rw [mp_get hS hh, ← hd]
            exact ⟨_, .inr (.inr (.inr (.inr (.inr ⟨k6, _, x, hm, (hdo_iff hat).1 hx, rfl⟩)))), base _ _ (fun e he => by cases he; exact hcl) _ hb⟩
          · rw [if_pos hcl] at ha; exact absurd (Prod.mk.inj ha).2 hcl
  rw [if_neg k6] at ha
  have k3 : p.1 = 3 := by have := chk_kind hcc; omega
  cases hh : hasP l p.2.1 with
  | true => rw [if_pos hh] at ha; cases ha
  | false =>
    rw [if_neg (by simp [hh])] at ha
    unfold wrP at ha
    have hg : (getP l p.2.1).1.2.1 = false := by rw [getP_no hh]; rfl
    rw [if_neg (by simp [hr]), if_neg (by simp [hg]), if_neg (by decide)] at ha
    by_cases hroom : roomB l p.2.1 = 0
    · exact ⟨_, .inr (.inr (.inl ⟨k3, (mp_none hS).2 hh, (dirM_iff hS _).1 ((roomB_zero hlen).1 hroom), rfl⟩)), base _ _ (fun e he => by cases he; decide) _ hb⟩
    · rw [if_pos ⟨hroom, hh⟩] at ha; exact absurd (Prod.mk.inj ha).2 hroom

end Go.Proofs.YtabhngbpkfdeiaaGreatDoor.Sp
end
section
/- slices.SortStableFunc at files (symMerge and on), and tree.Of: a tree as it may be. Conditions: lengths as they stand in each statement. -/
set_option linter.unusedVariables false
set_option linter.unusedSimpArgs false
namespace Go.Proofs.YtabhngbpkfdeiaaGreatDoor.Sp
open Go Go.Proofs.YtabhngbpkfdeiaaGreatDoor.Ab Go.Proofs.YtabhngbpkfdeiaaGreatDoor.Tb Go.Proofs.YtabhngbpkfdeiaaGreatDoor.EText

noncomputable def symC (N : Nat) (a m b : Int) (ys : List Fil) : Option (dens [] × dens ([inpF].map RT.d)) :=
  cR2 123 [] [inpF] [A.c (C.ow 0 N), inj (.int .i64) a, inj (.int .i64) m, inj (.int .i64) b, A.c (C.cl 45 []), inj inpF ((), ys)]
noncomputable def t2 (N : Nat) (b mid en : Int) (zs : List Fil) : Option (List RV) :=
  ifs (decide (mid < en) = true) (ifs (decide (en < b) = true) (Option.bind (symC N mid en b zs) fun r => some (injRs [] () ++ injRs [RT.d inpF] ((), r.2.2))) (some (injRs [] () ++ injRs [RT.d inpF] ((), zs)))) (some (injRs [] () ++ injRs [RT.d inpF] ((), zs)))
noncomputable def t1 (N : Nat) (a b mid start en : Int) (zs : List Fil) : Option (List RV) :=
  ifs (decide (a < start) = true) (ifs (decide (start < mid) = true) (Option.bind (symC N a start mid zs) fun r => t2 N b mid en r.2.2) (t2 N b mid en zs)) (t2 N b mid en zs)
def SymH (d : Nat) : Prop := ∀ (a m b N : Nat) (ys : List Fil), b - a ≤ d → a < m → m < b → b ≤ ys.length → Sz ys → N = ys.length → Ans2 ys (symC N (a : Int) (m : Int) (b : Int) ys)
theorem t2_ok {d : Nat} (ih : SymH d) (N b mid en : Nat) (zs : List Fil) (hd : b - mid ≤ d) (hb : b ≤ zs.length) (hs : Sz zs) (hN : N = zs.length) : Ans zs (t2 N (b : Int) (mid : Int) (en : Int) zs) := by
  unfold t2
  by_cases h1 : mid < en
  · rw [ifs_pos (by simp; omega)]
    by_cases h2 : en < b
    · rw [ifs_pos (by simp; omega)]
      obtain ⟨z, e, f⟩ := ih mid en b N zs hd h1 h2 hb hs hN
      exact ⟨z, by rw [e, Option.bind_some], f⟩
    · rw [ifs_neg (by simp; omega)]
      exact ⟨zs, rfl, .refl _⟩
  · rw [ifs_neg (by simp; omega)]
    exact ⟨zs, rfl, .refl _⟩
theorem t1_ok {d : Nat} (ih : SymH d) (N a b mid start en : Nat) (zs : List Fil) (hd : b - mid ≤ d) (hd2 : mid - a ≤ d) (hm : mid ≤ b) (hb : b ≤ zs.length) (hs : Sz zs) (hN : N = zs.length) : Ans zs (t1 N (a : Int) (b : Int) (mid : Int) (start : Int) (en : Int) zs) := by
  unfold t1
  have h0 := t2_ok ih N b mid en zs hd hb hs hN
  by_cases h1 : a < start
  · rw [ifs_pos (by simp; omega)]
    by_cases h2 : start < mid
    · rw [ifs_pos (by simp; omega)]
      obtain ⟨z, e, f⟩ := ih a start mid N zs hd2 h1 h2 (by omega) hs hN
      rw [e, Option.bind_some]
      exact (t2_ok ih N b mid en z hd (by rw [f.1]; exact hb) (f.sz hs) (by rw [f.1]; exact hN)).from f
    · rw [ifs_neg (by simp; omega)]; exact h0
  · rw [ifs_neg (by simp; omega)]; exact h0
theorem mid_loop {D : Nat} (ih : SymH D) (a m b mid n : Nat) (ys : List Fil) (hs : Sz ys) (hb : b ≤ ys.length) (hd : b - mid ≤ D) (hd2 : mid - a ≤ D) (hm : mid ≤ b) (hn : n = mid + m) (hmb : m < b) (lo hi : Nat) (hlo : n ≤ b + lo) (hhi : hi ≤ n) (hh : hi ≤ b) :
    ∀ (d start r : Nat), r - start ≤ d → lo ≤ start → start ≤ r → r ≤ hi → Ans ys (l123_33 ys.length (a : Int) (m : Int) (b : Int) (mid : Int) (n : Int) (start : Int) (r : Int) ((n : Int) - 1) ys) := by
  have h100 := hs.2
  intro d
  induction d with
  | zero =>
    intro start r h1 h2 h3 h4
    have hend : IntKind.i64.wrap ((n : Int) - (start : Int)) = ((n - start : Nat) : Int) := by rw [wr _ (by omega)]; omega
    have hT := t1_ok ih ys.length a b mid start (n - start) ys hd hd2 hm hb hs rfl
    suffices hR : Ans ys (ifs (decide ((start : Int) < (m : Int)) = true) (ifs (decide ((m : Int) < IntKind.i64.wrap ((n : Int) - (start : Int))) = true)
        (Option.bind (cR2 144 [] [inpF] [A.c (C.ow 0 ys.length), inj (.int .i64) (start : Int), inj (.int .i64) (m : Int), inj (.int .i64) (IntKind.i64.wrap ((n : Int) - (start : Int))), A.c (C.cl 45 []), inj inpF ((), ys)]) fun r => t1 ys.length (a : Int) (b : Int) (mid : Int) (start : Int) (IntKind.i64.wrap ((n : Int) - (start : Int))) r.2.2)
        (t1 ys.length (a : Int) (b : Int) (mid : Int) (start : Int) (IntKind.i64.wrap ((n : Int) - (start : Int))) ys)) (t1 ys.length (a : Int) (b : Int) (mid : Int) (start : Int) (IntKind.i64.wrap ((n : Int) - (start : Int))) ys)) by
      obtain ⟨z, e, f⟩ := hR
      refine ⟨z, cutG_step ((q123_33 ..).trans ?_), f⟩
      rw [ifs_neg (by simp; omega)]
      exact e
    rw [hend]
    by_cases c1 : start < m
    · rw [ifs_pos (by simp; omega)]
      by_cases c2 : m < n - start
      · rw [ifs_pos (by simp; omega)]
        obtain ⟨z, e, f⟩ := rotat_ok start m (n - start) ys.length ys rfl c1 c2 (by omega) hs.2
        rw [e, Option.bind_some]
        have := t1_ok ih ys.length a b mid start (n - start) z hd hd2 hm (by rw [f.1]; exact hb) (f.sz hs) f.1.symm
        exact this.from f
      · rw [ifs_neg (by simp; omega)]; exact hT
    · rw [ifs_neg (by simp; omega)]; exact hT
  | succ d ihd =>
    intro start r h1 h2 h3 h4
    by_cases hlt : start < r
    · have hmid := mid_ok start r (by omega)
      have hc1 : (start + r) / 2 < r := by omega
      have hc2 : start ≤ (start + r) / 2 := by omega
      have e1 : IntKind.i64.wrap ((((start + r) / 2 : Nat) : Int) + 1) = (((start + r) / 2 + 1 : Nat) : Int) := by rw [wr _ (by omega)]; omega
      have e2 : IntKind.i64.wrap (((n : Int) - 1) - (((start + r) / 2 : Nat) : Int)) = ((n - 1 - (start + r) / 2 : Nat) : Int) := by rw [wr _ (by omega)]; omega
      have r1 := ihd ((start + r) / 2 + 1) r (by omega) (by omega) (by omega) h4
      have r2 := ihd start ((start + r) / 2) (by omega) h2 (by omega) (by omega)
      have hm1 : ys[n - 1 - (start + r) / 2]'(by omega) ∈ ys := List.getElem_mem _
      have hm2 : ys[(start + r) / 2]'(by omega) ∈ ys := List.getElem_mem _
      by_cases hc : ordP (ys[n - 1 - (start + r) / 2]'(by omega)).1 (ys[(start + r) / 2]'(by omega)).1 < 0
      · obtain ⟨z, e, f⟩ := r2
        refine ⟨z, cutG_step ((q123_33 ..).trans ?_), f⟩
        rw [ifs_pos (by simp; omega), hmid, e2, ifs_pos (by omega), Int.toNat_natCast, at_ok (by omega), ifs_pos (by omega), Int.toNat_natCast, at_ok (by omega), torder_ok _ _ (hs.1 _ hm1) (hs.1 _ hm2), Option.bind_some, ifs_neg (by simpa using hc)]
        exact e
      · obtain ⟨z, e, f⟩ := r1
        refine ⟨z, cutG_step ((q123_33 ..).trans ?_), f⟩
        rw [ifs_pos (by simp; omega), hmid, e2, ifs_pos (by omega), Int.toNat_natCast, at_ok (by omega), ifs_pos (by omega), Int.toNat_natCast, at_ok (by omega), torder_ok _ _ (hs.1 _ hm1) (hs.1 _ hm2), Option.bind_some, ifs_pos (by simpa using hc), e1]
        exact e
    · have hz := h3
      have hsr : start = r := by omega
      -- as at the end
      have hend : IntKind.i64.wrap ((n : Int) - (start : Int)) = ((n - start : Nat) : Int) := by rw [wr _ (by omega)]; omega
      have hT := t1_ok ih ys.length a b mid start (n - start) ys hd hd2 hm hb hs rfl
      suffices hR : Ans ys (ifs (decide ((start : Int) < (m : Int)) = true) (ifs (decide ((m : Int) < IntKind.i64.wrap ((n : Int) - (start : Int))) = true)
          (Option.bind (cR2 144 [] [inpF] [A.c (C.ow 0 ys.length), inj (.int .i64) (start : Int), inj (.int .i64) (m : Int), inj (.int .i64) (IntKind.i64.wrap ((n : Int) - (start : Int))), A.c (C.cl 45 []), inj inpF ((), ys)]) fun r => t1 ys.length (a : Int) (b : Int) (mid : Int) (start : Int) (IntKind.i64.wrap ((n : Int) - (start : Int))) r.2.2)
          (t1 ys.length (a : Int) (b : Int) (mid : Int) (start : Int) (IntKind.i64.wrap ((n : Int) - (start : Int))) ys)) (t1 ys.length (a : Int) (b : Int) (mid : Int) (start : Int) (IntKind.i64.wrap ((n : Int) - (start : Int))) ys)) by
        obtain ⟨z, e, f⟩ := hR
        refine ⟨z, cutG_step ((q123_33 ..).trans ?_), f⟩
        rw [ifs_neg (by simp; omega)]
        exact e
      rw [hend]
      by_cases c1 : start < m
      · rw [ifs_pos (by simp; omega)]
        by_cases c2 : m < n - start
        · rw [ifs_pos (by simp; omega)]
          obtain ⟨z, e, f⟩ := rotat_ok start m (n - start) ys.length ys rfl c1 c2 (by omega) hs.2
          rw [e, Option.bind_some]
          have := t1_ok ih ys.length a b mid start (n - start) z hd hd2 hm (by rw [f.1]; exact hb) (f.sz hs) f.1.symm
          exact this.from f
        · rw [ifs_neg (by simp; omega)]; exact hT
      · rw [ifs_neg (by simp; omega)]; exact hT
theorem symm_ok : ∀ d, SymH d
  | 0 => fun a m b N ys h1 h2 h3 => by omega
  | d + 1 => by
    intro a m b N ys hd ham hmb hb hs hN
    have ih := symm_ok d
    have h100 := hs.2
    subst hN
    suffices hR : ∃ o, callG W0 (callW W0) (cutW W0) 123 [A.c (C.ow (0 : Nat) (List.length ys)), inj (.int .i64) (a : Int), inj (.int .i64) (m : Int), inj (.int .i64) (b : Int), A.c (C.cl 45 []), A.ag [C.sl ty35 ys]] = o ∧ Ans ys o by
      obtain ⟨o, e, z, e2, f⟩ := hR
      exact ⟨z, callT2_of (e.trans e2), f⟩
    refine ⟨_, e123 .., ?_⟩
    have e1 : IntKind.i64.wrap ((m : Int) - (a : Int)) = ((m - a : Nat) : Int) := by rw [wr _ (by omega)]; omega
    have e2 : IntKind.i64.wrap ((b : Int) - (m : Int)) = ((b - m : Nat) : Int) := by rw [wr _ (by omega)]; omega
    rw [e1, e2]
    by_cases c1 : m - a = 1
    · rw [ifs_pos (by simp; omega)]
      exact bin1_loop a ys hs (by omega) _ m b (Nat.le_refl _) (by omega) hb
    · rw [ifs_neg (by simp; omega)]
      by_cases c2 : b - m = 1
      · rw [ifs_pos (by simp; omega)]
        exact bin2_loop m ys hs (by omega) _ a m (Nat.le_refl _) (by omega) (by omega)
      · rw [ifs_neg (by simp; omega), mid_ok a b (by omega)]
        generalize hmid : (a + b) / 2 = mid
        have e3 : IntKind.i64.wrap ((mid : Int) + (m : Int)) = ((mid + m : Nat) : Int) := by rw [wr _ (by omega)]; omega
        have e4 : IntKind.i64.wrap (((mid + m : Nat) : Int) - 1) = ((mid + m : Nat) : Int) - 1 := wr _ (by omega)
        have e5 : m > mid → IntKind.i64.wrap (((mid + m : Nat) : Int) - (b : Int)) = ((mid + m - b : Nat) : Int) := fun h => by rw [wr _ (by omega)]; omega
        rw [e3, e4]
        by_cases c3 : m > mid
        · rw [ifs_pos (by simp; omega), e5 c3]
          exact mid_loop ih a m b mid (mid + m) ys hs hb (by omega) (by omega) (by omega) rfl hmb (mid + m - b) mid (by omega) (by omega) (by omega) _ _ _ (Nat.le_refl _) (Nat.le_refl _) (by omega) (Nat.le_refl _)
        · rw [ifs_neg (by simp; omega)]
          exact mid_loop ih a m b mid (mid + m) ys hs hb (by omega) (by omega) (by omega) rfl hmb a m (by omega) (by omega) (by omega) _ _ _ (Nat.le_refl _) (Nat.le_refl _) (by omega) (Nat.le_refl _)

/-! ### All blocks -/
theorem stab7_loop : ∀ (d bs : Nat) (ys : List Fil), ys.length - bs ≤ d → 0 < bs → bs ≤ 200000 → Sz ys → Ans ys (l85_7 ys.length (ys.length : Int) (bs : Int) ys)
  | 0, bs, ys, hd, h0, hb, hs => by
    refine ⟨ys, cutG_step ((q85_7 ..).trans ?_), .refl _⟩
    rw [ifs_neg (by simp; omega)]
  | d + 1, bs, ys, hd, h0, hb, hs => by
    have h100 := hs.2
    by_cases hlt : bs < ys.length
    · have inner : ∀ (e a : Nat) (zs : List Fil), zs.length - a ≤ e → zs.length = ys.length → Sz zs → a ≤ zs.length → Ans zs (l85_9 ys.length (ys.length : Int) (bs : Int) (a : Int) ((a + 2 * bs : Nat) : Int) zs) := by
        intro e
        induction e with
        | zero =>
          intro a zs he hz hsz ha
          have e1 : IntKind.i64.wrap ((a : Int) + (bs : Int)) = ((a + bs : Nat) : Int) := by rw [wr _ (by omega)]; omega
          have e2 : IntKind.i64.wrap ((bs : Int) * 2) = ((2 * bs : Nat) : Int) := by rw [wr _ (by omega)]; omega
          obtain ⟨z, h1, h2⟩ := stab7_loop d (2 * bs) zs (by omega) (by omega) (by omega) hsz
          refine ⟨z, cutG_step ((q85_9 ..).trans ?_), h2⟩
          rw [ifs_neg (by simp; omega), e1, ifs_neg (by simp; omega), e2]
          rw [hz] at h1; exact h1
        | succ e ihe =>
          intro a zs he hz hsz ha
          have e1 : IntKind.i64.wrap ((a : Int) + (bs : Int)) = ((a + bs : Nat) : Int) := by rw [wr _ (by omega)]; omega
          have e2 : IntKind.i64.wrap ((bs : Int) * 2) = ((2 * bs : Nat) : Int) := by rw [wr _ (by omega)]; omega
          have e3 : IntKind.i64.wrap ((2 : Int) * (bs : Int)) = ((2 * bs : Nat) : Int) := by rw [wr _ (by omega)]; omega
          by_cases c : a + 2 * bs ≤ ys.length
          · obtain ⟨z, h1, h2⟩ := symm_ok _ a (a + bs) (a + 2 * bs) ys.length zs (Nat.le_refl _) (by omega) (by omega) (by omega) hsz hz.symm
            obtain ⟨z2, h3, h4⟩ := ihe (a + 2 * bs) z (by rw [h2.1]; omega) (by rw [h2.1]; exact hz) (h2.sz hsz) (by rw [h2.1]; omega)
            have e4 : IntKind.i64.wrap (((a + 2 * bs : Nat) : Int) + ((2 * bs : Nat) : Int)) = ((a + 2 * bs + 2 * bs : Nat) : Int) := by rw [wr _ (by omega)]; omega
            refine ⟨z2, cutG_step ((q85_9 ..).trans ?_), h2.trans h4⟩
            have h1' := h1
            unfold symC at h1'
            rw [ifs_pos (by simp; omega), e1, h1', Option.bind_some, e3, e4]
            exact h3
          · by_cases c2 : a + bs < ys.length
            · obtain ⟨z, h1, h2⟩ := symm_ok _ a (a + bs) ys.length ys.length zs (Nat.le_refl _) (by omega) (by omega) (by omega) hsz hz.symm
              obtain ⟨z2, h3, h4⟩ := stab7_loop d (2 * bs) z (by rw [h2.1]; omega) (by omega) (by omega) (h2.sz hsz)
              refine ⟨z2, cutG_step ((q85_9 ..).trans ?_), h2.trans h4⟩
              have h1' := h1
              unfold symC at h1'
              rw [ifs_neg (by simp; omega), e1, ifs_pos (by simp; omega), h1', Option.bind_some, e2]
              rw [h2.1, hz] at h3; exact h3
            · obtain ⟨z, h1, h2⟩ := stab7_loop d (2 * bs) zs (by omega) (by omega) (by omega) hsz
              refine ⟨z, cutG_step ((q85_9 ..).trans ?_), h2⟩
              rw [ifs_neg (by simp; omega), e1, ifs_neg (by simp; omega), e2]
              rw [hz] at h1; exact h1
      obtain ⟨z, h1, h2⟩ := inner _ 0 ys (Nat.le_refl _) rfl hs (Nat.zero_le _)
      refine ⟨z, cutG_step ((q85_7 ..).trans ?_), h2⟩
      have e3 : IntKind.i64.wrap ((2 : Int) * (bs : Int)) = ((2 * bs : Nat) : Int) := by rw [wr _ (by omega)]; omega
      rw [ifs_pos (by simp; omega), e3]
      rw [Nat.zero_add] at h1
      exact h1
    · refine ⟨ys, cutG_step ((q85_7 ..).trans ?_), .refl _⟩
      rw [ifs_neg (by simp; omega)]
theorem stab2_loop : ∀ (d a : Nat) (ys : List Fil), ys.length - a ≤ d → a ≤ ys.length → Sz ys → Ans ys (l85_2 ys.length (ys.length : Int) 20 (a : Int) ((a + 20 : Nat) : Int) ys)
  | 0, a, ys, hd, ha, hs => by
    have h100 := hs.2
    obtain ⟨z, h1, h2⟩ := inss_ok a ys.length ys.length ys rfl (by omega) (Nat.le_refl _) hs
    obtain ⟨z2, h3, h4⟩ := stab7_loop _ 20 z (Nat.le_refl _) (by omega) (by omega) (h2.sz hs)
    refine ⟨z2, cutG_step ((q85_2 ..).trans ?_), h2.trans h4⟩
    rw [ifs_neg (by simp; omega), h1, Option.bind_some]
    rw [h2.1] at h3; exact h3
  | d + 1, a, ys, hd, ha, hs => by
    have h100 := hs.2
    by_cases c : a + 20 ≤ ys.length
    · obtain ⟨z, h1, h2⟩ := inss_ok a (a + 20) ys.length ys rfl (by omega) c hs
      obtain ⟨z2, h3, h4⟩ := stab2_loop d (a + 20) z (by rw [h2.1]; omega) (by rw [h2.1]; exact c) (h2.sz hs)
      refine ⟨z2, cutG_step ((q85_2 ..).trans ?_), h2.trans h4⟩
      have e4 : IntKind.i64.wrap (((a + 20 : Nat) : Int) + 20) = ((a + 20 + 20 : Nat) : Int) := by rw [wr _ (by omega)]; omega
      rw [ifs_pos (by simp; omega), h1, Option.bind_some, e4]
      rw [h2.1] at h3; exact h3
    · obtain ⟨z, h1, h2⟩ := inss_ok a ys.length ys.length ys rfl (by omega) (Nat.le_refl _) hs
      obtain ⟨z2, h3, h4⟩ := stab7_loop _ 20 z (Nat.le_refl _) (by omega) (by omega) (h2.sz hs)
      refine ⟨z2, cutG_step ((q85_2 ..).trans ?_), h2.trans h4⟩
      rw [ifs_neg (by simp; omega), h1, Option.bind_some]
      rw [h2.1] at h3; exact h3
theorem sortst_ok (ys : List Fil) (hs : Sz ys) : Ans2 ys (cR2 44 [] [inpF] [A.c (C.ow 0 ys.length), A.c (C.cl 45 []), inj inpF ((), ys)]) := by
  obtain ⟨z, h1, h2⟩ := stab2_loop _ 0 ys (Nat.le_refl _) (Nat.zero_le _) hs
  refine ⟨z, callT2_of ((e44 ..).trans ?_), h2⟩
  have h3 : cR2 85 [] [inpF] [A.c (C.ow 0 ys.length), inj (.int .i64) ((ys.length : Nat) : Int), A.c (C.cl 45 []), inj inpF ((), ys)] = some ((), ((), z)) := callT2_of ((e85 ..).trans h1)
  rw [h3, Option.bind_some]
  rfl

/-! ### tree.Of -/
theorem gd_nil (n : Nat) : Gd [] n := ⟨⟨List.Pairwise.nil, (fun f hf => (by cases hf)), Nat.zero_le _⟩, Nat.zero_le _, (fun f hf => (by cases hf))⟩
theorem dirs_nil : Dirs [] := fun f hf => (by cases hf)
def comeP (l : List Fil) (f : Fil) : List Fil × Int :=
  if rightP f.1 = false then ([], 8) else if hasP l f.1 = true then ([], 10) else if dirB l (upP f.1) = false then ([], 9) else if checkL f.2.2 ≠ 0 then ([], checkL f.2.2) else if f.2.1 = true ∧ f.2.2 ≠ [] then ([], 6) else (put l f, 0)
theorem come_ok (l : List Fil) (hl : Tk l) (f : Fil) (hf : f.1.size ≤ 100000) (hls : LOk f.2.2) : cR 46 [RT.d ty31, RT.d (.int .i64)] [inj ty31 (l, ()), inj ty35 f] = some (((comeP l f).1, ()), (comeP l f).2) := by
  refine callT_of ((e46 (l, ()) f).trans ?_)
  have hu : (upP f.1).size ≤ 10000 := joinN_up_size f.1
  rw [pright_ok _ hf, Option.bind_some]
  unfold comeP
  cases hr : rightP f.1 with
  | false => rw [ifs_pos (by rfl), if_pos rfl]
  | true =>
    rw [ifs_neg (by simp), if_neg (by simp), get_ok l hl _ hf, Option.bind_some, lcheck_ok _ hls, Option.bind_some, getP_snd]
    cases hh : hasP l f.1 with
    | true => rw [ifs_pos rfl, if_pos rfl]
    | false =>
      rw [ifs_neg (by simp), if_neg (by simp), pdir_ok _ hf, Option.bind_some, tdir_ok l hl _ (by omega), Option.bind_some]
      cases hd : dirB l (upP f.1) with
      | false => rw [ifs_pos (by rfl), if_pos rfl]
      | true =>
        rw [ifs_neg (by simp), if_neg (by simp)]
        by_cases hc : checkL f.2.2 = 0
        · rw [ifs_neg (by simp [hc]), if_neg (by simp [hc])]
          obtain ⟨h1, h2⟩ := checkL_LOk hc
          have hw := with_ok l hl f ⟨hr, h1, by omega⟩
          cases hk : f.2.1 with
          | false => rw [ifs_neg (by simp), if_neg (by simp), hw, Option.bind_some]
          | true =>
            rw [ifs_pos rfl, lenpos]
            by_cases h0 : f.2.2 = []
            · rw [ifs_neg (by simp [h0]), if_neg (by simp [h0]), hw, Option.bind_some]
            · rw [ifs_pos (by simpa using h0), if_pos ⟨rfl, h0⟩]
        · rw [ifs_pos (by simpa using hc), if_pos hc]
theorem come_keeps {l : List Fil} {n : Nat} (h : Gd l n) (hd : Dirs l) (hn : n ≤ 900) (f : Fil) : ((comeP l f).2 ≠ 0 → (comeP l f).1 = []) ∧ Gd (comeP l f).1 (n + 1) ∧ Dirs (comeP l f).1 ∧ ∀ g ∈ (comeP l f).1, g = f ∨ g ∈ l := by
  have nil : ∀ k : Int, k ≠ 0 → (((([] : List Fil), k).2 ≠ 0 → (([] : List Fil), k).1 = []) ∧ Gd ([] : List Fil) (n + 1) ∧ Dirs ([] : List Fil) ∧ ∀ g ∈ ([] : List Fil), g = f ∨ g ∈ l) := fun k hk =>
    ⟨fun _ => rfl, gd_nil _, dirs_nil, fun g hg => (by cases hg)⟩
  unfold comeP
  split
  · exact nil 8 (by decide)
  · rename_i c1
    split
    · exact nil 10 (by decide)
    · rename_i c2
      split
      · exact nil 9 (by decide)
      · rename_i c3
        split
        · rename_i c4; exact nil _ c4
        · rename_i c4
          split
          · exact nil 6 (by decide)
          · have hr : rightP f.1 = true := by simpa using c1
            refine ⟨fun h => absurd rfl h, gd_put h hr (by simpa using c4) hn, dirs_put hd hr (dir_get h.tk.s (by simpa using c3)) (fun g hg e _ => ?_), fun g hg => ?_⟩
            · exact absurd ((hasP_mem h.tk.s).2 ⟨g, hg, e⟩) c2
            · rcases mem_put.1 hg with e | ⟨e, _⟩
              · exact .inl e
              · exact .inr e
def OfOk (xs : List Fil) (o : Option (dens [RT.d ty31, RT.d (.int .i64)])) : Prop :=
  ∃ (t : List Fil) (e : Int), o = some ((t, ()), e) ∧ Gd t xs.length ∧ Dirs t ∧ ∀ g ∈ t, g ∈ xs
theorem of_loop (xs : List Fil) (hx : ∀ f ∈ xs, f.1.size ≤ 100000 ∧ LOk f.2.2) (hn : xs.length ≤ 500) : ∀ (i : Nat), i ≤ xs.length → ∀ t : List Fil, Gd t i → Dirs t → (∀ g ∈ t, g ∈ xs) →
    ∃ (t' : List Fil) (e : Int), l13_7v1 xs.length (xs.length : Int) (i : Int) t xs = some (injRs [RT.d ty31, RT.d (.int .i64)] ((t', ()), e)) ∧ Gd t' xs.length ∧ Dirs t' ∧ ∀ g ∈ t', g ∈ xs := by
  refine upTo (C := fun i => ∀ t : List Fil, Gd t i → Dirs t → (∀ g ∈ t, g ∈ xs) → ∃ (t' : List Fil) (e : Int), l13_7v1 xs.length (xs.length : Int) (i : Int) t xs = some (injRs [RT.d ty31, RT.d (.int .i64)] ((t', ()), e)) ∧ Gd t' xs.length ∧ Dirs t' ∧ ∀ g ∈ t', g ∈ xs) (fun i hi ih t hg hd hm => ?_) (fun t hg hd hm => ?_)
  · have hf := hx _ (List.getElem_mem hi)
    obtain ⟨k1, k2, k3, k4⟩ := come_keeps hg hd (by omega) xs[i]
    have e3 : IntKind.i64.wrap ((i : Int) + 1) = ((i + 1 : Nat) : Int) := by rw [wr _ (by omega)]; omega
    by_cases h0 : (comeP t xs[i]).2 = 0
    · obtain ⟨t', e, h1, h2⟩ := ih _ k2 k3 (fun g hg' => by
        rcases k4 g hg' with h | h
        · rw [h]; exact List.getElem_mem hi
        · exact hm g h)
      refine ⟨t', e, cutG_step ((q13_7v1 ..).trans ?_), h2⟩
      rw [ifs_pos (by simp; omega), ifs_pos (by omega), Int.toNat_natCast, at_ok hi, come_ok t hg.tk _ hf.1 hf.2, Option.bind_some, ifs_neg (by simp [h0]), e3]
      exact h1
    · refine ⟨[], (comeP t xs[i]).2, cutG_step ((q13_7v1 ..).trans ?_), (k1 h0 ▸ k2).weak (by omega), k1 h0 ▸ k3, fun g hg => (by cases hg)⟩
      rw [ifs_pos (by simp; omega), ifs_pos (by omega), Int.toNat_natCast, at_ok hi, come_ok t hg.tk _ hf.1 hf.2, Option.bind_some, ifs_pos (by simp [h0])]
  · refine ⟨t, 0, cutG_step ((q13_7v1 ..).trans ?_), hg, hd, hm⟩
    rw [ifs_neg (by simp)]
theorem tof_ok (l : List Fil) (hl : ∀ f ∈ l, f.1.size ≤ 100000 ∧ LOk f.2.2) (hn : l.length ≤ 500) : OfOk l (cR 13 [RT.d ty31, RT.d (.int .i64)] [inj (.sl ty35) l]) := by
  obtain ⟨z, h1, h2⟩ := sortst_ok l ⟨fun f hf => (hl f hf).1, by omega⟩
  have hz : ∀ f ∈ z, f.1.size ≤ 100000 ∧ LOk f.2.2 := fun f hf => hl f (h2.2 f hf)
  have g0 := gd_nil 0
  have d0 := dirs_nil
  suffices hR : ∃ (t' : List Fil) (e : Int), l13_7 l.length (l.length : Int) 0 z = some (injRs [RT.d ty31, RT.d (.int .i64)] ((t', ()), e)) ∧ Gd t' l.length ∧ Dirs t' ∧ ∀ g ∈ t', g ∈ l by
    obtain ⟨t, e, k1, k2⟩ := hR
    refine ⟨t, e, callT_of ((e13 l).trans ?_), k2⟩
    rw [ifs_neg (by simp; omega), clonef_ok l (by omega), Option.bind_some, h1, Option.bind_some]
    exact k1
  rw [← h2.1]
  cases hzl : z with
  | nil =>
    refine ⟨[], 0, cutG_step ((q13_7 ..).trans ?_), g0, d0, fun g hg => (by cases hg)⟩
    rw [ifs_neg (by simp)]
  | cons a r =>
    rw [← hzl]
    have hpos : 0 < z.length := by rw [hzl]; simp
    have hf := hz _ (List.getElem_mem hpos)
    obtain ⟨k1, k2, k3, k4⟩ := come_keeps g0 d0 (by omega) z[0]
    have e3 : IntKind.i64.wrap ((0 : Int) + 1) = ((0 + 1 : Nat) : Int) := by rw [wr _ (by omega)]; omega
    by_cases h0 : (comeP [] z[0]).2 = 0
    · obtain ⟨t', e, m1, m2, m3, m4⟩ := of_loop z hz (by rw [h2.1]; exact hn) 1 hpos _ k2 k3 (fun g hg' => by
        rcases k4 g hg' with h | h
        · rw [h]; exact List.getElem_mem hpos
        · cases h)
      refine ⟨t', e, cutG_step ((q13_7 ..).trans ?_), m2, m3, fun g hg => h2.2 g (m4 g hg)⟩
      rw [ifs_pos (by simp; omega), ifs_pos (by omega), show Int.toNat 0 = 0 from rfl, at_ok hpos, come_ok [] g0.tk _ hf.1 hf.2, Option.bind_some, ifs_neg (by simp [h0]), e3]
      exact m1
    · refine ⟨[], (comeP [] z[0]).2, cutG_step ((q13_7 ..).trans ?_), (k1 h0 ▸ k2).weak (by omega), k1 h0 ▸ k3, fun g hg => (by cases hg)⟩
      rw [ifs_pos (by simp; omega), ifs_pos (by omega), show Int.toNat 0 = 0 from rfl, at_ok hpos, come_ok [] g0.tk _ hf.1 hf.2, Option.bind_some, ifs_pos (by simp [h0])]

end Go.Proofs.YtabhngbpkfdeiaaGreatDoor.Sp
end
section
/- Two steps that change places come to the same map. Conditions: the steps may be, and the lengths as they stand in each statement. -/
set_option linter.unusedVariables false
set_option linter.unusedSimpArgs false
namespace Go.Proofs.YtabhngbpkfdeiaaGreatDoor.Sp
open Go Go.Proofs.YtabhngbpkfdeiaaGreatDoor.Ab Go.Proofs.YtabhngbpkfdeiaaGreatDoor.Tb Go.Proofs.YtabhngbpkfdeiaaGreatDoor.EText

theorem apart_spec {p q : Prm} (h : apartB p q = true) : (chk p = 0 ∧ chk q = 0) ∧ ∀ a ∈ touchesL p, ∀ b ∈ touchesL q, a ≠ b ∧ aboveB q a = false ∧ aboveB p b = false := by
  unfold apartB at h
  simp only [Bool.and_eq_true, decide_eq_true_eq, Bool.not_eq_true', List.any_eq_false, Bool.or_eq_true, not_or] at h
  obtain ⟨h1, h2, h3, h4⟩ := h
  have hc : ∀ r : Prm, touchesL r ≠ [] → chk r = 0 := fun r hr => by
    unfold touchesL at hr
    by_cases hc : chk r = 0
    · exact hc
    · rw [if_pos hc] at hr; exact absurd rfl hr
  refine ⟨⟨hc p h1, hc q h2⟩, fun a ha b hb => ⟨fun e => ?_, ?_, ?_⟩⟩
  · have h5 := (h3 a ha).1
    rw [Bool.not_eq_true, List.any_eq_false] at h5
    have := h5 b hb
    simp [e] at this
  · have := (h3 a ha).2
    simpa using this
  · have := h4 b hb
    simpa using this
/-! ### What a step leaves as it is, and what it asks -/
theorem stp5 {p : Prm} (k : p.1 = 5) {m m' : Mp} (h : Stp p m m') : ∃ ls, m p.2.1 = some (false, ls) ∧ m p.2.2.1 = none ∧ dirM m (upP p.2.2.1) ∧ m' = upd (upd m p.2.1 none) p.2.2.1 (some (false, ls)) := by
  rcases h with ⟨k', _⟩ | ⟨k', _⟩ | ⟨k', _⟩ | ⟨k', _⟩ | ⟨_, h⟩ | ⟨k', _⟩
  · omega
  · omega
  · omega
  · omega
  · exact h
  · omega
theorem stp6 {p : Prm} (k : p.1 = 6) {m m' : Mp} (h : Stp p m m') : ∃ ls ls', m p.2.1 = some (false, ls) ∧ Hnk ls p ls' ∧ m' = upd m p.2.1 (some (false, ls')) := by
  rcases h with ⟨k', _⟩ | ⟨k', _⟩ | ⟨k', _⟩ | ⟨k', _⟩ | ⟨k', _⟩ | ⟨_, h⟩
  · omega
  · omega
  · omega
  · omega
  · omega
  · exact h

/-! ### Two hunks of one file -/
theorem split2 {α : Type} {a b c d : List α} (h : a ++ b = c ++ d) (hl : a.length ≤ c.length) : ∃ e, c = a ++ e ∧ b = e ++ d := by
  rcases List.append_eq_append_iff.1 h with ⟨e, h1, h2⟩ | ⟨e, h1, h2⟩
  · exact ⟨e, h1, h2⟩
  · have : e = [] := by
      rw [h1, List.length_append] at hl
      exact List.eq_nil_of_length_eq_zero (by omega)
    subst this
    exact ⟨[], by simp [h1], by simpa using h2.symm⟩
end Go.Proofs.YtabhngbpkfdeiaaGreatDoor.Sp
end
section
/- Steps that pass rows, in plain words. No condition: these are definitions. -/
namespace Go.Proofs.YtabhngbpkfdeiaaGreatDoor.Sp
open Go Go.Proofs.YtabhngbpkfdeiaaGreatDoor.Ab Go.Proofs.YtabhngbpkfdeiaaGreatDoor.Tb Go.Proofs.YtabhngbpkfdeiaaGreatDoor.EText

end Go.Proofs.YtabhngbpkfdeiaaGreatDoor.Sp
end
section
/- Rows of steps on maps; rows that change places, and a step that comes to the front, come to the same map. Conditions: the lengths as they stand in each statement. -/
set_option linter.unusedVariables false
set_option linter.unusedSimpArgs false
namespace Go.Proofs.YtabhngbpkfdeiaaGreatDoor.Sp
open Go Go.Proofs.YtabhngbpkfdeiaaGreatDoor.Ab Go.Proofs.YtabhngbpkfdeiaaGreatDoor.Tb Go.Proofs.YtabhngbpkfdeiaaGreatDoor.EText

/-- Files of at most so many lines, each of them right. -/
def Bm (m : Mp) (k : Nat) : Prop := ∀ x e, m x = some e → e.2.length ≤ k ∧ e.2.all lineB = true
theorem checkL_all {l : List Txt} (h : checkL l = 0) : l.all lineB = true := by
  unfold checkL at h
  split at h
  · cases h
  · split at h
    · rename_i h2; exact h2
    · cases h
theorem Bm.upd {m : Mp} {k : Nat} (h : Bm m k) (p : Txt) (v : Option En) (hv : ∀ e, v = some e → e.2.length ≤ k ∧ e.2.all lineB = true) : Bm (upd m p v) k := fun x e hx => by
  unfold Sp.upd at hx
  split at hx
  · exact hv e hx
  · exact h x e hx
theorem Bm.weak {m : Mp} {k j : Nat} (h : Bm m k) (hk : k ≤ j) : Bm m j := fun x e hx => ⟨Nat.le_trans (h x e hx).1 hk, (h x e hx).2⟩
/-! ### Rows done to files -/
def appsP : List Fil → List Prm → List Fil × Int
  | l, [] => (l, 0)
  | l, p :: s => if (applyP l p).2 ≠ 0 then ([], (applyP l p).2) else appsP (applyP l p).1 s
/-! ### Steps that change places -/
/-! ### Rows -/
end Go.Proofs.YtabhngbpkfdeiaaGreatDoor.Sp
end
section
/- Two steps that have changed places change back. Conditions: lengths and places as they stand in each statement. -/
set_option linter.unusedVariables false
set_option linter.unusedSimpArgs false
namespace Go.Proofs.YtabhngbpkfdeiaaGreatDoor.Sp
open Go Go.Proofs.YtabhngbpkfdeiaaGreatDoor.Ab Go.Proofs.YtabhngbpkfdeiaaGreatDoor.Tb Go.Proofs.YtabhngbpkfdeiaaGreatDoor.EText

end Go.Proofs.YtabhngbpkfdeiaaGreatDoor.Sp
end
section
/- prim.Apply and prim.All in plain words. Conditions: lengths as they stand in each statement. -/
set_option linter.unusedVariables false
set_option linter.unusedSimpArgs false
namespace Go.Proofs.YtabhngbpkfdeiaaGreatDoor.Sp
open Go Go.Proofs.YtabhngbpkfdeiaaGreatDoor.Ab Go.Proofs.YtabhngbpkfdeiaaGreatDoor.Tb Go.Proofs.YtabhngbpkfdeiaaGreatDoor.EText

abbrev hk (p : Prm) : Int × List Txt × List Txt := p.2.2.2
theorem dcheck1_ok (p : Prm) (h0 : 0 ≤ p.2.2.2.1) (h1 : p.2.2.2.2.1.length + p.2.2.2.2.2.length ≠ 0) (hm : Md p) : cR 131 [RT.d (.int .i64)] [inj (.sl ty43) [hk p]] = some 0 := by
  have e1 : IntKind.i64.wrap ((0 : Int) + 1) = 1 := wr _ (by omega)
  have e2 : IntKind.i64.wrap ((p.2.2.2.2.1.length : Int) + (p.2.2.2.2.2.length : Int)) = ((p.2.2.2.2.1.length + p.2.2.2.2.2.length : Nat) : Int) := by
    have := hm.old.1; have := hm.new.1
    rw [wr _ (by omega)]; omega
  have hend : l131_2 [hk p] [hk p] 1 1 = some (injRs [RT.d (.int .i64)] 0) := by
    refine cutG_step ((q131_2 ..).trans ?_)
    rw [ifs_neg (by simp)]
  have hst : l131_2 [hk p] [hk p] 1 0 = some (injRs [RT.d (.int .i64)] 0) := by
    refine cutG_step ((q131_2 ..).trans ?_)
    rw [ifs_pos (by simp), ifs_pos (by omega), show ([hk p] : List (Int × List Txt × List Txt))[Int.toNat 0]? = some (hk p) from rfl, Option.bind_some, ifs_pos (by simp; omega), e2, ifs_pos (by simp; omega), ifs_neg (by simp), e1]
    exact hend
  exact callT_of ((e131 [hk p]).trans hst)
theorem dapply1_ok (ls : List Txt) (p : Prm) (h0 : 0 ≤ p.2.2.2.1) (h1 : p.2.2.2.2.1.length + p.2.2.2.2.2.length ≠ 0) (hm : Md p) (hls : ls.length ≤ 100000) :
    cR 95 [RT.own 9 .str, RT.d (.int .i64)] [inj (.sl .str) ls, inj (.sl ty43) [hk p]] = some (match hdo ls p with | some x => (x, 0) | none => ([], 13)) := by
  have ho := hm.old.1
  have hw := hm.new.1
  have hw' : (hk p).2.2.length ≤ 1000000 := hw
  refine callT_of ((e95 ls [hk p]).trans ?_)
  rw [dcheck1_ok p h0 h1 hm, Option.bind_some, ifs_neg (by simp)]
  refine cutG_step ((q95_7 ..).trans ?_)
  rw [ifs_pos (by simp), ifs_pos (by omega), show ([hk p] : List (Int × List Txt × List Txt))[Int.toNat 0]? = some (hk p) from rfl, Option.bind_some]
  obtain ⟨n, hn⟩ : ∃ n : Nat, p.2.2.2.1 = n := ⟨p.2.2.2.1.toNat, by omega⟩
  unfold hdo
  show ifs (decide (p.2.2.2.1 > (ls.length : Int)) = false) _ _ = _
  rw [hn, Int.toNat_natCast]
  by_cases c1 : n > ls.length
  · rw [ifs_neg (by simp; omega), if_neg (by omega)]
  · rw [ifs_pos (by simp; omega)]
    show ifs (decide ((p.2.2.2.2.1.length : Int) > IntKind.i64.wrap ((ls.length : Int) - (n : Int))) = false) _ _ = _
    have e1 : IntKind.i64.wrap ((ls.length : Int) - (n : Int)) = (ls.length : Int) - (n : Int) := wr _ (by omega)
    rw [e1]
    by_cases c2 : p.2.2.2.2.1.length > ls.length - n
    · rw [ifs_neg (by simp; omega), if_neg (by omega)]
    · rw [ifs_pos (by simp; omega)]
      have e2 : IntKind.i64.wrap ((n : Int) + (p.2.2.2.2.1.length : Int)) = ((n + p.2.2.2.2.1.length : Nat) : Int) := by rw [wr _ (by omega)]; omega
      simp only [e2]
      rw [ifs_pos (by omega), ifs_pos (by omega)]
      simp only [Int.toNat_natCast]
      rw [lsame_ok _ _ (by rw [List.length_drop, List.length_take]; have : (100000 : Nat) ≤ top := by decide
                           omega), Option.bind_some]
      have e3 : List.drop n (List.take (n + p.2.2.2.2.1.length) ls) = (ls.drop n).take p.2.2.2.2.1.length := by rw [List.drop_take]; congr 1; omega
      rw [e3]
      by_cases c3 : (ls.drop n).take p.2.2.2.2.1.length = p.2.2.2.2.1
      · rw [ifs_neg (by simp [c3]), ifs_pos (by omega), ifs_pos (by omega), if_pos ⟨by omega, c3⟩]
        have e4 : IntKind.i64.wrap ((0 : Int) + 1) = 1 := wr _ (by omega)
        rw [ifs_pos (by simp only [List.length_nil, List.length_drop, List.length_take]; omega), ifs_pos (by simp only [List.length_nil, List.length_drop, List.length_take, List.length_append]; omega), e4]
        refine cutG_step ((q95_7 ..).trans ?_)
        rw [ifs_neg (by simp), ifs_pos (by omega), ifs_pos (by omega)]
        rw [ifs_pos (by simp only [List.length_nil, List.length_drop, List.length_take, List.length_append, Int.toNat_natCast]; omega)]
        simp only [Int.toNat_natCast, List.take_length, List.take_nil, List.nil_append, Int.toNat_zero, List.drop_zero]
      · rw [ifs_pos (by simp [c3]), if_neg (by rintro ⟨_, h⟩; exact c3 h)]
theorem pgone_ok (l : List Fil) (hl : Tk l) (p : Txt) (hp : p.size ≤ 100000) (d : Bool) : cR 50 [RT.d ty31, RT.d (.int .i64)] [inj ty31 (l, ()), inj .str p, inj .bool d] = some (((goneP l p d).1, ()), (goneP l p d).2) := by
  refine callT_of ((e50 (l, ()) p d).trans ?_)
  rw [get_ok l hl p hp, Option.bind_some, getP_snd]
  unfold goneP
  cases hh : hasP l p with
  | false => rw [ifs_pos (by rfl), if_pos rfl]
  | true =>
    rw [ifs_neg (by simp), if_neg (by simp)]
    by_cases hd : (getP l p).1.2.1 = d
    · rw [ifs_neg (by simp [hd]), if_neg (by simp [hd]), lenpos]
      by_cases h0 : (getP l p).1.2.2 = []
      · rw [ifs_neg (by simp [h0]), if_neg (by simp [h0]), remove_ok l hl p hp, Option.bind_some]
      · rw [ifs_pos (by simpa using h0), if_pos h0]
    · rw [ifs_pos (by simpa using hd), if_pos hd]
theorem write2_ok (l : List Fil) (hl : Tk l) (p : Txt) (hp : p.size ≤ 100000) (ls : List Txt) (hls : LOk ls) : cR 53 [RT.d ty31, RT.d (.int .i64)] [inj ty31 (l, ()), inj .str p, inj (.sl .str) ls] = some (((wrP l p ls).1, ()), (wrP l p ls).2) := by
  refine callT_of ((e53 (l, ()) p ls).trans ?_)
  rw [pright_ok p hp, Option.bind_some, get_ok l hl p hp, Option.bind_some, getP_snd, room_ok l hl p hp, Option.bind_some, lcheck_ok ls hls, Option.bind_some]
  unfold wrP
  cases hr : rightP p with
  | false => rw [ifs_pos (by rfl), if_pos rfl]
  | true =>
    rw [ifs_neg (by simp), if_neg (by simp)]
    cases hd : (getP l p).1.2.1 with
    | true => rw [ifs_pos rfl, if_pos rfl]
    | false =>
      rw [ifs_neg (by simp), if_neg (by simp)]
      by_cases hc : checkL ls = 0
      · rw [ifs_neg (by simp [hc]), if_neg (by simp [hc])]
        have h2 := (checkL_LOk hc).2
        have hw := with_ok l hl (p, false, ls) ⟨hr, hls, (by show ls.length ≤ 3000; omega)⟩
        by_cases h0 : roomB l p = 0
        · rw [ifs_neg (by simp [h0]), if_neg (by simp [h0]), hw, Option.bind_some]
        · rw [ifs_pos (by simpa using h0)]
          cases hh : hasP l p with
          | false => rw [ifs_pos (by rfl), if_pos ⟨h0, rfl⟩]
          | true => rw [ifs_neg (by simp), if_neg (by simp), hw, Option.bind_some]
      · rw [ifs_pos (by simpa using hc), if_pos hc]
theorem hdo_LOk {ls x : List Txt} {p : Prm} (hm : Md p) (h : hdo ls p = some x) (hl : LOk ls) (hn : ls.length ≤ 100000) : LOk x := by
  unfold hdo at h
  split at h
  · cases h
    have := hm.new.1
    have ht : (10000000 : Nat) ≤ top := by decide
    refine ⟨by simp only [List.length_append, List.length_take, List.length_drop]; omega, fun s hs => ?_⟩
    rcases List.mem_append.1 hs with hs | hs
    · rcases List.mem_append.1 hs with hs | hs
      · exact hl.2 s (List.mem_of_mem_take hs)
      · exact hm.new.ok.2 s hs
    · exact hl.2 s (List.mem_of_mem_drop hs)
  · cases h
theorem phunk_ok (l : List Fil) (hl : Tk l) (p : Prm) (hm : Md p) (hc : chk p = 0) (k : p.1 = 6) : cR 52 [RT.d ty31, RT.d (.int .i64)] [inj ty31 (l, ()), inj ty40 p] = some (((hunkP l p).1, ()), (hunkP l p).2) := by
  have h6 := chk_hunk hc k
  refine callT_of ((e52 (l, ()) p).trans ?_)
  rw [get_ok l hl _ hm.path, Option.bind_some, getP_snd]
  unfold hunkP
  cases hh : hasP l p.2.1 with
  | false => rw [ifs_pos (by rfl), if_pos rfl]
  | true =>
    have hf := hl.f _ (getP_mem hh).1
    rw [ifs_neg (by simp), if_neg (by simp)]
    cases hd : (getP l p.2.1).1.2.1 with
    | true => rw [ifs_pos rfl, if_pos rfl]
    | false =>
      have hn := hf.n
      have ha := dapply1_ok (getP l p.2.1).1.2.2 p h6.1 h6.2.1 hm (by omega)
      rw [ifs_neg (by simp), if_neg (by simp)]
      refine (congrArg (fun o => Option.bind o _) ha).trans ?_
      rw [Option.bind_some]
      cases hx : hdo (getP l p.2.1).1.2.2 p with
      | none =>
        simp only
        rw [ifs_pos (by simp)]
      | some x =>
        simp only
        rw [ifs_neg (by simp), List.take_length, write2_ok l hl _ hm.path x (hdo_LOk hm hx hf.l (by omega)), Option.bind_some]
theorem papply_ok (l : List Fil) (hl : Tk l) (p : Prm) (hm : Md p) : cR 15 [RT.d ty31, RT.d (.int .i64)] [inj ty31 (l, ()), inj ty40 p] = some (((applyP l p).1, ()), (applyP l p).2) := by
  refine callT_of ((e15 (l, ()) p).trans ?_)
  rw [pcheck_ok p hm, Option.bind_some]
  unfold applyP
  by_cases hc : chk p = 0
  · rw [ifs_neg (by simp [hc]), if_neg (by simp [hc])]
    by_cases k1 : p.1 = 1
    · rw [ifs_pos (by simp [k1]), if_pos k1, mkdir_ok l hl _ hm.path, Option.bind_some]
    rw [ifs_neg (by simpa using k1), if_neg k1]
    by_cases k2 : p.1 = 2
    · rw [ifs_pos (by simp [k2]), if_pos (.inl k2), show (p.1 == (2 : Int)) = decide (p.1 = 2) from rfl, pgone_ok l hl _ hm.path, Option.bind_some]
    rw [ifs_neg (by simpa using k2)]
    by_cases k4 : p.1 = 4
    · rw [ifs_pos (by simp [k4]), if_pos (.inr k4), show (p.1 == (2 : Int)) = decide (p.1 = 2) from rfl, pgone_ok l hl _ hm.path, Option.bind_some]
    rw [ifs_neg (by simpa using k4), if_neg (by omega)]
    by_cases k5 : p.1 = 5
    · rw [ifs_pos (by simp [k5]), if_pos k5, move_ok l hl _ _ hm.path hm.dst, Option.bind_some]
    rw [ifs_neg (by simpa using k5), if_neg k5]
    by_cases k6 : p.1 = 6
    · rw [ifs_pos (by simp [k6]), if_pos k6, phunk_ok l hl p hm hc k6, Option.bind_some]
    rw [ifs_neg (by simpa using k6), if_neg k6, get_ok l hl _ hm.path, Option.bind_some, getP_snd]
    cases hh : hasP l p.2.1 with
    | true => rw [ifs_pos rfl, if_pos rfl]
    | false =>
      rw [ifs_neg (by simp), if_neg (by simp), write2_ok l hl _ hm.path [] ⟨Nat.zero_le _, fun s hs => (by cases hs)⟩, Option.bind_some]
  · rw [ifs_pos (by simpa using hc), if_pos hc]
theorem pall_loop (s : List Prm) (hs : ∀ p ∈ s, Md p) : ∀ (r : List Prm) (i : Nat) (l : List Fil) (n : Nat), s.drop i = r → i ≤ s.length → s.length ≤ 100000 → Gd l n → n + r.length < 500 →
    l21_2 s (s.length : Int) (i : Int) l = some (injRs [RT.d ty31, RT.d (.int .i64)] (((appsP l r).1, ()), (appsP l r).2))
  | [], i, l, n, hr, hi, h100, hg, hn => by
    have hlen := congrArg List.length hr
    rw [List.length_drop, List.length_nil] at hlen
    refine cutG_step ((q21_2 ..).trans ?_)
    rw [ifs_neg (by simp; omega)]
    rfl
  | p :: r, i, l, n, hr, hi, h100, hg, hn => by
    have hlen := congrArg List.length hr
    rw [List.length_drop, List.length_cons] at hlen
    rw [List.length_cons] at hn
    have hlt : i < s.length := by omega
    have hp : s[i] = p := by
      have := List.drop_eq_getElem_cons hlt
      rw [hr] at this
      exact (List.cons.inj this).1.symm
    have hr' : s.drop (i + 1) = r := by
      have := List.drop_eq_getElem_cons hlt
      rw [hr] at this
      exact (List.cons.inj this).2.symm
    have e3 : IntKind.i64.wrap ((i : Int) + 1) = ((i + 1 : Nat) : Int) := by rw [wr _ (by omega)]; omega
    have hpm : Md p := by rw [← hp]; exact hs _ (List.getElem_mem hlt)
    refine cutG_step ((q21_2 ..).trans ?_)
    rw [ifs_pos (by simp; omega), ifs_pos (by omega), Int.toNat_natCast, at_ok hlt, hp, papply_ok l hg.tk p hpm, Option.bind_some, e3]
    have e4 : appsP l (p :: r) = if (applyP l p).2 ≠ 0 then ([], (applyP l p).2) else appsP (applyP l p).1 r := rfl
    rw [e4]
    by_cases h0 : (applyP l p).2 = 0
    · obtain ⟨_, _, hg2⟩ := of_apply hg (by omega) (p := p) (l' := (applyP l p).1) (by rw [← h0])
      have c : ¬ (applyP l p).2 ≠ 0 := by simp [h0]
      rw [ifs_neg (by simp [h0])]
      simp only [if_neg c]
      exact pall_loop s hs r (i + 1) _ (n + 1) hr' (by omega) h100 hg2 (by omega)
    · have c : (applyP l p).2 ≠ 0 := h0
      rw [ifs_pos (by simp [h0])]
      simp only [if_pos c]
theorem pall_ok (l : List Fil) (s : List Prm) {n : Nat} (hg : Gd l n) (hn : n + s.length < 500) (hs : ∀ p ∈ s, Md p) : cR 21 [RT.d ty31, RT.d (.int .i64)] [inj ty31 (l, ()), inj (.sl ty40) s] = some (((appsP l s).1, ()), (appsP l s).2) :=
  callT_of ((e21 (l, ()) s).trans (pall_loop s hs s 0 l n rfl (Nat.zero_le _) (by omega) hg hn))
/-! ### tree.Same; light files -/
theorem tsame_ok (l : List Fil) (hl : l.length ≤ 100000) (hf : ∀ f ∈ l, f.2.2.length ≤ top) : cR 26 [RT.d .bool] [inj ty31 (l, ()), inj ty31 (l, ())] = some true := by
  have h1 : ∀ f ∈ l, cR 62 [RT.d .bool] [inj ty35 f, inj ty35 f] = some true := fun f hm => by
    refine callT_of ((e62 f f).trans ?_)
    rw [ifs_pos (by simp), ifs_pos (by simp), lsame_ok _ _ (hf f hm), Option.bind_some]
    simp
  have h2 : ∀ i, i ≤ l.length → l61_4 l l (l.length : Int) (i : Int) = some (injRs [RT.d .bool] true) := by
    refine upTo (C := fun i => l61_4 l l (l.length : Int) (i : Int) = some (injRs [RT.d .bool] true)) (fun i hi ih => ?_) ?_
    · refine cutG_step ((q61_4 ..).trans ?_)
      have e3 : IntKind.i64.wrap ((i : Int) + 1) = ((i + 1 : Nat) : Int) := by rw [wr _ (by omega)]; omega
      rw [ifs_pos (by simp; omega), ifs_pos (by omega), Int.toNat_natCast, at_ok hi, ifs_pos (by omega), at_ok hi, h1 _ (List.getElem_mem hi), Option.bind_some, ifs_neg (by simp), e3]
      exact ih
    · refine cutG_step ((q61_4 ..).trans ?_)
      rw [ifs_neg (by simp)]
  have h3 : cR 61 [RT.d .bool] [inj (.sl ty35) l, inj (.sl ty35) l, A.c (C.cl 62 [])] = some true := by
    refine callT_of ((e61 l l).trans ?_)
    rw [ifs_neg (by simp)]
    exact h2 0 (Nat.zero_le _)
  refine callT_of ((e26 (l, ()) (l, ())).trans ?_)
  rw [h3, Option.bind_some]
def FOk (f : Fil) : Prop := f.2.2.length ≤ top
def lightF (f : Fil) : Bool := decide (f.1.size ≤ 300) && light3 f.2.2
def light6 (l : List Fil) : Bool := l.all lightF && decide (l.length ≤ 40)
theorem light6_ok (l : List Fil) (hl : l.length ≤ top) (hf : ∀ f ∈ l, FOk f) : cR 19 [RT.d .bool] [inj (.sl ty35) l] = some (light6 l) := by
  have hlp : ∀ i, i ≤ l.length → l19_2 l (i : Int) = some (injRs [RT.d .bool] ((l.drop i).all lightF && decide (l.length ≤ 40))) := by
    refine upTo (C := fun i => l19_2 l (i : Int) = some (injRs [RT.d .bool] ((l.drop i).all lightF && decide (l.length ≤ 40)))) (fun i hi ih => ?_) ?_
    · refine cutG_step ((q19_2 ..).trans ?_)
      rw [List.drop_eq_getElem_cons hi, List.all_cons, ifs_pos (by simp; omega), ifs_pos (by omega), Int.toNat_natCast, at_ok hi, wrS hi hl, ih]
      unfold lightF
      by_cases h1 : l[i].1.size ≤ 300
      · rw [ifs_pos (by simp; omega), ifs_pos (by omega), at_ok hi, light3_ok _ (hf _ (List.getElem_mem hi)), Option.bind_some, decide_eq_true h1]
        cases light3 l[i].2.2 with
        | true => rw [ifs_neg (by simp)]; simp
        | false => rw [ifs_pos (by rfl)]; rfl
      · rw [ifs_neg (by simp; omega), decide_eq_false h1]; rfl
    · refine cutG_step ((q19_2 ..).trans ?_)
      rw [ifs_neg (by simp), List.drop_length, List.all_nil, Bool.true_and, show decide ((l.length : Int) ≤ 40) = decide (l.length ≤ 40) from decide_eq_decide.2 (by omega)]
  have := hlp 0 (Nat.zero_le _)
  rw [List.drop_zero] at this
  exact callT_of ((e19 l).trans this)
theorem light3_spec {l : List Txt} (h : light3 l = true) : l.length ≤ 60 ∧ ∀ s ∈ l, s.size ≤ 300 := by
  unfold light3 at h
  simp only [Bool.and_eq_true, List.all_eq_true, decide_eq_true_eq] at h
  exact ⟨h.2, h.1⟩
theorem light6_spec {l : List Fil} (h : light6 l = true) : l.length ≤ 40 ∧ ∀ f ∈ l, f.1.size ≤ 300 ∧ f.2.2.length ≤ 60 ∧ ∀ s ∈ f.2.2, s.size ≤ 300 := by
  unfold light6 at h
  simp only [Bool.and_eq_true, List.all_eq_true, decide_eq_true_eq] at h
  refine ⟨h.2, fun f hf => ?_⟩
  have := h.1 f hf
  unfold lightF at this
  simp only [Bool.and_eq_true, decide_eq_true_eq] at this
  exact ⟨this.1, light3_spec this.2⟩
theorem light_of {l : List Fil} (h : light6 l = true) : (∀ f ∈ l, f.1.size ≤ 100000 ∧ LOk f.2.2) ∧ l.length ≤ 40 := by
  obtain ⟨h1, h2⟩ := light6_spec h
  refine ⟨fun f hf => ?_, h1⟩
  obtain ⟨a, b, c⟩ := h2 f hf
  have ht : (300 : Nat) ≤ top := by decide
  exact ⟨by omega, ⟨by omega, fun s hs => by have := c s hs; omega⟩⟩
end Go.Proofs.YtabhngbpkfdeiaaGreatDoor.Sp
end
section
/- How a row of files, and a law's struct of them, stand in memory. No condition. -/
set_option linter.unusedVariables false
namespace Go.Proofs.YtabhngbpkfdeiaaGreatDoor.SpR
open Go Go.ChangeShapes Go.WideShapes Go.Proofs.YtabhngbpkfdeiaaGreatDoor.Ab Go.Proofs.YtabhngbpkfdeiaaGreatDoor.AbO Go.Proofs.YtabhngbpkfdeiaaGreatDoor.Tb
theorem c_file : Tryz.prog.cellsOf 35 = 3 := by kernel_rfl
theorem c_bool : Tryz.prog.cellsOf 4 = 1 := by kernel_rfl
def QF (c : ByteArray × Bool × List ByteArray) : Prop := QT c.1 ∧ QL c.2.2
theorem op_file : AbO.Op Tryz.prog 35 ty35 QF := by
  intro H enc w base sp held fuel cs x h
  obtain ⟨hl, n, hf⟩ := EOpen.struct_get Tryz.underlying35 h
  rw [c_file] at hl
  obtain ⟨y0, h0⟩ := hf 0 _ rfl
  obtain ⟨y1, h1⟩ := hf 1 _ rfl
  obtain ⟨y2, h2⟩ := hf 2 _ rfl
  replace h0 : DataW.trod enc Tryz.prog w base sp held n 9 ((cs.drop 0).take (Tryz.prog.cellsOf 9)) = some y0 := h0
  rw [c_str] at h0
  replace h1 : DataW.trod enc Tryz.prog w base sp held n 4 ((cs.drop 1).take (Tryz.prog.cellsOf 4)) = some y1 := h1
  rw [c_bool] at h1
  replace h2 : DataW.trod enc Tryz.prog w base sp held n 22 ((cs.drop 2).take (Tryz.prog.cellsOf 22)) = some y2 := h2
  rw [c_strs] at h2
  rw [List.drop_zero] at h0
  obtain ⟨d0, r0, q0⟩ := op_s enc w base sp held n _ _ h0
  obtain ⟨d1, r1, q1⟩ := op_bool Tryz.underlying4 enc w base sp held n _ _ h1
  obtain ⟨d2, r2, q2⟩ := op_ss enc w base sp held n _ _ h2
  refine ⟨(d0, d1, d2), pair_T r0 (pair_T r1 ?_), q0, q2⟩
  simp only [List.drop_drop]
  rw [List.take_of_length_le (by rw [List.length_drop]; omega)] at r2
  exact r2
theorem op_files : AbO.Op Tryz.prog 29 (.sl ty35) (fun l => l.length ≤ maxLen ∧ ∀ c ∈ l, QF c) := op_slice (T := ty35) Tryz.underlying29 c_file (by decide) op_file
end Go.Proofs.YtabhngbpkfdeiaaGreatDoor.SpR
namespace Go.Proofs.YtabhngbpkfdeiaaGreatDoor.Sp
open Go
theorem file_of {c : Fil} (h : SpR.QF c) : FOk c := Nat.le_trans h.2.1 (by decide)
theorem lenF_of {n : Nat} (h : n ≤ maxLen) : n ≤ top := Nat.le_trans h (by decide)
end Go.Proofs.YtabhngbpkfdeiaaGreatDoor.Sp
end
section
/- The laws FusePairs and FuseAll as plain Lean: each answers true. Conditions: lengths and numbers are those of the machine. -/
set_option linter.unusedVariables false
set_option linter.unusedSimpArgs false
namespace Go.Proofs.YtabhngbpkfdeiaaGreatDoor.Sp
open Go Go.Proofs.YtabhngbpkfdeiaaGreatDoor.Ab Go.Proofs.YtabhngbpkfdeiaaGreatDoor.Tb Go.Proofs.YtabhngbpkfdeiaaGreatDoor.EText

/-- An answer found by running the machine. -/
theorem callT_ofN {f : FuncId} {args : List A} {rts : List RT} {d : dens rts} (k : Nat) (h : callN W0 k f args = some (injRs rts d)) : cR f rts args = some d := by
  show (callW W0 f args).bind (prjRs rts) = some d
  have : callW W0 f args = some (injRs rts d) := limO_of (fun k q x hkq hx => callN_le hkq hx) h
  rw [this]
  exact prj_injRs rts d

set_option maxRecDepth 100000 in
theorem awake9_ok : cR 32 [RT.d .bool] [] = some true := callT_ofN 60 (by kernel_rfl)

/-- What every step that is handed in is. -/
def Arg (p : Prm) : Prop := POk p ∧ fits p.2.2.2.1
theorem light3_facts {l : List Txt} (h : light3 l = true) : l.length ≤ 60 ∧ ∀ s ∈ l, s.size ≤ 300 := by
  unfold light3 at h
  simp only [Bool.and_eq_true, List.all_eq_true, decide_eq_true_eq] at h
  exact ⟨h.2, h.1⟩
theorem light7_facts {l : List Prm} (h : light7 l = true) : l.length ≤ 40 ∧ ∀ p ∈ l, p.2.1.size ≤ 300 ∧ p.2.2.1.size ≤ 300 ∧ (p.2.2.2.2.1.length ≤ 60 ∧ ∀ s ∈ p.2.2.2.2.1, s.size ≤ 300) ∧ (p.2.2.2.2.2.length ≤ 60 ∧ ∀ s ∈ p.2.2.2.2.2, s.size ≤ 300) := by
  unfold light7 at h
  simp only [Bool.and_eq_true, List.all_eq_true, decide_eq_true_eq] at h
  refine ⟨h.2, fun p hp => ?_⟩
  have := h.1 p hp
  unfold lightP at this
  simp only [Bool.and_eq_true, decide_eq_true_eq] at this
  exact ⟨this.1.1.1, this.1.1.2, light3_facts this.1.2, light3_facts this.2⟩
theorem light9_good {l : List Prm} (h : light9 l = true) (ha : ∀ p ∈ l, Arg p) : l.length ≤ 40 ∧ Good 4800 l := by
  unfold light9 at h
  simp only [Bool.and_eq_true, List.all_eq_true, decide_eq_true_eq] at h
  obtain ⟨hl, hp⟩ := light7_facts h.2
  refine ⟨hl, fun p hpm => ?_, ?_⟩
  · obtain ⟨h1, h2, h3, h4⟩ := hp p hpm
    exact ⟨h1, h2, h3.2, h4.2, (ha p hpm).2, h.1 p hpm⟩
  · have : ∀ m : List Prm, (∀ p ∈ m, wt p ≤ 120) → (m.map wt).sum ≤ 120 * m.length := by
      intro m
      induction m with
      | nil => intro _; simp
      | cons a m ih =>
        intro hm
        have h1 := hm a (by simp)
        have h2 := ih (fun p hp => hm p (List.mem_cons_of_mem _ hp))
        simp only [List.map_cons, List.sum_cons, List.length_cons]
        omega
    have hw := this l (fun p hpm => by
      obtain ⟨h1, h2, h3, h4⟩ := hp p hpm
      unfold wt; omega)
    omega

/-! ### FuseAll -/
/-! ### FusePairs -/
end Go.Proofs.YtabhngbpkfdeiaaGreatDoor.Sp
end
section
/- From what the parameters' kinds tell to what the laws ask. No condition. -/
namespace Go.Proofs.YtabhngbpkfdeiaaGreatDoor.Sp
open Go Go.Proofs.YtabhngbpkfdeiaaGreatDoor.Ab Go.Proofs.YtabhngbpkfdeiaaGreatDoor.Tb
theorem fits_of {n : Int} (h : SpR.QI n) : fits n := by
  unfold SpR.QI at h
  simp only [Lit.wf, Bool.and_eq_true, decide_eq_true_eq] at h
  exact ⟨by have := h.1; simpa [IntKind.min, IntKind.signed, IntKind.bits] using this, by have := h.2; simpa [IntKind.max, IntKind.signed, IntKind.bits] using this⟩
theorem arg_of {p : Prm} (h : SpR.QP p) : Arg p :=
  ⟨⟨Nat.le_trans h.2.2.2.2.1.1 (by decide), Nat.le_trans h.2.2.2.2.2.1 (by decide)⟩, fits_of h.2.2.2.1⟩
theorem len_of {n : Nat} (h : n ≤ maxLen) : n ≤ top := Nat.le_trans h (by decide)
end Go.Proofs.YtabhngbpkfdeiaaGreatDoor.Sp
end
section
/- The law CommuteThree as plain Lean: it answers true. Conditions: lengths and numbers are those of the machine. -/
set_option linter.unusedVariables false
set_option linter.unusedSimpArgs false
namespace Go.Proofs.YtabhngbpkfdeiaaGreatDoor.Sp
open Go Go.Proofs.YtabhngbpkfdeiaaGreatDoor.Ab Go.Proofs.YtabhngbpkfdeiaaGreatDoor.Tb Go.Proofs.YtabhngbpkfdeiaaGreatDoor.EText

/-- Where two hunks stand the other way round. -/
def Step (same : Prop) (P pn po Q qn qo Q' P' : Int) : Prop :=
  (¬ same ∧ Q' = Q ∧ P' = P) ∨ (same ∧ W64 (Q - pn) > P ∧ Q' = W64 (Q - W64 (pn - po)) ∧ P' = P) ∨ (same ∧ ¬ W64 (Q - pn) > P ∧ W64 (P - qo) > Q ∧ Q' = Q ∧ P' = W64 (P + W64 (qn - qo)))

/-- Of hunks in their range: no number is too great. -/
theorem Step.plain {same : Prop} {P pn po Q qn qo Q' P' : Int} (h : Step same P pn po Q qn qo Q' P') (hP : 0 ≤ P ∧ P ≤ 9223372036854775807) (hQ : 0 ≤ Q ∧ Q ≤ 9223372036854775807) (l1 : 0 ≤ pn ∧ pn ≤ 60) (l2 : 0 ≤ po ∧ po ≤ 60) (l3 : 0 ≤ qn ∧ qn ≤ 60) (l4 : 0 ≤ qo ∧ qo ≤ 60) :
    (¬ same ∧ Q' = Q ∧ P' = P) ∨ (same ∧ Q - pn > P ∧ Q' = W64 (Q - (pn - po)) ∧ P' = P) ∨ (same ∧ ¬ Q - pn > P ∧ P - qo > Q ∧ Q' = Q ∧ P' = W64 (P + (qn - qo))) := by
  unfold Step W64 at h
  unfold W64
  rw [wr (Q - pn) ⟨by omega, by omega⟩, wr (P - qo) ⟨by omega, by omega⟩, wr (pn - po) ⟨by omega, by omega⟩, wr (qn - qo) ⟨by omega, by omega⟩] at h
  exact h

end Go.Proofs.YtabhngbpkfdeiaaGreatDoor.Sp
end
section
/- The law CommuteThree as plain Lean: it answers true. Conditions: lengths and numbers are those of the machine. -/
set_option linter.unusedVariables false
set_option linter.unusedSimpArgs false
namespace Go.Proofs.YtabhngbpkfdeiaaGreatDoor.Sp
open Go Go.Proofs.YtabhngbpkfdeiaaGreatDoor.Ab Go.Proofs.YtabhngbpkfdeiaaGreatDoor.Tb Go.Proofs.YtabhngbpkfdeiaaGreatDoor.EText

theorem Md.zp : Md zp := ⟨by decide, by decide, ⟨by decide, fun s h => by cases h⟩, ⟨by decide, fun s h => by cases h⟩⟩
theorem Md.setAt {p : Prm} (h : Md p) (n : Int) : Md (setAt p n) := ⟨h.path, h.dst, h.old, h.new⟩
end Go.Proofs.YtabhngbpkfdeiaaGreatDoor.Sp
end
section
/- CommuteSame answers true. Conditions: what the parameters' kinds tell. -/
set_option linter.unusedVariables false
set_option linter.unusedSimpArgs false
namespace Go.Proofs.YtabhngbpkfdeiaaGreatDoor.Sp
open Go Go.Proofs.YtabhngbpkfdeiaaGreatDoor.Ab Go.Proofs.YtabhngbpkfdeiaaGreatDoor.Tb Go.Proofs.YtabhngbpkfdeiaaGreatDoor.EText

theorem gd_tsame {l : List Fil} {n : Nat} (h : Gd l n) (hn : n ≤ 100000) : cR 26 [RT.d .bool] [inj ty31 (l, ()), inj ty31 (l, ())] = some true :=
  tsame_ok l (Nat.le_trans h.n hn) fun f hf => (h.tk.f f hf).l.1
end Go.Proofs.YtabhngbpkfdeiaaGreatDoor.Sp
end
section
/- What steps become comes to the same map as they do; and no neighbours are left that become one. Conditions: as they stand in each statement. -/
set_option linter.unusedVariables false
set_option linter.unusedSimpArgs false
namespace Go.Proofs.YtabhngbpkfdeiaaGreatDoor.Sp
open Go Go.Proofs.YtabhngbpkfdeiaaGreatDoor.Ab Go.Proofs.YtabhngbpkfdeiaaGreatDoor.Tb Go.Proofs.YtabhngbpkfdeiaaGreatDoor.EText

/-- Files as they may be. -/
def Gm (m : Mp) : Prop := ∀ x e, m x = some e → checkL e.2 = 0
def RunG : List Prm → Mp → Mp → Prop
  | [], m, m' => m = m'
  | p :: l, m, m' => chk p = 0 ∧ ∃ m1, Stp p m m1 ∧ Gm m1 ∧ RunG l m1 m'
theorem runG_app : ∀ {a b : List Prm} {m m' : Mp}, RunG (a ++ b) m m' ↔ ∃ m1, RunG a m m1 ∧ RunG b m1 m'
  | [], b, m, m' => ⟨fun h => ⟨m, rfl, h⟩, fun ⟨m1, h1, h2⟩ => by cases h1; exact h2⟩
  | p :: a, b, m, m' => by
    constructor
    · rintro ⟨hc, m1, h1, hg, h2⟩
      obtain ⟨m2, h3, h4⟩ := runG_app.1 h2
      exact ⟨m2, ⟨hc, m1, h1, hg, h3⟩, h4⟩
    · rintro ⟨m2, ⟨hc, m1, h1, hg, h3⟩, h4⟩
      exact ⟨hc, m1, h1, hg, runG_app.2 ⟨m2, h3, h4⟩⟩
theorem runG_gm : ∀ {a : List Prm} {m m' : Mp}, Gm m → RunG a m m' → Gm m'
  | [], m, m', h, hr => by cases hr; exact h
  | p :: a, m, m', h, ⟨_, m1, _, hg, hr⟩ => runG_gm hg hr
theorem runG_of : ∀ {s : List Prm} {l l' : List Fil} {n : Nat}, Gd l n → n + s.length < 500 → appsP l s = (l', 0) → RunG s (mp l) (mp l') ∧ Gd l' (n + s.length)
  | [], l, l', n, h, hn, ha => by cases ha; exact ⟨rfl, h⟩
  | p :: s, l, l', n, h, hn, ha => by
    rw [appsP] at ha
    rw [List.length_cons] at hn
    by_cases h0 : (applyP l p).2 = 0
    · rw [if_neg (by simp [h0])] at ha
      obtain ⟨h1, h2, h3⟩ := of_apply h (by omega) (p := p) (l' := (applyP l p).1) (by rw [← h0])
      obtain ⟨h4, h5⟩ := runG_of h3 (by omega) ha
      exact ⟨⟨h1, _, h2, (fun x e => h3.line), h4⟩, by rw [List.length_cons, show n + (s.length + 1) = n + 1 + s.length by omega]; exact h5⟩
    · rw [if_pos h0] at ha; exact absurd (Prod.mk.inj ha).2 h0
theorem appsG_of : ∀ {s : List Prm} {l : List Fil} {n : Nat} {m' : Mp}, Gd l n → n + s.length < 500 → RunG s (mp l) m' → ∃ l', appsP l s = (l', 0) ∧ mp l' = m' ∧ Gd l' (n + s.length)
  | [], l, n, m', h, hn, hr => by cases hr; exact ⟨l, rfl, rfl, h⟩
  | p :: s, l, n, m', h, hn, ⟨hc, m1, h1, hg, h2⟩ => by
    rw [List.length_cons] at hn
    obtain ⟨l1, e1, e2, e3⟩ := apply_of h (by omega) hc h1 hg
    obtain ⟨l2, e4, e5, e6⟩ := appsG_of (s := s) e3 (by omega) (by rw [e2]; exact h2)
    refine ⟨l2, ?_, e5, by rw [List.length_cons, show n + (s.length + 1) = n + 1 + s.length by omega]; exact e6⟩
    rw [appsP, e1, if_neg (by simp)]
    exact e4

theorem stp1 {p : Prm} (k : p.1 = 1) {m m' : Mp} (h : Stp p m m') : m p.2.1 = none ∧ dirM m (upP p.2.1) ∧ m' = upd m p.2.1 (some (true, [])) := by
  rcases h with ⟨_, h⟩ | ⟨k', _⟩ | ⟨k', _⟩ | ⟨k', _⟩ | ⟨k', _⟩ | ⟨k', _⟩
  · exact h
  all_goals omega
theorem stp2 {p : Prm} (k : p.1 = 2) {m m' : Mp} (h : Stp p m m') : m p.2.1 = some (true, []) ∧ (∀ e, m e ≠ none → upP e ≠ p.2.1) ∧ m' = upd m p.2.1 none := by
  rcases h with ⟨k', _⟩ | ⟨_, h⟩ | ⟨k', _⟩ | ⟨k', _⟩ | ⟨k', _⟩ | ⟨k', _⟩
  · omega
  · exact h
  all_goals omega
theorem stp3 {p : Prm} (k : p.1 = 3) {m m' : Mp} (h : Stp p m m') : m p.2.1 = none ∧ dirM m (upP p.2.1) ∧ m' = upd m p.2.1 (some (false, [])) := by
  rcases h with ⟨k', _⟩ | ⟨k', _⟩ | ⟨_, h⟩ | ⟨k', _⟩ | ⟨k', _⟩ | ⟨k', _⟩
  · omega
  · omega
  · exact h
  all_goals omega
theorem stp4 {p : Prm} (k : p.1 = 4) {m m' : Mp} (h : Stp p m m') : m p.2.1 = some (false, []) ∧ m' = upd m p.2.1 none := by
  rcases h with ⟨k', _⟩ | ⟨k', _⟩ | ⟨k', _⟩ | ⟨_, h⟩ | ⟨k', _⟩ | ⟨k', _⟩
  · omega
  · omega
  · omega
  · exact h
  all_goals omega

/-! ### Two hunks as one -/
theorem hunk_two {p q : Prm} {ls ls1 ls2 : List Txt} (h1 : Hnk ls p ls1) (h2 : Hnk ls1 q ls2) (t1 : q.2.2.2.1 ≤ p.2.2.2.1 + p.2.2.2.2.2.length) (t2 : p.2.2.2.1 ≤ q.2.2.2.1 + q.2.2.2.2.1.length) (k : Int) (pa : Txt) :
    Hnk ls (k, pa, zt, min p.2.2.2.1 q.2.2.2.1, hOld p q, hNew p q) ls2 := by
  obtain ⟨A, B, e1, e2, e3⟩ := h1
  obtain ⟨A', B', e4, e5, e6⟩ := h2
  unfold Hnk hOld hNew
  simp only
  generalize hO : p.2.2.2.2.1 = O at *
  generalize hN : p.2.2.2.2.2 = N at *
  generalize hO' : q.2.2.2.2.1 = O' at *
  generalize hN' : q.2.2.2.2.2 = N' at *
  rw [← e2, ← e5] at *
  have hls := e3.symm.trans e4
  rw [List.append_assoc, List.append_assoc] at hls
  by_cases c : A.length ≤ A'.length
  · obtain ⟨N1, f1, f2⟩ := split2 hls c
    obtain ⟨N2, f3, f4⟩ := split2 (a := N1) (b := O' ++ B') (c := N) (d := B) f2.symm (by rw [f1, List.length_append] at t1; omega)
    have g1 : ((A'.length : Int) - (A.length : Int)).toNat = N1.length := by rw [f1, List.length_append]; omega
    have g0 : ((A.length : Int) - (A'.length : Int)).toNat = 0 := by omega
    have g2 : min (A.length : Int) (A'.length : Int) = (A.length : Int) := by omega
    rw [g0, g1, g2, List.take_zero, List.nil_append]
    have g3 : N.take N1.length = N1 := by rw [f3, List.take_left]
    rw [g3]
    by_cases c2 : O'.length ≤ N2.length
    · obtain ⟨N3, f5, f6⟩ := split2 (a := O') (b := B') (c := N2) (d := B) f4 c2
      have g4 : O'.drop ((A.length : Int) + (N.length : Int) - (A'.length : Int)).toNat = [] := List.drop_of_length_le (by rw [f3, f1, f5]; simp only [List.length_append]; omega)
      have g5 : N.drop ((A'.length : Int) + (O'.length : Int) - (A.length : Int)).toNat = N3 := by
        have : ((A'.length : Int) + (O'.length : Int) - (A.length : Int)).toNat = (N1 ++ O').length := by rw [f1]; simp only [List.length_append]; omega
        rw [this, f3, f5, ← List.append_assoc, List.drop_left]
      rw [g4, g5, List.append_nil]
      exact ⟨A, B, e1, rfl, by rw [e6, f1, f6]; simp only [List.append_assoc]⟩
    · obtain ⟨O2, f5, f6⟩ := split2 (a := N2) (b := B) (c := O') (d := B') f4.symm (by omega)
      have g4 : O'.drop ((A.length : Int) + (N.length : Int) - (A'.length : Int)).toNat = O2 := by
        have : ((A.length : Int) + (N.length : Int) - (A'.length : Int)).toNat = N2.length := by rw [f1, f3]; simp only [List.length_append]; omega
        rw [this, f5, List.drop_left]
      have g5 : N.drop ((A'.length : Int) + (O'.length : Int) - (A.length : Int)).toNat = [] := List.drop_of_length_le (by rw [f3, f1, f5]; simp only [List.length_append]; omega)
      rw [g4, g5, List.append_nil]
      exact ⟨A, B', by rw [e1, f6]; simp only [List.append_assoc], rfl, by rw [e6, f1]; simp only [List.append_assoc]⟩
  · obtain ⟨O1, f1, f2⟩ := split2 hls.symm (by omega)
    obtain ⟨O2, f3, f4⟩ := split2 (a := O1) (b := N ++ B) (c := O') (d := B') f2.symm (by rw [f1, List.length_append] at t2; omega)
    have g1 : ((A'.length : Int) - (A.length : Int)).toNat = 0 := by omega
    have g0 : ((A.length : Int) - (A'.length : Int)).toNat = O1.length := by rw [f1, List.length_append]; omega
    have g2 : min (A.length : Int) (A'.length : Int) = (A'.length : Int) := by omega
    rw [g0, g1, g2, List.take_zero, List.nil_append]
    have g3 : O'.take O1.length = O1 := by rw [f3, List.take_left]
    rw [g3]
    by_cases c2 : O2.length ≤ N.length
    · obtain ⟨N3, f5, f6⟩ := split2 (a := O2) (b := B') (c := N) (d := B) f4.symm c2
      have g4 : O'.drop ((A.length : Int) + (N.length : Int) - (A'.length : Int)).toNat = [] := List.drop_of_length_le (by rw [f3, f1, f5]; simp only [List.length_append]; omega)
      have g5 : N.drop ((A'.length : Int) + (O'.length : Int) - (A.length : Int)).toNat = N3 := by
        have : ((A'.length : Int) + (O'.length : Int) - (A.length : Int)).toNat = O2.length := by rw [f1, f3]; simp only [List.length_append]; omega
        rw [this, f5, List.drop_left]
      rw [g4, g5, List.append_nil]
      exact ⟨A', B, by rw [e1, f1]; simp only [List.append_assoc], rfl, by rw [e6, f6]; simp only [List.append_assoc]⟩
    · obtain ⟨O3, f5, f6⟩ := split2 (a := N) (b := B) (c := O2) (d := B') f4 (by omega)
      have g4 : O'.drop ((A.length : Int) + (N.length : Int) - (A'.length : Int)).toNat = O3 := by
        have : ((A.length : Int) + (N.length : Int) - (A'.length : Int)).toNat = (O1 ++ N).length := by rw [f1]; simp only [List.length_append]; omega
        rw [this, f3, f5, ← List.append_assoc, List.drop_left]
      have g5 : N.drop ((A'.length : Int) + (O'.length : Int) - (A.length : Int)).toNat = [] := List.drop_of_length_le (by rw [f3, f1, f5]; simp only [List.length_append]; omega)
      rw [g4, g5, List.append_nil]
      exact ⟨A', B', by rw [e1, f1, f6]; simp only [List.append_assoc], rfl, e6⟩
theorem checkL_in {a b c : List Txt} (h : checkL (a ++ b ++ c) = 0) : checkL b = 0 := by
  have h1 := (checkL_LOk h).2
  have h2 := checkL_all h
  simp only [List.length_append, List.all_append, Bool.and_eq_true] at h1 h2
  unfold checkL
  rw [if_neg (by omega), if_pos h2.1.2]

/-- ████ What two steps become comes to the same. ████ -/
theorem fuse_run {p q : Prm} {r : List Prm} (h : pairP p q = (r, true)) {m m' : Mp} (hg : Gm m) (hr : RunG [p, q] m m') : RunG r m m' := by
  obtain ⟨hp, m1, s1, g1, hq, m2, s2, g2, hm2⟩ := hr
  cases hm2
  unfold pairP at h
  rw [if_neg (by simp [hp, hq])] at h
  by_cases hu : undoesP p q = true
  · rw [if_pos hu] at h; cases h
    unfold undoesP at hu
    simp only [Bool.and_eq_true, Bool.or_eq_true, decide_eq_true_eq] at hu
    obtain ⟨hk, rfl⟩ := hu
    show m = _
    rcases hk with (k | k) | k
    · obtain ⟨a1, _, rfl⟩ := stp1 k s1
      obtain ⟨_, _, rfl⟩ := stp2 (p := invP p) (by unfold invP othI; simp [k]) s2
      have e : (invP p).2.1 = p.2.1 := by unfold invP; simp [k]
      rw [e, upd_upd, upd_id m a1]
    · obtain ⟨a1, _, rfl⟩ := stp3 k s1
      obtain ⟨_, rfl⟩ := stp4 (p := invP p) (by unfold invP othI; simp [k]) s2
      have e : (invP p).2.1 = p.2.1 := by unfold invP; simp [k]
      rw [e, upd_upd, upd_id m a1]
    · obtain ⟨ls, a1, a2, _, rfl⟩ := stp5 k s1
      obtain ⟨ls', b1, _, _, rfl⟩ := stp5 (p := invP p) (by unfold invP othI; simp [k]) s2
      have e : (invP p).2.1 = p.2.2.1 := by unfold invP; simp [k]
      have e2 : (invP p).2.2.1 = p.2.1 := by unfold invP; simp [k]
      have hne := (chk_to hp k).2
      rw [e, upd_at] at b1
      cases b1
      rw [e, e2, upd_upd, upd_comm _ _ _ (fun h => hne h.symm), upd_upd, upd_comm _ _ _ hne, upd_id m a2, upd_id m a1]
  · rw [if_neg hu] at h
    by_cases hm5 : p.1 = 5 ∧ q.1 = 5 ∧ q.2.1 = p.2.2.1
    · rw [if_pos hm5] at h; cases h
      obtain ⟨k, k', e⟩ := hm5
      obtain ⟨ls, a1, a2, a3, rfl⟩ := stp5 k s1
      obtain ⟨ls', b1, b2, b3, rfl⟩ := stp5 k' s2
      have hne := (chk_to hp k).2
      have hq2 := chk_to hq k'
      rw [e, upd_at] at b1
      cases b1
      rw [e] at hq2
      have hca : q.2.2.1 ≠ p.2.1 := fun hc => by
        apply hu
        unfold undoesP
        simp only [Bool.and_eq_true, Bool.or_eq_true, decide_eq_true_eq]
        refine ⟨.inr k, ?_⟩
        -- both are bare
        have bare : ∀ x : Prm, chk x = 0 → x.1 = 5 → x.2.2.2.1 = 0 ∧ x.2.2.2.2.1 = [] ∧ x.2.2.2.2.2 = [] := fun x hx kx => by
          unfold chk at hx
          split at hx
          · cases hx
          · rename_i c1
            have h1 : x.2.2.2.1 = 0 := by
              by_cases h0 : x.2.2.2.1 = 0
              · exact h0
              · exact absurd (.inr (.inr (.inr ⟨by omega, .inl h0⟩))) c1
            have h2 : x.2.2.2.2.1.length + x.2.2.2.2.2.length = 0 := by
              by_cases h0 : x.2.2.2.2.1.length + x.2.2.2.2.2.length = 0
              · exact h0
              · exact absurd (.inr (.inr (.inr ⟨by omega, .inr h0⟩))) c1
            exact ⟨h1, List.eq_nil_of_length_eq_zero (by omega), List.eq_nil_of_length_eq_zero (by omega)⟩
        obtain ⟨x1, x2, x3⟩ := bare p hp k
        obtain ⟨y1, y2, y3⟩ := bare q hq k'
        refine prm_eq.2 ⟨by unfold invP othI; simp [k, k'], by unfold invP; simp [k, e], by unfold invP; simp [k, hc], by unfold invP; simp [x1, y1], by unfold invP; simp [x3, y2], by unfold invP; simp [x2, y3]⟩
      refine ⟨?_, _, .inr (.inr (.inr (.inr (.inl ⟨rfl, ls, a1, ?_, ?_, rfl⟩)))), ?_, ?_⟩
      · unfold chk
        rw [if_neg, if_neg, if_neg]
        · rintro ⟨h, _⟩; exact absurd h (show ¬ (5 : Int) = 6 by decide)
        · rintro (h | ⟨_, h | h⟩)
          · rw [chk_path hp] at h; cases h
          · rw [hq2.1] at h; cases h
          · exact hca h.symm
        · rintro (h | h | ⟨h, _⟩ | ⟨_, h | h⟩)
          · exact absurd h (show ¬ (5 : Int) < 1 by decide)
          · exact absurd h (show ¬ (6 : Int) < 5 by decide)
          · exact h rfl
          · exact h rfl
          · exact h rfl
      · show m q.2.2.1 = none
        rw [upd_ne _ _ (fun h => hq2.2 h.symm), upd_ne _ _ hca] at b2; exact b2
      · show dirM m (upP q.2.2.1)
        rcases b3 with h | ⟨x, h⟩
        · exact .inl h
        · refine .inr ⟨x, ?_⟩
          by_cases z1 : upP q.2.2.1 = p.2.2.1
          · rw [z1, upd_at] at h; cases h
          · rw [upd_ne _ _ z1] at h
            by_cases z2 : upP q.2.2.1 = p.2.1
            · rw [z2, upd_at] at h; cases h
            · rw [upd_ne _ _ z2] at h; exact h
      · have : upd (upd m p.2.1 none) q.2.2.1 (some (false, ls)) = upd (upd (upd (upd m p.2.1 none) p.2.2.1 (some (false, ls))) q.2.1 none) q.2.2.1 (some (false, ls)) := by
          rw [e, upd_upd, upd_id (m := upd m p.2.1 none) (p := p.2.2.1) (v := none) (by rw [upd_ne _ _ (fun h => hne h.symm)]; exact a2)]
        show Gm (upd (upd m p.2.1 none) q.2.2.1 (some (false, ls)))
        rw [this]; exact g2
      · show upd (upd m p.2.1 none) q.2.2.1 (some (false, ls)) = _
        rw [e, upd_upd, upd_id (m := upd m p.2.1 none) (p := p.2.2.1) (v := none) (by rw [upd_ne _ _ (fun h => hne h.symm)]; exact a2)]
    · rw [if_neg hm5] at h
      by_cases hh : (hunksP p q).2 = false
      · rw [if_pos hh] at h; cases h
      · rw [if_neg hh] at h
        unfold hunksP at h hh
        by_cases ht : (touchP p q && agree p q) = true
        · rw [if_pos ht] at h
          simp only [Bool.and_eq_true] at ht
          obtain ⟨⟨k1, k2⟩, hpath, _, t1, t2⟩ := touch_facts ht.1
          obtain ⟨ls, ls1, a1, hn1, rfl⟩ := stp6 k1 s1
          obtain ⟨ls1', ls2, b1, hn2, rfl⟩ := stp6 k2 s2
          rw [← hpath, upd_at] at b1
          cases b1
          have hn := hunk_two hn1 hn2 t1 t2 6 p.2.1
          have hls := hg _ _ a1
          have hls2 := g2 q.2.1 (false, ls2) (upd_at _ _ _)
          obtain ⟨a, b, e1, e2, e3⟩ := id hn
          simp only at e1 e2 e3 h hls hls2
          by_cases heq : hOld p q = hNew p q
          · rw [if_pos heq] at h; cases h
            show m = _
            rw [heq, ← e3] at e1
            rw [← hpath, upd_upd, ← e1, upd_id m a1]
          · rw [if_neg heq] at h; cases h
            refine ⟨?_, _, .inr (.inr (.inr (.inr (.inr ⟨rfl, ls, ls2, a1, hn, rfl⟩)))), ?_, ?_⟩
            · unfold chk
              rw [if_neg, if_neg, if_neg]
              · rintro ⟨_, h | h | h | h⟩
                · have f1 := (chk_hunk hp k1).1
                  have f2 := (chk_hunk hq k2).1
                  simp only at h
                  omega
                · simp only at h
                  have z1 := List.eq_nil_of_length_eq_zero (l := hOld p q) (by omega)
                  have z2 := List.eq_nil_of_length_eq_zero (l := hNew p q) (by omega)
                  exact heq (z1.trans z2.symm)
                · exact h (checkL_in (a := a) (c := b) (by rw [← e1]; exact hls))
                · exact h (checkL_in (a := a) (c := b) (by rw [← e3]; exact hls2))
              · rintro (h | ⟨h, _⟩)
                · rw [chk_path hp] at h; cases h
                · exact absurd h (show ¬ (6 : Int) = 5 by decide)
              · rintro (h | h | ⟨_, h⟩ | ⟨h, _⟩)
                · exact absurd h (show ¬ (6 : Int) < 1 by decide)
                · exact absurd h (show ¬ (6 : Int) < 6 by decide)
                · exact h rfl
                · exact h rfl
            · have : upd m p.2.1 (some (false, ls2)) = upd (upd m p.2.1 (some (false, ls1))) q.2.1 (some (false, ls2)) := by rw [← hpath, upd_upd]
              show Gm (upd m p.2.1 (some (false, ls2)))
              rw [this]; exact g2
            · show upd m p.2.1 (some (false, ls2)) = _
              rw [← hpath, upd_upd]
        · rw [if_neg ht] at hh; exact absurd rfl hh

/-! ### All steps -/
theorem pairP_len (p q : Prm) : (pairP p q).1.length ≤ 1 := by
  unfold pairP
  repeat' split
  all_goals simp
theorem drain_run (out : List Prm) : ∀ (k : Nat) (next : List Prm), k ≤ out.length → next.length ≤ 1 → ∀ {m m' : Mp}, Gm m → RunG (out.take k ++ next) m m' → RunG (drain out k next) m m'
  | 0, next, hk, hn, m, m', hg, hr => by rw [drain]; simpa using hr
  | k + 1, next, hk, hn, m, m', hg, hr => by
    have hlt : k < out.length := by omega
    cases next with
    | nil =>
      rw [drain]
      · exact hr
      · intro n r l h; cases h
    | cons n r =>
      have hr0 : r = [] := by cases r with | nil => rfl | cons a b => simp at hn
      subst hr0
      have hl : out[k]? = some out[k] := List.getElem?_eq_getElem hlt
      simp only [drain, hl]
      split
      · rename_i hp
        rw [take_last hl, List.append_assoc] at hr
        obtain ⟨m1, r1, r2⟩ := runG_app.1 hr
        have r3 := fuse_run (r := (pairP out[k] n).1) (by rw [← hp]) (runG_gm hg r1) r2
        exact drain_run out k _ (by omega) (pairP_len _ _) hg (runG_app.2 ⟨m1, r1, r3⟩)
      · exact hr
theorem fold_run : ∀ (s acc : List Prm) {m m' : Mp}, Gm m → RunG (acc ++ s) m m' → RunG (s.foldl (fun acc p => drain acc acc.length [p]) acc) m m'
  | [], acc, m, m', hg, hr => by simpa using hr
  | p :: s, acc, m, m', hg, hr => by
    rw [List.foldl_cons]
    rw [show acc ++ p :: s = (acc ++ [p]) ++ s by simp] at hr
    obtain ⟨m1, r1, r2⟩ := runG_app.1 hr
    have r3 := drain_run acc acc.length [p] (Nat.le_refl _) (by simp) hg (by rw [List.take_length]; exact r1)
    exact fold_run s _ hg (runG_app.2 ⟨m1, r3, r2⟩)
theorem all_run (s : List Prm) {m m' : Mp} (hg : Gm m) (hr : RunG s m m') : RunG (allP s) m m' := fold_run s [] hg (by simpa using hr)

/-- No neighbours become one. -/
def NF : List Prm → Prop
  | a :: b :: r => (pairP a b).2 = false ∧ NF (b :: r)
  | _ => True
theorem nf_get : ∀ {l : List Prm}, NF l → ∀ (i : Nat) (h : i + 1 < l.length), (pairP (l[i]'(by omega)) l[i + 1]).2 = false
  | [], _, i, h => by simp at h
  | [_], _, i, h => by simp at h
  | a :: b :: r, ⟨h1, h2⟩, 0, h => h1
  | a :: b :: r, ⟨h1, h2⟩, i + 1, h => nf_get h2 i (by simpa using h)
theorem nf_snoc : ∀ {l : List Prm} {a n : Prm}, NF (l ++ [a]) → (pairP a n).2 = false → NF (l ++ [a] ++ [n])
  | [], a, n, _, h => ⟨h, trivial⟩
  | [b], a, n, h1, h => ⟨h1.1, h, trivial⟩
  | b :: c :: l, a, n, h1, h => ⟨h1.1, nf_snoc (l := c :: l) h1.2 h⟩
theorem nf_left : ∀ {l : List Prm} {a : Prm}, NF (l ++ [a]) → NF l
  | [], a, _ => trivial
  | [b], a, _ => trivial
  | b :: c :: l, a, h => ⟨h.1, nf_left (l := c :: l) h.2⟩
theorem nf_drain (out : List Prm) : ∀ (k : Nat) (next : List Prm), k ≤ out.length → next.length ≤ 1 → NF (out.take k) → NF (drain out k next)
  | 0, next, hk, hn, h => by
    rw [drain]
    cases next with
    | nil => trivial
    | cons a r => cases r with
      | nil => trivial
      | cons b c => simp at hn
  | k + 1, next, hk, hn, h => by
    have hlt : k < out.length := by omega
    cases next with
    | nil =>
      rw [drain]
      · rw [List.append_nil]; exact h
      · intro n r l h; cases h
    | cons n r =>
      have hr0 : r = [] := by cases r with | nil => rfl | cons a b => simp at hn
      subst hr0
      have hl : out[k]? = some out[k] := List.getElem?_eq_getElem hlt
      simp only [drain, hl]
      rw [take_last hl] at h
      split
      · exact nf_drain out k _ (by omega) (pairP_len _ _) (nf_left h)
      · rename_i hp
        rw [take_last hl]
        exact nf_snoc h (by simpa using hp)
theorem nf_fold : ∀ (s acc : List Prm), NF acc → NF (s.foldl (fun acc p => drain acc acc.length [p]) acc)
  | [], acc, h => h
  | p :: s, acc, h => by
    rw [List.foldl_cons]
    exact nf_fold s _ (nf_drain acc acc.length [p] (Nat.le_refl _) (by simp) (by rw [List.take_length]; exact h))
theorem nf_all (s : List Prm) : NF (allP s) := nf_fold s [] trivial

end Go.Proofs.YtabhngbpkfdeiaaGreatDoor.Sp
end
section
/- What takes a step back does so; directories stay above what lies in them. Conditions: as they stand in each statement. -/
set_option linter.unusedVariables false
set_option linter.unusedSimpArgs false
namespace Go.Proofs.YtabhngbpkfdeiaaGreatDoor.Sp
open Go Go.Proofs.YtabhngbpkfdeiaaGreatDoor.Ab Go.Proofs.YtabhngbpkfdeiaaGreatDoor.Tb Go.Proofs.YtabhngbpkfdeiaaGreatDoor.EText

end Go.Proofs.YtabhngbpkfdeiaaGreatDoor.Sp
end
section
/- What each function comes to on data: printed equations. No condition. -/
set_option linter.unusedVariables false
set_option maxRecDepth 100000
namespace Go.Proofs.YtabhngbpkfdeiaaGreatDoor.Tb
open Go Go.Proofs.YtabhngbpkfdeiaaGreatDoor.Ab
end Go.Proofs.YtabhngbpkfdeiaaGreatDoor.Tb
end
section
/- What each function comes to on data: printed equations. No condition. -/
set_option linter.unusedVariables false
set_option maxRecDepth 100000
namespace Go.Proofs.YtabhngbpkfdeiaaGreatDoor.Tb
open Go Go.Proofs.YtabhngbpkfdeiaaGreatDoor.Ab
noncomputable def td4_10 : List Item := (findT (code Tryz.f4) [] 10).getD []
noncomputable def l4_10 (x0 : List (Int × ByteArray × ByteArray × Int × List ByteArray × List ByteArray)) (x1 : Int) (x2 : Int) (x3 : Int) (x4 : List (ByteArray × Bool × List ByteArray)) (x5 : List (ByteArray × Bool × List ByteArray)) (x6 : List (ByteArray × Bool × List ByteArray)) : Option (List RV) := cutW W0 n4 td4_10 { fr := [((1 : Nat), F.a (A.c (C.sl ty40 x0))), ((5 : Nat), F.a (A.c (C.pt (Pt.own (0 : Nat) (0 : Nat) (0 : Nat))))), ((7 : Nat), F.a (A.c (C.pt (Pt.own (1 : Nat) (0 : Nat) (0 : Nat))))), ((8 : Nat), F.a (A.c (C.sc (Go.Value.int Go.IntKind.i64 x1)))), ((9 : Nat), F.a (A.c (C.ow (2 : Nat) (List.length x6)))), ((10 : Nat), F.a (A.c (C.sc (Go.Value.int Go.IntKind.i64 x2)))), ((11 : Nat), F.a (A.c (C.sc (Go.Value.int Go.IntKind.i64 x3))))], mem := [some (Row.box (31 : Nat) (some ty31) [C.sl ty35 x4] false), some (Row.box (31 : Nat) (some ty31) [C.sl ty35 x5] false), some (Row.arr (35 : Nat) ty35 x6 false)], nx := (3 : Nat) }
theorem e4 (a0 : List (ByteArray × Bool × List ByteArray)) (a1 : List (Int × ByteArray × ByteArray × Int × List ByteArray × List ByteArray)) : callG W0 (callW W0) (cutW W0) 4 [inj (Ty.sl ty35) a0, inj (Ty.sl ty40) a1] = Option.bind (cR (nat_lit 19) [RT.d Ty.bool] [inj (Ty.sl ty35) a0]) fun r => ifs ((!r) = false) (Option.bind (cR (nat_lit 20) [RT.d Ty.bool] [inj (Ty.sl ty40) a1]) fun r => ifs ((!r) = true) (Option.bind (cR (nat_lit 12) [RT.d Ty.bool] []) fun r => some (injRs [RT.d Ty.bool] r)) (Option.bind (cR (nat_lit 13) [RT.d ty31, RT.d (Ty.int Go.IntKind.i64)] [inj (Ty.sl ty35) a0]) fun r => ifs ((r.snd != (0 : Int)) = true) (Option.bind (cR (nat_lit 12) [RT.d Ty.bool] []) fun r => some (injRs [RT.d Ty.bool] r)) (Option.bind (cR (nat_lit 21) [RT.d ty31, RT.d (Ty.int Go.IntKind.i64)] [inj ty31 (r.fst.fst, ()), inj (Ty.sl ty40) a1]) fun r_1 => Option.bind (cR (nat_lit 22) [RT.own (35 : Go.TypeId) ty35] [inj ty31 (r.fst.fst, ())]) fun r_2 => l4_10 a1 r_1.snd (0 : Int) (0 : Int) r.fst.fst r_1.fst.fst r_2))) (Option.bind (cR (nat_lit 12) [RT.d Ty.bool] []) fun r => some (injRs [RT.d Ty.bool] r)) := by kernel_rfl
noncomputable def td6_7 : List Item := (findT (code Tryz.f6) [] 7).getD []
noncomputable def l6_7 (x0 : List (Int × ByteArray × ByteArray × Int × List ByteArray × List ByteArray)) (x1 : Int) (x2 : Int) (x3 : Int) (x4 : List (ByteArray × Bool × List ByteArray)) (x5 : List (ByteArray × Bool × List ByteArray)) (x6 : List (Int × ByteArray × ByteArray × Int × List ByteArray × List ByteArray)) : Option (List RV) := cutW W0 n6 td6_7 { fr := [((1 : Nat), F.a (A.c (C.sl ty40 x0))), ((5 : Nat), F.a (A.c (C.pt (Pt.own (0 : Nat) (0 : Nat) (0 : Nat))))), ((6 : Nat), F.a (A.c (C.sc (Go.Value.int Go.IntKind.i64 x1)))), ((7 : Nat), F.a (A.c (C.pt (Pt.own (1 : Nat) (0 : Nat) (0 : Nat))))), ((8 : Nat), F.a (A.c (C.sc (Go.Value.int Go.IntKind.i64 x2)))), ((9 : Nat), F.a (A.c (C.ow (2 : Nat) (List.length x6)))), ((10 : Nat), F.a (A.c (C.sc (Go.Value.int Go.IntKind.i64 x3))))], mem := [some (Row.box (31 : Nat) (some ty31) [C.sl ty35 x4] false), some (Row.box (31 : Nat) (some ty31) [C.sl ty35 x5] false), some (Row.arr (40 : Nat) ty40 x6 false)], nx := (3 : Nat) }
theorem e6 (a0 : List (ByteArray × Bool × List ByteArray)) (a1 : List (Int × ByteArray × ByteArray × Int × List ByteArray × List ByteArray)) : callG W0 (callW W0) (cutW W0) 6 [inj (Ty.sl ty35) a0, inj (Ty.sl ty40) a1] = Option.bind (cR (nat_lit 19) [RT.d Ty.bool] [inj (Ty.sl ty35) a0]) fun r => ifs ((!r) = false) (Option.bind (cR (nat_lit 31) [RT.d Ty.bool] [inj (Ty.sl ty40) a1]) fun r => ifs ((!r) = true) (Option.bind (cR (nat_lit 32) [RT.d Ty.bool] []) fun r => some (injRs [RT.d Ty.bool] r)) (Option.bind (cR (nat_lit 13) [RT.d ty31, RT.d (Ty.int Go.IntKind.i64)] [inj (Ty.sl ty35) a0]) fun r => Option.bind (cR (nat_lit 21) [RT.d ty31, RT.d (Ty.int Go.IntKind.i64)] [inj ty31 (r.fst.fst, ()), inj (Ty.sl ty40) a1]) fun r_1 => Option.bind (cR (nat_lit 33) [RT.own (40 : Go.TypeId) ty40] [inj (Ty.sl ty40) a1]) fun r_2 => l6_7 a1 r.snd r_1.snd (1 : Int) r.fst.fst r_1.fst.fst r_2)) (Option.bind (cR (nat_lit 32) [RT.d Ty.bool] []) fun r => some (injRs [RT.d Ty.bool] r)) := by kernel_rfl
theorem q6_7 (x0 : List (Int × ByteArray × ByteArray × Int × List ByteArray × List ByteArray)) (x1 : Int) (x2 : Int) (x3 : Int) (x4 : List (ByteArray × Bool × List ByteArray)) (x5 : List (ByteArray × Bool × List ByteArray)) (x6 : List (Int × ByteArray × ByteArray × Int × List ByteArray × List ByteArray)) : cutG W0 (callW W0) (cutW W0) n6 td6_7 { fr := [((1 : Nat), F.a (A.c (C.sl ty40 x0))), ((5 : Nat), F.a (A.c (C.pt (Pt.own (0 : Nat) (0 : Nat) (0 : Nat))))), ((6 : Nat), F.a (A.c (C.sc (Go.Value.int Go.IntKind.i64 x1)))), ((7 : Nat), F.a (A.c (C.pt (Pt.own (1 : Nat) (0 : Nat) (0 : Nat))))), ((8 : Nat), F.a (A.c (C.sc (Go.Value.int Go.IntKind.i64 x2)))), ((9 : Nat), F.a (A.c (C.ow (2 : Nat) (List.length x6)))), ((10 : Nat), F.a (A.c (C.sc (Go.Value.int Go.IntKind.i64 x3))))], mem := [some (Row.box (31 : Nat) (some ty31) [C.sl ty35 x4] false), some (Row.box (31 : Nat) (some ty31) [C.sl ty35 x5] false), some (Row.arr (40 : Nat) ty40 x6 false)], nx := (3 : Nat) } = ifs (decide (x3 < (↑(List.length x6) : Int)) = true) (ifs ((0 : Int) ≤ Go.IntKind.wrap Go.IntKind.i64 (x3 - (1 : Int)) ∧ Go.IntKind.wrap Go.IntKind.i64 (x3 - (1 : Int)) < (↑(List.length x6) : Int)) (Option.bind x6[Int.toNat (Go.IntKind.wrap Go.IntKind.i64 (x3 - (1 : Int)))]? fun r => ifs ((0 : Int) ≤ x3 ∧ x3 < (↑(List.length x6) : Int)) (Option.bind x6[Int.toNat x3]? fun r_1 => Option.bind (cR (nat_lit 34) [RT.own (40 : Go.TypeId) ty40, RT.d Ty.bool] [inj ty40 r, inj ty40 r_1]) fun r => ifs (r.snd = true) (some (injRs [RT.d Ty.bool] false)) (l6_7 x0 x1 x2 (Go.IntKind.wrap Go.IntKind.i64 (x3 + (1 : Int))) x4 x5 x6)) none) none) (ifs (decide ((↑(List.length x6) : Int) > (↑(List.length x0) : Int)) = true) (some (injRs [RT.d Ty.bool] false)) (ifs ((x1 != (0 : Int)) = false) (ifs ((x2 != (0 : Int)) = true) (Option.bind (cR (nat_lit 32) [RT.d Ty.bool] []) fun r => some (injRs [RT.d Ty.bool] r)) (Option.bind (cR (nat_lit 21) [RT.d ty31, RT.d (Ty.int Go.IntKind.i64)] [inj ty31 (x4, ()), inj (Ty.sl ty40) (List.take (List.length x6) x6)]) fun r => Option.bind (cR (nat_lit 32) [RT.d Ty.bool] []) fun r_1 => ifs (r_1 = true) (ifs ((r.snd == (0 : Int)) = true) (Option.bind (cR (nat_lit 26) [RT.d Ty.bool] [inj ty31 (x5, ()), inj ty31 (r.fst.fst, ())]) fun r => some (injRs [RT.d Ty.bool] r)) (some (injRs [RT.d Ty.bool] false))) (some (injRs [RT.d Ty.bool] false)))) (Option.bind (cR (nat_lit 32) [RT.d Ty.bool] []) fun r => some (injRs [RT.d Ty.bool] r)))) := by kernel_rfl
noncomputable def td3_6 : List Item := (findT (code Tryz.f3) [] 6).getD []
noncomputable def l3_6 (x0 : ByteArray) (x1 : List ByteArray) (x2 : Int) (x3 : List (ByteArray × Bool × List ByteArray)) (x4 : List (Int × List ByteArray × List ByteArray)) : Option (List RV) := cutW W0 n3 td3_6 { fr := [((0 : Nat), F.a (A.c (C.sc (Go.Value.string x0)))), ((2 : Nat), F.a (A.c (C.sl Ty.str x1))), ((7 : Nat), F.a (A.c (C.pt (Pt.own (0 : Nat) (0 : Nat) (0 : Nat))))), ((9 : Nat), F.a (A.c (C.ow (1 : Nat) (List.length x4)))), ((10 : Nat), F.a (A.c (C.sc (Go.Value.int Go.IntKind.i64 x2))))], mem := [some (Row.box (31 : Nat) (some ty31) [C.sl ty35 x3] false), some (Row.arr (43 : Nat) ty43 x4 false)], nx := (2 : Nat) }
theorem e3 (a0 : ByteArray) (a1 : List ByteArray) (a2 : List ByteArray) : callG W0 (callW W0) (cutW W0) 3 [inj Ty.str a0, inj (Ty.sl Ty.str) a1, inj (Ty.sl Ty.str) a2] = ifs (decide ((↑(ByteArray.size a0) : Int) > (300 : Int)) = false) (Option.bind (cR (nat_lit 8) [RT.d Ty.bool] [inj Ty.str a0]) fun r => ifs ((!r) = false) (Option.bind (cR (nat_lit 9) [RT.own (9 : Go.TypeId) Ty.str] [inj Ty.str a0]) fun r => ifs (((↑(List.length r) : Int) != (1 : Int)) = false) (Option.bind (cR (nat_lit 10) [RT.d Ty.bool] [inj (Ty.sl Ty.str) a1]) fun r => ifs ((!r) = false) (Option.bind (cR (nat_lit 10) [RT.d Ty.bool] [inj (Ty.sl Ty.str) a2]) fun r => ifs ((!r) = false) (Option.bind (cR (nat_lit 11) [RT.d (Ty.int Go.IntKind.i64)] [inj (Ty.sl Ty.str) a1]) fun r => ifs ((r != (0 : Int)) = false) (Option.bind (cR (nat_lit 11) [RT.d (Ty.int Go.IntKind.i64)] [inj (Ty.sl Ty.str) a2]) fun r => ifs ((r != (0 : Int)) = true) (Option.bind (cR (nat_lit 12) [RT.d Ty.bool] []) fun r => some (injRs [RT.d Ty.bool] r)) (Option.bind (cR (nat_lit 13) [RT.d ty31, RT.d (Ty.int Go.IntKind.i64)] [inj (Ty.sl ty35) [(a0, false, a1)]]) fun r => Option.bind (cR (nat_lit 14) [RT.own (43 : Go.TypeId) ty43] [inj (Ty.sl Ty.str) a1, inj (Ty.sl Ty.str) a2]) fun r_1 => l3_6 a0 a2 (Go.IntKind.wrap Go.IntKind.i64 ((↑(List.length r_1) : Int) - (1 : Int))) r.fst.fst r_1)) (Option.bind (cR (nat_lit 12) [RT.d Ty.bool] []) fun r => some (injRs [RT.d Ty.bool] r))) (Option.bind (cR (nat_lit 12) [RT.d Ty.bool] []) fun r => some (injRs [RT.d Ty.bool] r))) (Option.bind (cR (nat_lit 12) [RT.d Ty.bool] []) fun r => some (injRs [RT.d Ty.bool] r))) (Option.bind (cR (nat_lit 12) [RT.d Ty.bool] []) fun r => some (injRs [RT.d Ty.bool] r))) (Option.bind (cR (nat_lit 12) [RT.d Ty.bool] []) fun r => some (injRs [RT.d Ty.bool] r))) (Option.bind (cR (nat_lit 12) [RT.d Ty.bool] []) fun r => some (injRs [RT.d Ty.bool] r)) := by kernel_rfl
end Go.Proofs.YtabhngbpkfdeiaaGreatDoor.Tb
end
section
/- FuseSame answers true. Conditions: what the parameters' kinds tell. -/
set_option linter.unusedVariables false
set_option linter.unusedSimpArgs false
namespace Go.Proofs.YtabhngbpkfdeiaaGreatDoor.Sp
open Go Go.Proofs.YtabhngbpkfdeiaaGreatDoor.Ab Go.Proofs.YtabhngbpkfdeiaaGreatDoor.Tb Go.Proofs.YtabhngbpkfdeiaaGreatDoor.EText

theorem allP_good {s : List Prm} (hg : Good 4800 s) : Good 4800 (allP s) ∧ (allP s).length ≤ s.length := by
  have h := foldl_good (C := 4800) s [] 0 (Nat.le_refl _) (by simpa using hg)
  exact ⟨h.1, by have := h.2; unfold allP; omega⟩
theorem fuseSame_end (s : List Prm) (t u : List Fil) (e f : Int) (hs : s.length ≤ 40) (hgs : Good 4800 s) (hg : Gd t 40) (hu : appsP t s = (u, f)) :
    ∀ i : Nat, i ≤ (allP s).length → l6_7 s e f (((i + 1 : Nat)) : Int) t u (allP s) = some (injRs [RT.d .bool] true) := by
  obtain ⟨hgm, hlm⟩ := allP_good hgs
  have hnf := nf_all s
  have hfin : ∀ i : Nat, (allP s).length ≤ i → l6_7 s e f (i : Int) t u (allP s) = some (injRs [RT.d .bool] true) := fun i hi => by
    refine cutG_step ((q6_7 ..).trans ?_)
    rw [ifs_neg (by simp; omega), ifs_neg (by simp; omega)]
    by_cases he : ¬ (e = 0)
    · rw [ifs_neg (by simp [he]), awake9_ok, Option.bind_some]
    replace he := Decidable.not_not.1 he
    rw [ifs_pos (by simp [he])]
    by_cases hf : ¬ (f = 0)
    · rw [ifs_pos (by simp [hf]), awake9_ok, Option.bind_some]
    replace hf := Decidable.not_not.1 hf
    rw [ifs_neg (by simp [hf]), List.take_length]
    subst hf
    obtain ⟨hr, hgu⟩ := runG_of hg (by omega) hu
    have hr2 := all_run s (fun x e => hg.line) hr
    obtain ⟨w, hw, hmw, hgw⟩ := appsG_of hg (by omega) hr2
    have hwu : w = u := mp_ext hgw.tk.s hgu.tk.s hmw
    subst hwu
    have hp := pall_ok t (allP s) hg (by omega) (fun p hp => hgm.md (by omega) hp)
    rw [hw] at hp
    refine (congrArg (fun o => Option.bind o _) hp).trans ?_
    have hsame := gd_tsame hgu (by omega)
    rw [Option.bind_some, awake9_ok, Option.bind_some, ifs_pos rfl, ifs_pos (by simp)]
    refine (congrArg (fun o => Option.bind o _) hsame).trans ?_
    rw [Option.bind_some]
  refine upTo (C := fun i => l6_7 s e f (((i + 1 : Nat)) : Int) t u (allP s) = some (injRs [RT.d .bool] true)) (fun i hi ih => ?_) (hfin _ (by omega))
  by_cases h1 : i + 1 < (allP s).length
  · refine cutG_step ((q6_7 ..).trans ?_)
    have e1 : IntKind.i64.wrap (((i + 1 : Nat) : Int) - 1) = (i : Int) := by rw [wr _ (by omega)]; omega
    have e2 : IntKind.i64.wrap (((i + 1 : Nat) : Int) + 1) = ((i + 1 + 1 : Nat) : Int) := by rw [wr _ (by omega)]; omega
    have m1 := List.getElem_mem (l := allP s) (n := i) hi
    have m2 := List.getElem_mem (l := allP s) (n := i + 1) h1
    have r1 := hgm.1 _ m1
    have r2 := hgm.1 _ m2
    rw [ifs_pos (by simp; omega), e1, e2, ifs_pos (by omega), Int.toNat_natCast, at_ok hi, ifs_pos (by omega), Int.toNat_natCast, at_ok h1, pair9_ok _ _ (hgm.md (by omega) m1) (hgm.md (by omega) m2) r1.fit r2.fit r1.place r2.place, Option.bind_some, ifs_neg (by rw [nf_get hnf i h1]; simp)]
    exact ih
  · exact hfin _ (by omega)
theorem fuseSame_of (l : List Fil) (s : List Prm) (hl : l.length ≤ top) (hf : ∀ f ∈ l, FOk f) (hsl : s.length ≤ top) (hs : ∀ p ∈ s, Arg p) :
    callW W0 6 [inj (.sl ty35) l, inj (.sl ty40) s] = some (injRs [RT.d .bool] true) := by
  refine callG_step ((e6 l s).trans ?_)
  rw [light6_ok l hl hf, Option.bind_some]
  cases h6 : light6 l with
  | false => rw [ifs_neg (by simp), awake9_ok, Option.bind_some]
  | true =>
  rw [ifs_pos (by simp), light9_ok s hsl (fun p hp => (hs p hp).1), Option.bind_some]
  cases h9 : light9 s with
  | false => rw [ifs_pos (by simp), awake9_ok, Option.bind_some]
  | true =>
  rw [ifs_neg (by simp)]
  obtain ⟨hlf, hl40⟩ := light_of h6
  obtain ⟨hs40, hgs⟩ := light9_good h9 hs
  obtain ⟨t, e, ht, hg, hd, hm⟩ := tof_ok l hlf (by omega)
  have hg40 : Gd t 40 := hg.weak hl40
  rw [ht, Option.bind_some]
  have hpa := pall_ok t s hg40 (by omega) (fun p hp => hgs.md (by omega) hp)
  refine (congrArg (fun o => Option.bind o _) hpa).trans ?_
  rw [Option.bind_some, fall_ok (C := 4800) (by omega) s (by omega) hgs, Option.bind_some]
  exact fuseSame_end s t _ e _ hs40 hgs hg40 rfl 0 (Nat.zero_le _)

end Go.Proofs.YtabhngbpkfdeiaaGreatDoor.Sp
end
