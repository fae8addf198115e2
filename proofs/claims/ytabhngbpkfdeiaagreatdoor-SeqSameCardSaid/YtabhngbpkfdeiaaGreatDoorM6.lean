/- Rows of steps on maps; rows that change places, and a step that comes to the front, come to the same map. Conditions: the lengths as they stand in each statement. Two steps that have changed places change back. Conditions: lengths and places as they stand in each statement. prim.Apply and prim.All in plain words. Conditions: lengths as they stand in each statement. How a row of files, and a law's struct of them, stand in memory. No condition. The laws FusePairs and FuseAll as plain Lean: each answers true. Conditions: lengths and numbers are those of the machine. The law CommuteThree as plain  -/
import Derived.Test.YtabhngbpkfdeiaaGreatDoorM5
import Derived.Test.YtabhngbpkfdeiaaGreatDoorM4
section
/- Rows of steps on maps; rows that change places, and a step that comes to the front, come to the same map. Conditions: the lengths as they stand in each statement. -/
set_option linter.unusedVariables false
set_option linter.unusedSimpArgs false
namespace Go.Proofs.YtabhngbpkfdeiaaGreatDoor.Sp
open Go Go.Proofs.YtabhngbpkfdeiaaGreatDoor.Ab Go.Proofs.YtabhngbpkfdeiaaGreatDoor.Tb Go.Proofs.YtabhngbpkfdeiaaGreatDoor.EText

def Run : List Prm → Mp → Mp → Prop
  | [], m, m' => m = m'
  | p :: l, m, m' => chk p = 0 ∧ ∃ m1, Stp p m m1 ∧ Run l m1 m'
theorem run_app : ∀ {a b : List Prm} {m m' : Mp}, Run (a ++ b) m m' ↔ ∃ m1, Run a m m1 ∧ Run b m1 m'
  | [], b, m, m' => ⟨fun h => ⟨m, rfl, h⟩, fun ⟨m1, h1, h2⟩ => by cases h1; exact h2⟩
  | p :: a, b, m, m' => by
    constructor
    · rintro ⟨hc, m1, h1, h2⟩
      obtain ⟨m2, h3, h4⟩ := run_app.1 h2
      exact ⟨m2, ⟨hc, m1, h1, h3⟩, h4⟩
    · rintro ⟨m2, ⟨hc, m1, h1, h3⟩, h4⟩
      exact ⟨hc, m1, h1, run_app.2 ⟨m2, h3, h4⟩⟩
/-- Files of at most so many lines, each of them right. -/
def Bm (m : Mp) (k : Nat) : Prop := ∀ x e, m x = some e → e.2.length ≤ k ∧ e.2.all lineB = true
theorem Bm.check {m : Mp} {k : Nat} (h : Bm m k) (hk : k ≤ 2000) : ∀ x e, m x = some e → checkL e.2 = 0 := fun x e hx => by
  obtain ⟨h1, h2⟩ := h x e hx
  unfold checkL
  rw [if_neg (by omega), if_pos h2]
theorem checkL_all {l : List Txt} (h : checkL l = 0) : l.all lineB = true := by
  unfold checkL at h
  split at h
  · cases h
  · split at h
    · rename_i h2; exact h2
    · cases h
theorem Bm.upd {m : Mp} {k : Nat} (h : Bm m k) (p : Txt) (v : Option En) (hv : ∀ e, v = some e → e.2.length ≤ k ∧ e.2.all lineB = true) : Bm (upd m p v) k := fun x e hx => by
  unfold Sp.upd at hx
  split at hx
  · exact hv e hx
  · exact h x e hx
theorem Bm.weak {m : Mp} {k j : Nat} (h : Bm m k) (hk : k ≤ j) : Bm m j := fun x e hx => ⟨Nat.le_trans (h x e hx).1 hk, (h x e hx).2⟩
theorem stp_bm {p : Prm} (hc : chk p = 0) {m m' : Mp} (h : Stp p m m') {k c : Nat} (hb : Bm m k) (hn : p.2.2.2.2.2.length ≤ c) : Bm m' (k + c) := by
  have hb' := hb.weak (Nat.le_add_right k c)
  rcases h with ⟨_, _, _, rfl⟩ | ⟨_, _, _, rfl⟩ | ⟨_, _, _, rfl⟩ | ⟨_, _, rfl⟩ | ⟨_, ls, g, _, _, rfl⟩ | ⟨k6, ls, ls', g, ⟨a, b, e1, e2, e3⟩, rfl⟩
  · exact hb'.upd _ _ fun e he => by cases he; exact ⟨Nat.zero_le _, rfl⟩
  · exact hb'.upd _ _ fun e he => by cases he
  · exact hb'.upd _ _ fun e he => by cases he; exact ⟨Nat.zero_le _, rfl⟩
  · exact hb'.upd _ _ fun e he => by cases he
  · exact (hb'.upd _ _ fun e he => by cases he).upd _ _ fun e he => by cases he; exact hb' _ _ g
  · refine hb'.upd _ _ fun e he => ?_
    cases he
    obtain ⟨h1, h2⟩ := hb _ _ g
    have h3 := checkL_all (chk_hunk hc k6).2.2.2
    simp only at h1 h2 ⊢
    rw [e1] at h1 h2
    rw [e3]
    simp only [List.length_append, List.all_append, Bool.and_eq_true] at h1 h2 ⊢
    exact ⟨by omega, ⟨h2.1.1, h3⟩, h2.2⟩
theorem run_bm {c : Nat} : ∀ {l : List Prm} {m m' : Mp} {k : Nat}, Run l m m' → Bm m k → (∀ p ∈ l, p.2.2.2.2.2.length ≤ c) → Bm m' (k + l.length * c)
  | [], m, m', k, h, hb, _ => by cases h; simpa using hb
  | p :: l, m, m', k, ⟨hc, m1, h1, h2⟩, hb, hn => by
    have := run_bm h2 (stp_bm hc h1 hb (hn p (by simp))) (fun q hq => hn q (List.mem_cons_of_mem _ hq))
    rw [List.length_cons, Nat.succ_mul, Nat.add_comm (l.length * c) c, ← Nat.add_assoc]; exact this

/-! ### Rows done to files -/
def appsP : List Fil → List Prm → List Fil × Int
  | l, [] => (l, 0)
  | l, p :: s => if (applyP l p).2 ≠ 0 then ([], (applyP l p).2) else appsP (applyP l p).1 s
theorem run_of : ∀ {s : List Prm} {l l' : List Fil} {n : Nat}, Gd l n → n + s.length < 500 → appsP l s = (l', 0) → Run s (mp l) (mp l') ∧ Gd l' (n + s.length)
  | [], l, l', n, h, hn, ha => by cases ha; exact ⟨rfl, h⟩
  | p :: s, l, l', n, h, hn, ha => by
    rw [appsP] at ha
    rw [List.length_cons] at hn
    by_cases h0 : (applyP l p).2 = 0
    · rw [if_neg (by simp [h0])] at ha
      obtain ⟨h1, h2, h3⟩ := of_apply h (by omega) (p := p) (l' := (applyP l p).1) (by rw [← h0])
      obtain ⟨h4, h5⟩ := run_of h3 (by omega) ha
      exact ⟨⟨h1, _, h2, h4⟩, by rw [List.length_cons, show n + (s.length + 1) = n + 1 + s.length by omega]; exact h5⟩
    · rw [if_pos h0] at ha; exact absurd (Prod.mk.inj ha).2 h0
theorem apps_of {c : Nat} : ∀ {s : List Prm} {l : List Fil} {n k : Nat} {m' : Mp}, Gd l n → n + s.length < 500 → Bm (mp l) k → (∀ p ∈ s, p.2.2.2.2.2.length ≤ c) → k + s.length * c ≤ 2000 → Run s (mp l) m' → ∃ l', appsP l s = (l', 0) ∧ mp l' = m' ∧ Gd l' (n + s.length)
  | [], l, n, k, m', h, hn, hb, hs, hk, hr => by cases hr; exact ⟨l, rfl, rfl, h⟩
  | p :: s, l, n, k, m', h, hn, hb, hs, hk, ⟨hc, m1, h1, h2⟩ => by
    rw [List.length_cons] at hn hk
    have hc1 : k + c + s.length * c ≤ 2000 := by rw [Nat.succ_mul] at hk; omega
    have hb1 := stp_bm hc h1 hb (hs p (by simp))
    obtain ⟨l1, e1, e2, e3⟩ := apply_of h (by omega) hc h1 (hb1.check (by omega))
    obtain ⟨l2, e4, e5, e6⟩ := apps_of e3 (by omega) (by rw [e2]; exact hb1) (fun q hq => hs q (List.mem_cons_of_mem _ hq)) hc1 (by rw [e2]; exact h2)
    refine ⟨l2, ?_, e5, by rw [List.length_cons, show n + (s.length + 1) = n + 1 + s.length by omega]; exact e6⟩
    rw [appsP, e1, if_neg (by simp)]
    exact e4

/-! ### Steps that change places -/
/-- A step with few lines, at a place that can be. -/
structure Fw (p : Prm) (c : Nat) : Prop where
  o : p.2.2.2.2.1.length ≤ c
  w : p.2.2.2.2.2.length ≤ c
theorem stp_at {p : Prm} (hc : chk p = 0) {m m' : Mp} (h : Stp p m m') {k : Nat} (hb : Bm m k) : 0 ≤ p.2.2.2.1 ∧ p.2.2.2.1 ≤ k := by
  by_cases k6 : p.1 = 6
  · obtain ⟨ls, ls', g, ⟨a, b, e1, e2, e3⟩, _⟩ := stp6 k6 h
    have h1 := (hb _ _ g).1
    simp only [e1, List.length_append] at h1
    omega
  · unfold chk at hc
    split at hc
    · cases hc
    · rename_i h1
      have : p.2.2.2.1 = 0 := by
        by_cases h0 : p.2.2.2.1 = 0
        · exact h0
        · exact absurd (.inr (.inr (.inr ⟨k6, .inl h0⟩))) h1
      omega
theorem chk_setAt {p : Prm} (h : chk p = 0) (k : p.1 = 6) {n : Int} (hn : 0 ≤ n) : chk (setAt p n) = 0 := by
  have h0 := h
  have h6 := chk_hunk h0 k
  unfold chk at h ⊢
  split at h
  · cases h
  · rename_i c1
    split at h
    · cases h
    · rename_i c2
      have e1 : (setAt p n).1 = p.1 := rfl
      have e2 : (setAt p n).2.1 = p.2.1 := rfl
      have e3 : (setAt p n).2.2.1 = p.2.2.1 := rfl
      have e4 : (setAt p n).2.2.2.1 = n := rfl
      have e5 : (setAt p n).2.2.2.2 = p.2.2.2.2 := rfl
      rw [e1, e2, e3, e4, e5, if_neg, if_neg, if_neg]
      · rintro ⟨_, h | h | h | h⟩
        · omega
        · exact h6.2.1 h
        · exact h h6.2.2.1
        · exact h h6.2.2.2
      · exact c2
      · rintro (h | h | h | h)
        · omega
        · omega
        · exact c1 (.inr (.inr (.inl h)))
        · exact absurd k h.1
theorem chk_rename {p : Prm} (h : chk p = 0) (k : p.1 = 6) {q : Txt} (hq : rightP q = true) : chk (p.1, q, p.2.2) = 0 := by
  have h0 := h
  unfold chk at h ⊢
  split at h
  · cases h
  · rename_i c1
    split at h
    · cases h
    · rename_i c2
      split at h
      · cases h
      · rename_i c3
        simp only
        rw [if_neg c1, if_neg, if_neg c3]
        rintro (h | ⟨h, _⟩)
        · rw [hq] at h; cases h
        · omega
/-- ████ Two steps that change places come to the same. ████ -/
theorem pair_run {p q b a : Prm} (h : pairC p q = (b, a, 0)) {c k : Nat} (fp : Fw p c) (fq : Fw q c) {m m' : Mp} (hb : Bm m k) (hk : k + 2 * c ≤ 100000) (hr : Run [p, q] m m') : Run [b, a] m m' ∧ Fw b c ∧ Fw a c := by
  obtain ⟨hp, m1, s1, hq, m2, s2, rfl⟩ := hr
  have ap := stp_at hp s1 hb
  have aq := stp_at hq s2 (stp_bm hp s1 hb fp.w)
  have := fp.o; have := fp.w; have := fq.o; have := fq.w
  unfold pairC at h
  rw [if_neg (by simp [hp]), if_neg (by simp [hq])] at h
  split at h
  · rename_i hs
    have f1 : 0 ≤ p.2.2.2.1 ∧ p.2.2.2.1 ≤ 1000000 := by omega
    have f2 : 0 ≤ q.2.2.2.1 ∧ q.2.2.2.1 ≤ 1000000 := by omega
    obtain ⟨m3, t1, t2⟩ := comm_shift hs f1 f2 (by omega) (by omega) (by omega) (by omega) s1 s2
    obtain ⟨⟨kp, kq, _⟩, hh⟩ := shift_spec hs f1 f2 (by omega) (by omega) (by omega) (by omega)
    cases h
    rcases hh with ⟨g, d1, d2⟩ | ⟨g, d1, d2⟩
    · rw [d1] at t1
      rw [d2] at t2
      rw [d1, d2]
      exact ⟨⟨chk_setAt hq kq (by omega), m3, t1, hp, m2, t2, rfl⟩, ⟨fq.o, fq.w⟩, fp⟩
    · rw [d1] at t1
      rw [d2] at t2
      rw [d1, d2]
      exact ⟨⟨hq, m3, t1, chk_setAt hp kp (by omega), m2, t2, rfl⟩, fq, ⟨fp.o, fp.w⟩⟩
  · split at h
    · rename_i hs
      obtain ⟨m3, t1, t2⟩ := comm_mh hp hs.1 hs.2.1 hs.2.2 s1 s2
      cases h
      exact ⟨⟨chk_rename hq hs.2.1 (chk_path hp), m3, t1, hp, m2, t2, rfl⟩, ⟨fq.o, fq.w⟩, fp⟩
    · split at h
      · rename_i hs
        obtain ⟨m3, t1, t2⟩ := comm_hm hq hs.1 hs.2.1 hs.2.2 s1 s2
        cases h
        exact ⟨⟨hq, m3, t1, chk_rename hp hs.1 (chk_to hq hs.2.1).1, m2, t2, rfl⟩, fq, ⟨fp.o, fp.w⟩⟩
      · split at h
        · rename_i hs
          obtain ⟨m3, t1, t2⟩ := comm_apart hs s1 s2
          cases h
          exact ⟨⟨hq, m3, t1, hp, m2, t2, rfl⟩, fq, fp⟩
        · cases h

/-! ### Rows -/
theorem past_run {c : Nat} : ∀ (l acc : List Prm) (p : Prm) (x : List Prm) (p' : Prm), pastG acc p l = (x, p', 0) → Fw p c → (∀ q ∈ acc, Fw q c) → (∀ q ∈ l, Fw q c) → ∀ {m m' : Mp} {k : Nat}, Bm m k → k + (acc.length + l.length + 1) * c ≤ 100000 →
    Run (acc ++ p :: l) m m' → Run (x ++ [p']) m m' ∧ (∀ q ∈ x, Fw q c) ∧ Fw p' c ∧ x.length = acc.length + l.length
  | [], acc, p, x, p', h, fp, fa, fl, m, m', k, hb, hk, hr => by
    rw [pastG] at h; cases h
    exact ⟨hr, fa, fp, rfl⟩
  | q :: l, acc, p, x, p', h, fp, fa, fl, m, m', k, hb, hk, hr => by
    rw [pastG] at h
    rw [List.length_cons] at hk
    by_cases h0 : (pairC p q).2.2 = 0
    · rw [if_neg (by simp [h0])] at h
      obtain ⟨m1, r1, r2⟩ := run_app.1 hr
      rw [show p :: q :: l = [p, q] ++ l from rfl] at r2
      obtain ⟨m2, r3, r4⟩ := run_app.1 r2
      have hb1 := run_bm r1 hb (fun q hq => (fa q hq).w)
      have hk2 : k + acc.length * c + 2 * c ≤ 100000 := by
        have : (acc.length + (l.length + 1) + 1) * c = acc.length * c + l.length * c + 2 * c := by rw [Nat.add_mul, Nat.add_mul, Nat.add_mul]; omega
        omega
      obtain ⟨r5, f1, f2⟩ := pair_run (p := p) (q := q) (b := (pairC p q).1) (a := (pairC p q).2.1) (by rw [← h0]) fp (fl q (by simp)) hb1 hk2 r3
      have hall : ∀ y ∈ acc ++ [(pairC p q).1], Fw y c := fun y hy => by
        rcases List.mem_append.1 hy with hy | hy
        · exact fa y hy
        · rw [List.mem_singleton.1 hy]; exact f1
      obtain ⟨g1, g2, g3, g4⟩ := past_run l (acc ++ [(pairC p q).1]) (pairC p q).2.1 x p' h f2 hall (fun y hy => fl y (List.mem_cons_of_mem _ hy)) hb (by
        rw [List.length_append, List.length_cons, List.length_nil]
        rw [show acc.length + (0 + 1) + l.length + 1 = acc.length + (l.length + 1) + 1 by omega]; exact hk) (by
        rw [List.append_assoc, show [(pairC p q).1] ++ (pairC p q).2.1 :: l = [(pairC p q).1, (pairC p q).2.1] ++ l from rfl]
        exact run_app.2 ⟨m1, r1, run_app.2 ⟨m2, r5, r4⟩⟩)
      refine ⟨g1, g2, g3, ?_⟩
      rw [g4, List.length_append, List.length_cons, List.length_cons, List.length_nil]; omega
    · rw [if_pos h0] at h
      exact absurd (Prod.mk.inj (Prod.mk.inj h).2).2 h0
theorem rows_run {c : Nat} : ∀ (l ahead behind x y : List Prm), rowsG l ahead behind = (x, y, 0) → (∀ q ∈ l, Fw q c) → (∀ q ∈ ahead, Fw q c) → (∀ q ∈ behind, Fw q c) → ∀ {m m' : Mp} {k : Nat}, Bm m k → k + (l.length + ahead.length + 1) * c ≤ 100000 →
    Run (l.reverse ++ ahead ++ behind) m m' → Run (x ++ y) m m' ∧ (∀ q ∈ x, Fw q c) ∧ (∀ q ∈ y, Fw q c) ∧ x.length = ahead.length ∧ y.length = l.length + behind.length
  | [], ahead, behind, x, y, h, fl, fa, fb, m, m', k, hb, hk, hr => by
    rw [rowsG] at h; cases h
    exact ⟨hr, fa, fb, rfl, by simp⟩
  | p :: l, ahead, behind, x, y, h, fl, fa, fb, m, m', k, hb, hk, hr => by
    rw [rowsG] at h
    rw [List.length_cons] at hk
    by_cases h0 : (pastP p ahead).2.2 = 0
    · rw [if_neg (by simp [h0])] at h
      rw [List.reverse_cons, List.append_assoc, List.append_assoc] at hr
      obtain ⟨m1, r1, r2⟩ := run_app.1 hr
      rw [← List.append_assoc] at r2
      obtain ⟨m2, r3, r4⟩ := run_app.1 r2
      have hb1 := run_bm r1 hb (fun q hq => (fl q (List.mem_cons_of_mem _ (List.mem_reverse.1 hq))).w)
      rw [List.length_reverse] at hb1
      have hk1 : (l.length + 1 + ahead.length + 1) * c = l.length * c + (ahead.length + 1) * c + c := by
        rw [show l.length + 1 + ahead.length + 1 = l.length + ((ahead.length + 1) + 1) by omega, Nat.add_mul, Nat.succ_mul]; omega
      obtain ⟨g1, g2, g3, g4⟩ := past_run ahead [] p (pastP p ahead).1 (pastP p ahead).2.1 (by show pastP p ahead = _; rw [← h0]) (fl p (by simp)) (fun q hq => by cases hq) fa hb1 (by
        rw [List.length_nil, Nat.zero_add]; omega) r3
      rw [List.length_nil, Nat.zero_add] at g4
      obtain ⟨e1, e2, e3, e4, e5⟩ := rows_run l (pastP p ahead).1 ((pastP p ahead).2.1 :: behind) x y h (fun q hq => fl q (List.mem_cons_of_mem _ hq)) g2 (fun q hq => by
        rcases List.mem_cons.1 hq with rfl | hq
        · exact g3
        · exact fb q hq) hb (by rw [g4]; rw [show (l.length + ahead.length + 1) * c = l.length * c + (ahead.length + 1) * c by rw [Nat.add_assoc, Nat.add_mul]]; omega) (by
        rw [List.append_assoc, show (pastP p ahead).1 ++ (pastP p ahead).2.1 :: behind = ((pastP p ahead).1 ++ [(pastP p ahead).2.1]) ++ behind by simp]
        exact run_app.2 ⟨m1, r1, run_app.2 ⟨m2, g1, r4⟩⟩)
      refine ⟨e1, e2, e3, by omega, ?_⟩
      rw [e5, List.length_cons, List.length_cons]; omega
    · rw [if_pos h0] at h
      exact absurd (Prod.mk.inj (Prod.mk.inj h).2).2 h0
theorem front_run {c : Nat} : ∀ (l : List Prm) (one : Prm) (rest y : List Prm), frontR l one rest = (y, 0) → (∀ q ∈ l, Fw q c) → Fw one c → (∀ q ∈ rest, Fw q c) → ∀ {m m' : Mp} {k : Nat}, Bm m k → k + (l.length + 1) * c ≤ 100000 →
    Run (l.reverse ++ one :: rest) m m' → Run y m m' ∧ (∀ q ∈ y, Fw q c) ∧ y.length = l.length + 1 + rest.length
  | [], one, rest, y, h, fl, fo, fr, m, m', k, hb, hk, hr => by
    rw [frontR] at h; cases h
    refine ⟨hr, fun q hq => ?_, by simp; omega⟩
    rcases List.mem_cons.1 hq with rfl | hq
    · exact fo
    · exact fr q hq
  | p :: l, one, rest, y, h, fl, fo, fr, m, m', k, hb, hk, hr => by
    rw [frontR] at h
    rw [List.length_cons] at hk
    by_cases h0 : (pairC p one).2.2 = 0
    · rw [if_neg (by simp [h0])] at h
      rw [List.reverse_cons, List.append_assoc] at hr
      obtain ⟨m1, r1, r2⟩ := run_app.1 hr
      rw [show [p] ++ one :: rest = [p, one] ++ rest from rfl] at r2
      obtain ⟨m2, r3, r4⟩ := run_app.1 r2
      have hb1 := run_bm r1 hb (fun q hq => (fl q (List.mem_cons_of_mem _ (List.mem_reverse.1 hq))).w)
      rw [List.length_reverse] at hb1
      have hk1 : (l.length + 1 + 1) * c = l.length * c + 2 * c := by rw [Nat.add_assoc, Nat.add_mul]
      obtain ⟨r5, f1, f2⟩ := pair_run (p := p) (q := one) (b := (pairC p one).1) (a := (pairC p one).2.1) (by rw [← h0]) (fl p (by simp)) fo hb1 (by omega) r3
      obtain ⟨e1, e2, e3⟩ := front_run l (pairC p one).1 ((pairC p one).2.1 :: rest) y h (fun q hq => fl q (List.mem_cons_of_mem _ hq)) f1 (fun q hq => by
        rcases List.mem_cons.1 hq with rfl | hq
        · exact f2
        · exact fr q hq) hb (by rw [Nat.succ_mul]; omega) (run_app.2 ⟨m1, r1, by
        rw [show (pairC p one).1 :: (pairC p one).2.1 :: rest = [(pairC p one).1, (pairC p one).2.1] ++ rest from rfl]
        exact run_app.2 ⟨m2, r5, r4⟩⟩)
      refine ⟨e1, e2, ?_⟩
      rw [e3, List.length_cons, List.length_cons]; omega
    · rw [if_pos h0] at h
      exact absurd (Prod.mk.inj h).2 h0

end Go.Proofs.YtabhngbpkfdeiaaGreatDoor.Sp
end
section
/- Two steps that have changed places change back. Conditions: lengths and places as they stand in each statement. -/
set_option linter.unusedVariables false
set_option linter.unusedSimpArgs false
namespace Go.Proofs.YtabhngbpkfdeiaaGreatDoor.Sp
open Go Go.Proofs.YtabhngbpkfdeiaaGreatDoor.Ab Go.Proofs.YtabhngbpkfdeiaaGreatDoor.Tb Go.Proofs.YtabhngbpkfdeiaaGreatDoor.EText

end Go.Proofs.YtabhngbpkfdeiaaGreatDoor.Sp
end
section
/- prim.Apply and prim.All in plain words. Conditions: lengths as they stand in each statement. -/
set_option linter.unusedVariables false
set_option linter.unusedSimpArgs false
namespace Go.Proofs.YtabhngbpkfdeiaaGreatDoor.Sp
open Go Go.Proofs.YtabhngbpkfdeiaaGreatDoor.Ab Go.Proofs.YtabhngbpkfdeiaaGreatDoor.Tb Go.Proofs.YtabhngbpkfdeiaaGreatDoor.EText

abbrev hk (p : Prm) : Int × List Txt × List Txt := p.2.2.2
theorem dcheck1_ok (p : Prm) (h0 : 0 ≤ p.2.2.2.1) (h1 : p.2.2.2.2.1.length + p.2.2.2.2.2.length ≠ 0) (hm : Md p) : cR 131 [RT.d (.int .i64)] [inj (.sl ty43) [hk p]] = some 0 := by
  have e1 : IntKind.i64.wrap ((0 : Int) + 1) = 1 := wr _ (by omega)
  have e2 : IntKind.i64.wrap ((p.2.2.2.2.1.length : Int) + (p.2.2.2.2.2.length : Int)) = ((p.2.2.2.2.1.length + p.2.2.2.2.2.length : Nat) : Int) := by
    have := hm.old.1; have := hm.new.1
    rw [wr _ (by omega)]; omega
  have hend : l131_2 [hk p] [hk p] 1 1 = some (injRs [RT.d (.int .i64)] 0) := by
    refine cutG_step ((q131_2 ..).trans ?_)
    rw [ifs_neg (by simp)]
  have hst : l131_2 [hk p] [hk p] 1 0 = some (injRs [RT.d (.int .i64)] 0) := by
    refine cutG_step ((q131_2 ..).trans ?_)
    rw [ifs_pos (by simp), ifs_pos (by omega), show ([hk p] : List (Int × List Txt × List Txt))[Int.toNat 0]? = some (hk p) from rfl, Option.bind_some, ifs_pos (by simp; omega), e2, ifs_pos (by simp; omega), ifs_neg (by simp), e1]
    exact hend
  exact callT_of ((e131 [hk p]).trans hst)
theorem dapply1_ok (ls : List Txt) (p : Prm) (h0 : 0 ≤ p.2.2.2.1) (h1 : p.2.2.2.2.1.length + p.2.2.2.2.2.length ≠ 0) (hm : Md p) (hls : ls.length ≤ 100000) :
    cR 95 [RT.own 9 .str, RT.d (.int .i64)] [inj (.sl .str) ls, inj (.sl ty43) [hk p]] = some (match hdo ls p with | some x => (x, 0) | none => ([], 13)) := by
  have ho := hm.old.1
  have hw := hm.new.1
  have hw' : (hk p).2.2.length ≤ 1000000 := hw
  refine callT_of ((e95 ls [hk p]).trans ?_)
  rw [dcheck1_ok p h0 h1 hm, Option.bind_some, ifs_neg (by simp)]
  refine cutG_step ((q95_7 ..).trans ?_)
  rw [ifs_pos (by simp), ifs_pos (by omega), show ([hk p] : List (Int × List Txt × List Txt))[Int.toNat 0]? = some (hk p) from rfl, Option.bind_some]
  obtain ⟨n, hn⟩ : ∃ n : Nat, p.2.2.2.1 = n := ⟨p.2.2.2.1.toNat, by omega⟩
  unfold hdo
  show ifs (decide (p.2.2.2.1 > (ls.length : Int)) = false) _ _ = _
  rw [hn, Int.toNat_natCast]
  by_cases c1 : n > ls.length
  · rw [ifs_neg (by simp; omega), if_neg (by omega)]
  · rw [ifs_pos (by simp; omega)]
    show ifs (decide ((p.2.2.2.2.1.length : Int) > IntKind.i64.wrap ((ls.length : Int) - (n : Int))) = false) _ _ = _
    have e1 : IntKind.i64.wrap ((ls.length : Int) - (n : Int)) = (ls.length : Int) - (n : Int) := wr _ (by omega)
    rw [e1]
    by_cases c2 : p.2.2.2.2.1.length > ls.length - n
    · rw [ifs_neg (by simp; omega), if_neg (by omega)]
    · rw [ifs_pos (by simp; omega)]
      have e2 : IntKind.i64.wrap ((n : Int) + (p.2.2.2.2.1.length : Int)) = ((n + p.2.2.2.2.1.length : Nat) : Int) := by rw [wr _ (by omega)]; omega
      simp only [e2]
      rw [ifs_pos (by omega), ifs_pos (by omega)]
      simp only [Int.toNat_natCast]
      rw [lsame_ok _ _ (by rw [List.length_drop, List.length_take]; have : (100000 : Nat) ≤ top := by decide
                           omega), Option.bind_some]
      have e3 : List.drop n (List.take (n + p.2.2.2.2.1.length) ls) = (ls.drop n).take p.2.2.2.2.1.length := by rw [List.drop_take]; congr 1; omega
      rw [e3]
      by_cases c3 : (ls.drop n).take p.2.2.2.2.1.length = p.2.2.2.2.1
      · rw [ifs_neg (by simp [c3]), ifs_pos (by omega), ifs_pos (by omega), if_pos ⟨by omega, c3⟩]
        have e4 : IntKind.i64.wrap ((0 : Int) + 1) = 1 := wr _ (by omega)
        rw [ifs_pos (by simp only [List.length_nil, List.length_drop, List.length_take]; omega), ifs_pos (by simp only [List.length_nil, List.length_drop, List.length_take, List.length_append]; omega), e4]
        refine cutG_step ((q95_7 ..).trans ?_)
        rw [ifs_neg (by simp), ifs_pos (by omega), ifs_pos (by omega)]
        rw [ifs_pos (by simp only [List.length_nil, List.length_drop, List.length_take, List.length_append, Int.toNat_natCast]; omega)]
        simp only [Int.toNat_natCast, List.take_length, List.take_nil, List.nil_append, Int.toNat_zero, List.drop_zero]
      · rw [ifs_pos (by simp [c3]), if_neg (by rintro ⟨_, h⟩; exact c3 h)]
theorem pgone_ok (l : List Fil) (hl : Tk l) (p : Txt) (hp : p.size ≤ 100000) (d : Bool) : cR 50 [RT.d ty31, RT.d (.int .i64)] [inj ty31 (l, ()), inj .str p, inj .bool d] = some (((goneP l p d).1, ()), (goneP l p d).2) := by
  refine callT_of ((e50 (l, ()) p d).trans ?_)
  rw [get_ok l hl p hp, Option.bind_some, getP_snd]
  unfold goneP
  cases hh : hasP l p with
  | false => rw [ifs_pos (by rfl), if_pos rfl]
  | true =>
    rw [ifs_neg (by simp), if_neg (by simp)]
    by_cases hd : (getP l p).1.2.1 = d
    · rw [ifs_neg (by simp [hd]), if_neg (by simp [hd]), lenpos]
      by_cases h0 : (getP l p).1.2.2 = []
      · rw [ifs_neg (by simp [h0]), if_neg (by simp [h0]), remove_ok l hl p hp, Option.bind_some]
      · rw [ifs_pos (by simpa using h0), if_pos h0]
    · rw [ifs_pos (by simpa using hd), if_pos hd]
theorem write2_ok (l : List Fil) (hl : Tk l) (p : Txt) (hp : p.size ≤ 100000) (ls : List Txt) (hls : LOk ls) : cR 53 [RT.d ty31, RT.d (.int .i64)] [inj ty31 (l, ()), inj .str p, inj (.sl .str) ls] = some (((wrP l p ls).1, ()), (wrP l p ls).2) := by
  refine callT_of ((e53 (l, ()) p ls).trans ?_)
  rw [pright_ok p hp, Option.bind_some, get_ok l hl p hp, Option.bind_some, getP_snd, room_ok l hl p hp, Option.bind_some, lcheck_ok ls hls, Option.bind_some]
  unfold wrP
  cases hr : rightP p with
  | false => rw [ifs_pos (by rfl), if_pos rfl]
  | true =>
    rw [ifs_neg (by simp), if_neg (by simp)]
    cases hd : (getP l p).1.2.1 with
    | true => rw [ifs_pos rfl, if_pos rfl]
    | false =>
      rw [ifs_neg (by simp), if_neg (by simp)]
      by_cases hc : checkL ls = 0
      · rw [ifs_neg (by simp [hc]), if_neg (by simp [hc])]
        have h2 := (checkL_LOk hc).2
        have hw := with_ok l hl (p, false, ls) ⟨hr, hls, (by show ls.length ≤ 3000; omega)⟩
        by_cases h0 : roomB l p = 0
        · rw [ifs_neg (by simp [h0]), if_neg (by simp [h0]), hw, Option.bind_some]
        · rw [ifs_pos (by simpa using h0)]
          cases hh : hasP l p with
          | false => rw [ifs_pos (by rfl), if_pos ⟨h0, rfl⟩]
          | true => rw [ifs_neg (by simp), if_neg (by simp), hw, Option.bind_some]
      · rw [ifs_pos (by simpa using hc), if_pos hc]
theorem hdo_LOk {ls x : List Txt} {p : Prm} (hm : Md p) (h : hdo ls p = some x) (hl : LOk ls) (hn : ls.length ≤ 100000) : LOk x := by
  unfold hdo at h
  split at h
  · cases h
    have := hm.new.1
    have ht : (10000000 : Nat) ≤ top := by decide
    refine ⟨by simp only [List.length_append, List.length_take, List.length_drop]; omega, fun s hs => ?_⟩
    rcases List.mem_append.1 hs with hs | hs
    · rcases List.mem_append.1 hs with hs | hs
      · exact hl.2 s (List.mem_of_mem_take hs)
      · exact hm.new.ok.2 s hs
    · exact hl.2 s (List.mem_of_mem_drop hs)
  · cases h
theorem phunk_ok (l : List Fil) (hl : Tk l) (p : Prm) (hm : Md p) (hc : chk p = 0) (k : p.1 = 6) : cR 52 [RT.d ty31, RT.d (.int .i64)] [inj ty31 (l, ()), inj ty40 p] = some (((hunkP l p).1, ()), (hunkP l p).2) := by
  have h6 := chk_hunk hc k
  refine callT_of ((e52 (l, ()) p).trans ?_)
  rw [get_ok l hl _ hm.path, Option.bind_some, getP_snd]
  unfold hunkP
  cases hh : hasP l p.2.1 with
  | false => rw [ifs_pos (by rfl), if_pos rfl]
  | true =>
    have hf := hl.f _ (getP_mem hh).1
    rw [ifs_neg (by simp), if_neg (by simp)]
    cases hd : (getP l p.2.1).1.2.1 with
    | true => rw [ifs_pos rfl, if_pos rfl]
    | false =>
      have hn := hf.n
      have ha := dapply1_ok (getP l p.2.1).1.2.2 p h6.1 h6.2.1 hm (by omega)
      rw [ifs_neg (by simp), if_neg (by simp)]
      refine (congrArg (fun o => Option.bind o _) ha).trans ?_
      rw [Option.bind_some]
      cases hx : hdo (getP l p.2.1).1.2.2 p with
      | none =>
        simp only
        rw [ifs_pos (by simp)]
      | some x =>
        simp only
        rw [ifs_neg (by simp), List.take_length, write2_ok l hl _ hm.path x (hdo_LOk hm hx hf.l (by omega)), Option.bind_some]
theorem papply_ok (l : List Fil) (hl : Tk l) (p : Prm) (hm : Md p) : cR 15 [RT.d ty31, RT.d (.int .i64)] [inj ty31 (l, ()), inj ty40 p] = some (((applyP l p).1, ()), (applyP l p).2) := by
  refine callT_of ((e15 (l, ()) p).trans ?_)
  rw [pcheck_ok p hm, Option.bind_some]
  unfold applyP
  by_cases hc : chk p = 0
  · rw [ifs_neg (by simp [hc]), if_neg (by simp [hc])]
    by_cases k1 : p.1 = 1
    · rw [ifs_pos (by simp [k1]), if_pos k1, mkdir_ok l hl _ hm.path, Option.bind_some]
    rw [ifs_neg (by simpa using k1), if_neg k1]
    by_cases k2 : p.1 = 2
    · rw [ifs_pos (by simp [k2]), if_pos (.inl k2), show (p.1 == (2 : Int)) = decide (p.1 = 2) from rfl, pgone_ok l hl _ hm.path, Option.bind_some]
    rw [ifs_neg (by simpa using k2)]
    by_cases k4 : p.1 = 4
    · rw [ifs_pos (by simp [k4]), if_pos (.inr k4), show (p.1 == (2 : Int)) = decide (p.1 = 2) from rfl, pgone_ok l hl _ hm.path, Option.bind_some]
    rw [ifs_neg (by simpa using k4), if_neg (by omega)]
    by_cases k5 : p.1 = 5
    · rw [ifs_pos (by simp [k5]), if_pos k5, move_ok l hl _ _ hm.path hm.dst, Option.bind_some]
    rw [ifs_neg (by simpa using k5), if_neg k5]
    by_cases k6 : p.1 = 6
    · rw [ifs_pos (by simp [k6]), if_pos k6, phunk_ok l hl p hm hc k6, Option.bind_some]
    rw [ifs_neg (by simpa using k6), if_neg k6, get_ok l hl _ hm.path, Option.bind_some, getP_snd]
    cases hh : hasP l p.2.1 with
    | true => rw [ifs_pos rfl, if_pos rfl]
    | false =>
      rw [ifs_neg (by simp), if_neg (by simp), write2_ok l hl _ hm.path [] ⟨Nat.zero_le _, fun s hs => (by cases hs)⟩, Option.bind_some]
  · rw [ifs_pos (by simpa using hc), if_pos hc]
theorem pall_loop (s : List Prm) (hs : ∀ p ∈ s, Md p) : ∀ (r : List Prm) (i : Nat) (l : List Fil) (n : Nat), s.drop i = r → i ≤ s.length → s.length ≤ 100000 → Gd l n → n + r.length < 500 →
    l21_2 s (s.length : Int) (i : Int) l = some (injRs [RT.d ty31, RT.d (.int .i64)] (((appsP l r).1, ()), (appsP l r).2))
  | [], i, l, n, hr, hi, h100, hg, hn => by
    have hlen := congrArg List.length hr
    rw [List.length_drop, List.length_nil] at hlen
    refine cutG_step ((q21_2 ..).trans ?_)
    rw [ifs_neg (by simp; omega)]
    rfl
  | p :: r, i, l, n, hr, hi, h100, hg, hn => by
    have hlen := congrArg List.length hr
    rw [List.length_drop, List.length_cons] at hlen
    rw [List.length_cons] at hn
    have hlt : i < s.length := by omega
    have hp : s[i] = p := by
      have := List.drop_eq_getElem_cons hlt
      rw [hr] at this
      exact (List.cons.inj this).1.symm
    have hr' : s.drop (i + 1) = r := by
      have := List.drop_eq_getElem_cons hlt
      rw [hr] at this
      exact (List.cons.inj this).2.symm
    have e3 : IntKind.i64.wrap ((i : Int) + 1) = ((i + 1 : Nat) : Int) := by rw [wr _ (by omega)]; omega
    have hpm : Md p := by rw [← hp]; exact hs _ (List.getElem_mem hlt)
    refine cutG_step ((q21_2 ..).trans ?_)
    rw [ifs_pos (by simp; omega), ifs_pos (by omega), Int.toNat_natCast, at_ok hlt, hp, papply_ok l hg.tk p hpm, Option.bind_some, e3]
    have e4 : appsP l (p :: r) = if (applyP l p).2 ≠ 0 then ([], (applyP l p).2) else appsP (applyP l p).1 r := rfl
    rw [e4]
    by_cases h0 : (applyP l p).2 = 0
    · obtain ⟨_, _, hg2⟩ := of_apply hg (by omega) (p := p) (l' := (applyP l p).1) (by rw [← h0])
      have c : ¬ (applyP l p).2 ≠ 0 := by simp [h0]
      rw [ifs_neg (by simp [h0])]
      simp only [if_neg c]
      exact pall_loop s hs r (i + 1) _ (n + 1) hr' (by omega) h100 hg2 (by omega)
    · have c : (applyP l p).2 ≠ 0 := h0
      rw [ifs_pos (by simp [h0])]
      simp only [if_pos c]
theorem pall_ok (l : List Fil) (s : List Prm) {n : Nat} (hg : Gd l n) (hn : n + s.length < 500) (hs : ∀ p ∈ s, Md p) : cR 21 [RT.d ty31, RT.d (.int .i64)] [inj ty31 (l, ()), inj (.sl ty40) s] = some (((appsP l s).1, ()), (appsP l s).2) :=
  callT_of ((e21 (l, ()) s).trans (pall_loop s hs s 0 l n rfl (Nat.zero_le _) (by omega) hg hn))
/-! ### tree.Same; light files -/
theorem tsame_ok (l : List Fil) (hl : l.length ≤ 100000) (hf : ∀ f ∈ l, f.2.2.length ≤ top) : cR 26 [RT.d .bool] [inj ty31 (l, ()), inj ty31 (l, ())] = some true := by
  have h1 : ∀ f ∈ l, cR 62 [RT.d .bool] [inj ty35 f, inj ty35 f] = some true := fun f hm => by
    refine callT_of ((e62 f f).trans ?_)
    rw [ifs_pos (by simp), ifs_pos (by simp), lsame_ok _ _ (hf f hm), Option.bind_some]
    simp
  have h2 : ∀ i, i ≤ l.length → l61_4 l l (l.length : Int) (i : Int) = some (injRs [RT.d .bool] true) := by
    refine upTo (C := fun i => l61_4 l l (l.length : Int) (i : Int) = some (injRs [RT.d .bool] true)) (fun i hi ih => ?_) ?_
    · refine cutG_step ((q61_4 ..).trans ?_)
      have e3 : IntKind.i64.wrap ((i : Int) + 1) = ((i + 1 : Nat) : Int) := by rw [wr _ (by omega)]; omega
      rw [ifs_pos (by simp; omega), ifs_pos (by omega), Int.toNat_natCast, at_ok hi, ifs_pos (by omega), at_ok hi, h1 _ (List.getElem_mem hi), Option.bind_some, ifs_neg (by simp), e3]
      exact ih
    · refine cutG_step ((q61_4 ..).trans ?_)
      rw [ifs_neg (by simp)]
  have h3 : cR 61 [RT.d .bool] [inj (.sl ty35) l, inj (.sl ty35) l, A.c (C.cl 62 [])] = some true := by
    refine callT_of ((e61 l l).trans ?_)
    rw [ifs_neg (by simp)]
    exact h2 0 (Nat.zero_le _)
  refine callT_of ((e26 (l, ()) (l, ())).trans ?_)
  rw [h3, Option.bind_some]
def FOk (f : Fil) : Prop := f.2.2.length ≤ top
def lightF (f : Fil) : Bool := decide (f.1.size ≤ 300) && light3 f.2.2
def light6 (l : List Fil) : Bool := l.all lightF && decide (l.length ≤ 40)
theorem light6_ok (l : List Fil) (hl : l.length ≤ top) (hf : ∀ f ∈ l, FOk f) : cR 19 [RT.d .bool] [inj (.sl ty35) l] = some (light6 l) := by
  have hlp : ∀ i, i ≤ l.length → l19_2 l (i : Int) = some (injRs [RT.d .bool] ((l.drop i).all lightF && decide (l.length ≤ 40))) := by
    refine upTo (C := fun i => l19_2 l (i : Int) = some (injRs [RT.d .bool] ((l.drop i).all lightF && decide (l.length ≤ 40)))) (fun i hi ih => ?_) ?_
    · refine cutG_step ((q19_2 ..).trans ?_)
      rw [List.drop_eq_getElem_cons hi, List.all_cons, ifs_pos (by simp; omega), ifs_pos (by omega), Int.toNat_natCast, at_ok hi, wrS hi hl, ih]
      unfold lightF
      by_cases h1 : l[i].1.size ≤ 300
      · rw [ifs_pos (by simp; omega), ifs_pos (by omega), at_ok hi, light3_ok _ (hf _ (List.getElem_mem hi)), Option.bind_some, decide_eq_true h1]
        cases light3 l[i].2.2 with
        | true => rw [ifs_neg (by simp)]; simp
        | false => rw [ifs_pos (by rfl)]; rfl
      · rw [ifs_neg (by simp; omega), decide_eq_false h1]; rfl
    · refine cutG_step ((q19_2 ..).trans ?_)
      rw [ifs_neg (by simp), List.drop_length, List.all_nil, Bool.true_and, show decide ((l.length : Int) ≤ 40) = decide (l.length ≤ 40) from decide_eq_decide.2 (by omega)]
  have := hlp 0 (Nat.zero_le _)
  rw [List.drop_zero] at this
  exact callT_of ((e19 l).trans this)
theorem light3_spec {l : List Txt} (h : light3 l = true) : l.length ≤ 60 ∧ ∀ s ∈ l, s.size ≤ 300 := by
  unfold light3 at h
  simp only [Bool.and_eq_true, List.all_eq_true, decide_eq_true_eq] at h
  exact ⟨h.2, h.1⟩
theorem light6_spec {l : List Fil} (h : light6 l = true) : l.length ≤ 40 ∧ ∀ f ∈ l, f.1.size ≤ 300 ∧ f.2.2.length ≤ 60 ∧ ∀ s ∈ f.2.2, s.size ≤ 300 := by
  unfold light6 at h
  simp only [Bool.and_eq_true, List.all_eq_true, decide_eq_true_eq] at h
  refine ⟨h.2, fun f hf => ?_⟩
  have := h.1 f hf
  unfold lightF at this
  simp only [Bool.and_eq_true, decide_eq_true_eq] at this
  exact ⟨this.1, light3_spec this.2⟩
theorem light7_spec {l : List Prm} (h : light7 l = true) : l.length ≤ 40 ∧ ∀ p ∈ l, Md p ∧ Fw p 60 := by
  unfold light7 at h
  simp only [Bool.and_eq_true, List.all_eq_true, decide_eq_true_eq] at h
  refine ⟨h.2, fun p hp => ?_⟩
  have := h.1 p hp
  unfold lightP at this
  simp only [Bool.and_eq_true, decide_eq_true_eq] at this
  obtain ⟨⟨⟨a, b⟩, c⟩, d⟩ := this
  obtain ⟨c1, c2⟩ := light3_spec c
  obtain ⟨d1, d2⟩ := light3_spec d
  exact ⟨⟨by omega, by omega, ⟨by omega, fun s hs => by have := c2 s hs; omega⟩, ⟨by omega, fun s hs => by have := d2 s hs; omega⟩⟩, ⟨c1, d1⟩⟩
theorem light_of {l : List Fil} (h : light6 l = true) : (∀ f ∈ l, f.1.size ≤ 100000 ∧ LOk f.2.2) ∧ l.length ≤ 40 := by
  obtain ⟨h1, h2⟩ := light6_spec h
  refine ⟨fun f hf => ?_, h1⟩
  obtain ⟨a, b, c⟩ := h2 f hf
  have ht : (300 : Nat) ≤ top := by decide
  exact ⟨by omega, ⟨by omega, fun s hs => by have := c s hs; omega⟩⟩
theorem bm_of {l t : List Fil} {n : Nat} (h : light6 l = true) (hg : Gd t n) (hm : ∀ g ∈ t, g ∈ l) : Bm (mp t) 60 := fun x e hx => by
  have h1 := (mp_mem hg.tk.s).1 hx
  have h2 := (light6_spec h).2 _ (hm _ h1)
  exact ⟨h2.2.1, checkL_all (hg.c _ h1)⟩

end Go.Proofs.YtabhngbpkfdeiaaGreatDoor.Sp
end
section
/- How a row of files, and a law's struct of them, stand in memory. No condition. -/
set_option linter.unusedVariables false
namespace Go.Proofs.YtabhngbpkfdeiaaGreatDoor.SpR
open Go Go.ChangeShapes Go.WideShapes Go.Proofs.YtabhngbpkfdeiaaGreatDoor.Ab Go.Proofs.YtabhngbpkfdeiaaGreatDoor.AbO Go.Proofs.YtabhngbpkfdeiaaGreatDoor.Tb
theorem c_file : Tryz.prog.cellsOf 35 = 3 := by kernel_rfl
theorem c_bool : Tryz.prog.cellsOf 4 = 1 := by kernel_rfl
def QF (c : ByteArray × Bool × List ByteArray) : Prop := QT c.1 ∧ QL c.2.2
theorem op_file : AbO.Op Tryz.prog 35 ty35 QF := by
  intro H enc w base sp held fuel cs x h
  obtain ⟨hl, n, hf⟩ := EOpen.struct_get Tryz.underlying35 h
  rw [c_file] at hl
  obtain ⟨y0, h0⟩ := hf 0 _ rfl
  obtain ⟨y1, h1⟩ := hf 1 _ rfl
  obtain ⟨y2, h2⟩ := hf 2 _ rfl
  replace h0 : DataW.trod enc Tryz.prog w base sp held n 9 ((cs.drop 0).take (Tryz.prog.cellsOf 9)) = some y0 := h0
  rw [c_str] at h0
  replace h1 : DataW.trod enc Tryz.prog w base sp held n 4 ((cs.drop 1).take (Tryz.prog.cellsOf 4)) = some y1 := h1
  rw [c_bool] at h1
  replace h2 : DataW.trod enc Tryz.prog w base sp held n 22 ((cs.drop 2).take (Tryz.prog.cellsOf 22)) = some y2 := h2
  rw [c_strs] at h2
  rw [List.drop_zero] at h0
  obtain ⟨d0, r0, q0⟩ := op_s enc w base sp held n _ _ h0
  obtain ⟨d1, r1, q1⟩ := op_bool Tryz.underlying4 enc w base sp held n _ _ h1
  obtain ⟨d2, r2, q2⟩ := op_ss enc w base sp held n _ _ h2
  refine ⟨(d0, d1, d2), pair_T r0 (pair_T r1 ?_), q0, q2⟩
  simp only [List.drop_drop]
  rw [List.take_of_length_le (by rw [List.length_drop]; omega)] at r2
  exact r2
theorem op_files : AbO.Op Tryz.prog 29 (.sl ty35) (fun l => l.length ≤ maxLen ∧ ∀ c ∈ l, QF c) := op_slice (T := ty35) Tryz.underlying29 c_file (by decide) op_file
theorem c_files : Tryz.prog.cellsOf 29 = 1 := by kernel_rfl
theorem c_prims : Tryz.prog.cellsOf 48 = 1 := by kernel_rfl
theorem c_four : Tryz.prog.cellsOf 66 = 4 := by kernel_rfl
abbrev Four := List (ByteArray × Bool × List ByteArray) × List Prm × List Prm × Int
def QFour (c : Four) : Prop := (c.1.length ≤ maxLen ∧ ∀ f ∈ c.1, QF f) ∧ (c.2.1.length ≤ maxLen ∧ ∀ f ∈ c.2.1, QP f) ∧ (c.2.2.1.length ≤ maxLen ∧ ∀ f ∈ c.2.2.1, QP f) ∧ QI c.2.2.2
theorem op_four : AbO.Op Tryz.prog 66 ty66 QFour := by
  intro H enc w base sp held fuel cs x h
  obtain ⟨hl, n, hf⟩ := EOpen.struct_get Tryz.underlying66 h
  rw [c_four] at hl
  obtain ⟨y0, h0⟩ := hf 0 _ rfl
  obtain ⟨y1, h1⟩ := hf 1 _ rfl
  obtain ⟨y2, h2⟩ := hf 2 _ rfl
  obtain ⟨y3, h3⟩ := hf 3 _ rfl
  replace h0 : DataW.trod enc Tryz.prog w base sp held n 29 ((cs.drop 0).take (Tryz.prog.cellsOf 29)) = some y0 := h0
  rw [c_files] at h0
  replace h1 : DataW.trod enc Tryz.prog w base sp held n 48 ((cs.drop 1).take (Tryz.prog.cellsOf 48)) = some y1 := h1
  rw [c_prims] at h1
  replace h2 : DataW.trod enc Tryz.prog w base sp held n 48 ((cs.drop 2).take (Tryz.prog.cellsOf 48)) = some y2 := h2
  rw [c_prims] at h2
  replace h3 : DataW.trod enc Tryz.prog w base sp held n 3 ((cs.drop 3).take (Tryz.prog.cellsOf 3)) = some y3 := h3
  rw [c_int] at h3
  rw [List.drop_zero] at h0
  obtain ⟨d0, r0, q0⟩ := op_files enc w base sp held n _ _ h0
  obtain ⟨d1, r1, q1⟩ := op_prims enc w base sp held n _ _ h1
  obtain ⟨d2, r2, q2⟩ := op_prims enc w base sp held n _ _ h2
  obtain ⟨d3, r3, q3⟩ := op_i enc w base sp held n _ _ h3
  refine ⟨(d0, d1, d2, d3), pair_T r0 (pair_T r1 (pair_T ?_ ?_)), q0, q1, q2, q3⟩
  · simp only [List.drop_drop]; exact r2
  · simp only [List.drop_drop]
    rw [List.take_of_length_le (by rw [List.length_drop]; omega)] at r3
    exact r3
end Go.Proofs.YtabhngbpkfdeiaaGreatDoor.SpR
namespace Go.Proofs.YtabhngbpkfdeiaaGreatDoor.Sp
open Go
theorem file_of {c : Fil} (h : SpR.QF c) : FOk c := Nat.le_trans h.2.1 (by decide)
theorem prim_of {p : Prm} (h : SpR.QP p) : POk p := ⟨Nat.le_trans h.2.2.2.2.1.1 (by decide), Nat.le_trans h.2.2.2.2.2.1 (by decide)⟩
theorem lenF_of {n : Nat} (h : n ≤ maxLen) : n ≤ top := Nat.le_trans h (by decide)
theorem fitsF_of {n : Int} (h : SpR.QI n) : fits n := by
  unfold SpR.QI at h
  simp only [Lit.wf, Bool.and_eq_true, decide_eq_true_eq] at h
  exact ⟨by have := h.1; simpa [IntKind.min, IntKind.signed, IntKind.bits] using this, by have := h.2; simpa [IntKind.max, IntKind.signed, IntKind.bits] using this⟩
end Go.Proofs.YtabhngbpkfdeiaaGreatDoor.Sp
end
section
/- The laws FusePairs and FuseAll as plain Lean: each answers true. Conditions: lengths and numbers are those of the machine. -/
set_option linter.unusedVariables false
set_option linter.unusedSimpArgs false
namespace Go.Proofs.YtabhngbpkfdeiaaGreatDoor.Sp
open Go Go.Proofs.YtabhngbpkfdeiaaGreatDoor.Ab Go.Proofs.YtabhngbpkfdeiaaGreatDoor.Tb Go.Proofs.YtabhngbpkfdeiaaGreatDoor.EText

/-- An answer found by running the machine. -/
theorem callT_ofN {f : FuncId} {args : List A} {rts : List RT} {d : dens rts} (k : Nat) (h : callN W0 k f args = some (injRs rts d)) : cR f rts args = some d := by
  show (callW W0 f args).bind (prjRs rts) = some d
  have : callW W0 f args = some (injRs rts d) := limO_of (fun k q x hkq hx => callN_le hkq hx) h
  rw [this]
  exact prj_injRs rts d

/-! ### FuseAll -/
/-! ### FusePairs -/
end Go.Proofs.YtabhngbpkfdeiaaGreatDoor.Sp
end
section
/- The law CommuteThree as plain Lean: it answers true. Conditions: lengths and numbers are those of the machine. -/
set_option linter.unusedVariables false
set_option linter.unusedSimpArgs false
namespace Go.Proofs.YtabhngbpkfdeiaaGreatDoor.Sp
open Go Go.Proofs.YtabhngbpkfdeiaaGreatDoor.Ab Go.Proofs.YtabhngbpkfdeiaaGreatDoor.Tb Go.Proofs.YtabhngbpkfdeiaaGreatDoor.EText

/-- Where two hunks stand the other way round. -/
def Step (same : Prop) (P pn po Q qn qo Q' P' : Int) : Prop :=
  (¬ same ∧ Q' = Q ∧ P' = P) ∨ (same ∧ W64 (Q - pn) > P ∧ Q' = W64 (Q - W64 (pn - po)) ∧ P' = P) ∨ (same ∧ ¬ W64 (Q - pn) > P ∧ W64 (P - qo) > Q ∧ Q' = Q ∧ P' = W64 (P + W64 (qn - qo)))

/-- Of hunks in their range: no number is too great. -/
theorem Step.plain {same : Prop} {P pn po Q qn qo Q' P' : Int} (h : Step same P pn po Q qn qo Q' P') (hP : 0 ≤ P ∧ P ≤ 9223372036854775807) (hQ : 0 ≤ Q ∧ Q ≤ 9223372036854775807) (l1 : 0 ≤ pn ∧ pn ≤ 60) (l2 : 0 ≤ po ∧ po ≤ 60) (l3 : 0 ≤ qn ∧ qn ≤ 60) (l4 : 0 ≤ qo ∧ qo ≤ 60) :
    (¬ same ∧ Q' = Q ∧ P' = P) ∨ (same ∧ Q - pn > P ∧ Q' = W64 (Q - (pn - po)) ∧ P' = P) ∨ (same ∧ ¬ Q - pn > P ∧ P - qo > Q ∧ Q' = Q ∧ P' = W64 (P + (qn - qo))) := by
  unfold Step W64 at h
  unfold W64
  rw [wr (Q - pn) ⟨by omega, by omega⟩, wr (P - qo) ⟨by omega, by omega⟩, wr (pn - po) ⟨by omega, by omega⟩, wr (qn - qo) ⟨by omega, by omega⟩] at h
  exact h

end Go.Proofs.YtabhngbpkfdeiaaGreatDoor.Sp
end
section
/- The law CommuteThree as plain Lean: it answers true. Conditions: lengths and numbers are those of the machine. -/
set_option linter.unusedVariables false
set_option linter.unusedSimpArgs false
namespace Go.Proofs.YtabhngbpkfdeiaaGreatDoor.Sp
open Go Go.Proofs.YtabhngbpkfdeiaaGreatDoor.Ab Go.Proofs.YtabhngbpkfdeiaaGreatDoor.Tb Go.Proofs.YtabhngbpkfdeiaaGreatDoor.EText

theorem Md.zp : Md zp := ⟨by decide, by decide, ⟨by decide, fun s h => by cases h⟩, ⟨by decide, fun s h => by cases h⟩⟩
theorem Md.setAt {p : Prm} (h : Md p) (n : Int) : Md (setAt p n) := ⟨h.path, h.dst, h.old, h.new⟩
theorem shiftP_md {p q : Prm} (hp : Md p) (hq : Md q) : Md (shiftP p q).1 ∧ Md (shiftP p q).2.1 := by
  unfold shiftP
  split
  · split
    · exact ⟨hq.setAt _, hp⟩
    · split
      · exact ⟨hq, hp.setAt _⟩
      · exact ⟨Md.zp, Md.zp⟩
  · exact ⟨Md.zp, Md.zp⟩
theorem pairC_md {p q : Prm} (hp : Md p) (hq : Md q) : Md (pairC p q).1 ∧ Md (pairC p q).2.1 := by
  unfold pairC
  split
  · exact ⟨Md.zp, Md.zp⟩
  · split
    · exact ⟨Md.zp, Md.zp⟩
    · split
      · exact shiftP_md hp hq
      · split
        · exact ⟨⟨hp.path, hq.dst, hq.old, hq.new⟩, hp⟩
        · split
          · exact ⟨hq, ⟨hq.dst, hp.dst, hp.old, hp.new⟩⟩
          · split
            · exact ⟨hq, hp⟩
            · exact ⟨Md.zp, Md.zp⟩

end Go.Proofs.YtabhngbpkfdeiaaGreatDoor.Sp
end
section
/- CommuteSame answers true. Conditions: what the parameters' kinds tell. -/
set_option linter.unusedVariables false
set_option linter.unusedSimpArgs false
namespace Go.Proofs.YtabhngbpkfdeiaaGreatDoor.Sp
open Go Go.Proofs.YtabhngbpkfdeiaaGreatDoor.Ab Go.Proofs.YtabhngbpkfdeiaaGreatDoor.Tb Go.Proofs.YtabhngbpkfdeiaaGreatDoor.EText

theorem gd_tsame {l : List Fil} {n : Nat} (h : Gd l n) (hn : n ≤ 100000) : cR 26 [RT.d .bool] [inj ty31 (l, ()), inj ty31 (l, ())] = some true :=
  tsame_ok l (Nat.le_trans h.n hn) fun f hf => (h.tk.f f hf).l.1
end Go.Proofs.YtabhngbpkfdeiaaGreatDoor.Sp
end
section
/- What each function comes to on data: printed equations. No condition. -/
set_option linter.unusedVariables false
set_option maxRecDepth 100000
namespace Go.Proofs.YtabhngbpkfdeiaaGreatDoor.Tb
open Go Go.Proofs.YtabhngbpkfdeiaaGreatDoor.Ab
theorem e79 (a0 : List (Int × ByteArray × ByteArray × Int × List ByteArray × List ByteArray)) (a1 : Int) : callG W0 (callW W0) (cutW W0) 79 [inj (Ty.sl ty40) a0, inj (Ty.int Go.IntKind.i64) a1] = ifs (decide (a1 < (0 : Int)) = false) (ifs (decide (a1 ≥ Go.IntKind.wrap Go.IntKind.i64 ((↑(List.length a0) : Int) - (1 : Int))) = true) (some (injRs [RT.own (40 : Go.TypeId) ty40, RT.d (Ty.int Go.IntKind.i64)] ([], (3 : Int)))) (ifs ((0 : Int) ≤ a1) (Option.bind a0[Int.toNat a1]? fun r => ifs ((0 : Int) ≤ Go.IntKind.wrap Go.IntKind.i64 (a1 + (1 : Int))) (Option.bind a0[Int.toNat (Go.IntKind.wrap Go.IntKind.i64 (a1 + (1 : Int)))]? fun r_1 => Option.bind (cR (nat_lit 29) [RT.d ty40, RT.d ty40, RT.d (Ty.int Go.IntKind.i64)] [inj ty40 r, inj ty40 r_1]) fun r => ifs ((r.snd.snd != (0 : Int)) = true) (some (injRs [RT.own (40 : Go.TypeId) ty40, RT.d (Ty.int Go.IntKind.i64)] ([], r.snd.snd))) (Option.bind (cR (nat_lit 77) [RT.own (40 : Go.TypeId) ty40] [inj (Ty.sl ty40) a0]) fun r_2 => ifs ((0 : Int) ≤ a1 ∧ a1 < (↑(List.length r_2) : Int)) (Option.bind r_2[Int.toNat a1]? fun r_3 => ifs ((0 : Int) ≤ Go.IntKind.wrap Go.IntKind.i64 (a1 + (1 : Int)) ∧ Go.IntKind.wrap Go.IntKind.i64 (a1 + (1 : Int)) < (↑(List.length r_2) : Int)) (Option.bind (List.set r_2 (Int.toNat a1) r.fst)[Int.toNat (Go.IntKind.wrap Go.IntKind.i64 (a1 + (1 : Int)))]? fun r_4 => some (injRs [RT.own (40 : Go.TypeId) ty40, RT.d (Ty.int Go.IntKind.i64)] (List.take (List.length r_2) (List.set (List.set r_2 (Int.toNat a1) r.fst) (Int.toNat (Go.IntKind.wrap Go.IntKind.i64 (a1 + (1 : Int)))) r.snd.fst), (0 : Int)))) none) none)) none) none)) (some (injRs [RT.own (40 : Go.TypeId) ty40, RT.d (Ty.int Go.IntKind.i64)] ([], (3 : Int)))) := by kernel_rfl
noncomputable def td37_4 : List Item := (findT (code Tryz.f37) [] 4).getD []
noncomputable def l37_4 (x0 : Int) (x1 : List (Int × ByteArray × ByteArray × Int × List ByteArray × List ByteArray)) : Option (List RV) := cutW W0 n37 td37_4 { fr := [((1 : Nat), F.a (A.c (C.sc (Go.Value.int Go.IntKind.i64 x0)))), ((6 : Nat), F.a (A.c (C.ow (0 : Nat) (List.length x1))))], mem := [some (Row.arr (40 : Nat) ty40 x1 false)], nx := (1 : Nat) }
theorem e37 (a0 : List (Int × ByteArray × ByteArray × Int × List ByteArray × List ByteArray)) (a1 : Int) : callG W0 (callW W0) (cutW W0) 37 [inj (Ty.sl ty40) a0, inj (Ty.int Go.IntKind.i64) a1] = ifs (decide (a1 < (0 : Int)) = false) (ifs (decide (a1 ≥ (↑(List.length a0) : Int)) = true) (some (injRs [RT.d (Ty.sl ty40), RT.d (Ty.int Go.IntKind.i64)] ([], (3 : Int)))) (Option.bind (cR (nat_lit 77) [RT.own (40 : Go.TypeId) ty40] [inj (Ty.sl ty40) a0]) fun r => l37_4 a1 r)) (some (injRs [RT.d (Ty.sl ty40), RT.d (Ty.int Go.IntKind.i64)] ([], (3 : Int)))) := by kernel_rfl
theorem q37_4 (x0 : Int) (x1 : List (Int × ByteArray × ByteArray × Int × List ByteArray × List ByteArray)) : cutG W0 (callW W0) (cutW W0) n37 td37_4 { fr := [((1 : Nat), F.a (A.c (C.sc (Go.Value.int Go.IntKind.i64 x0)))), ((6 : Nat), F.a (A.c (C.ow (0 : Nat) (List.length x1))))], mem := [some (Row.arr (40 : Nat) ty40 x1 false)], nx := (1 : Nat) } = ifs (decide (x0 > (0 : Int)) = true) (Option.bind (cR (nat_lit 79) [RT.own (40 : Go.TypeId) ty40, RT.d (Ty.int Go.IntKind.i64)] [inj (Ty.sl ty40) (List.take (List.length x1) x1), inj (Ty.int Go.IntKind.i64) (Go.IntKind.wrap Go.IntKind.i64 (x0 - (1 : Int)))]) fun r => ifs ((r.snd != (0 : Int)) = true) (some (injRs [RT.d (Ty.sl ty40), RT.d (Ty.int Go.IntKind.i64)] ([], r.snd))) (l37_4 (Go.IntKind.wrap Go.IntKind.i64 (x0 - (1 : Int))) r.fst)) (some (injRs [RT.d (Ty.sl ty40), RT.d (Ty.int Go.IntKind.i64)] (List.take (List.length x1) x1, (0 : Int)))) := by kernel_rfl
noncomputable def td78_3 : List Item := (findT (code Tryz.f78) [] 3).getD []
noncomputable def l78_3 (x0 : List (Int × ByteArray × ByteArray × Int × List ByteArray × List ByteArray)) (x1 : Int) (x2 : Int) (x3 : Int) (x4 : ByteArray) (x5 : ByteArray) (x6 : Int) (x7 : List ByteArray) (x8 : List ByteArray) (x9 : Int) (x10 : ByteArray) (x11 : ByteArray) (x12 : Int) (x13 : List (Int × ByteArray × ByteArray × Int × List ByteArray × List ByteArray)) : Option (List RV) := cutW W0 n78 td78_3 { fr := [((2 : Nat), F.a (A.c (C.pt (Pt.own (0 : Nat) (0 : Nat) (0 : Nat))))), ((5 : Nat), F.a (A.c (C.pt (Pt.own (1 : Nat) (0 : Nat) (0 : Nat))))), ((7 : Nat), F.a (A.c (C.ow (2 : Nat) (List.length x13)))), ((13 : Nat), F.a (A.c (C.sl ty40 x0))), ((14 : Nat), F.a (A.c (C.sc (Go.Value.int Go.IntKind.i64 x1)))), ((15 : Nat), F.a (A.c (C.sc (Go.Value.int Go.IntKind.i64 x2))))], mem := [some (Row.box (40 : Nat) (some ty40) [C.sc (Go.Value.int Go.IntKind.i64 x3), C.sc (Go.Value.string x4), C.sc (Go.Value.string x5), C.sc (Go.Value.int Go.IntKind.i64 x6), C.sl Ty.str x7, C.sl Ty.str x8] false), some (Row.box (40 : Nat) (some ty40) [C.sc (Go.Value.int Go.IntKind.i64 x9), C.sc (Go.Value.string x10), C.sc (Go.Value.string x11), C.sc (Go.Value.int Go.IntKind.i64 x12), C.nl, C.nl] false), some (Row.arr (40 : Nat) ty40 x13 false)], nx := (3 : Nat) }
theorem e78 (a0 : Int × ByteArray × ByteArray × Int × List ByteArray × List ByteArray) (a1 : List (Int × ByteArray × ByteArray × Int × List ByteArray × List ByteArray)) : callG W0 (callW W0) (cutW W0) 78 [inj ty40 a0, inj (Ty.sl ty40) a1] = l78_3 a1 (↑(List.length a1) : Int) (0 : Int) a0.fst a0.snd.fst a0.snd.snd.fst a0.snd.snd.snd.fst a0.snd.snd.snd.snd.fst a0.snd.snd.snd.snd.snd (0 : Int) { data := #[] } { data := #[] } (0 : Int) [] := by kernel_rfl
theorem q78_3 (x0 : List (Int × ByteArray × ByteArray × Int × List ByteArray × List ByteArray)) (x1 : Int) (x2 : Int) (x3 : Int) (x4 : ByteArray) (x5 : ByteArray) (x6 : Int) (x7 : List ByteArray) (x8 : List ByteArray) (x9 : Int) (x10 : ByteArray) (x11 : ByteArray) (x12 : Int) (x13 : List (Int × ByteArray × ByteArray × Int × List ByteArray × List ByteArray)) : cutG W0 (callW W0) (cutW W0) n78 td78_3 { fr := [((2 : Nat), F.a (A.c (C.pt (Pt.own (0 : Nat) (0 : Nat) (0 : Nat))))), ((5 : Nat), F.a (A.c (C.pt (Pt.own (1 : Nat) (0 : Nat) (0 : Nat))))), ((7 : Nat), F.a (A.c (C.ow (2 : Nat) (List.length x13)))), ((13 : Nat), F.a (A.c (C.sl ty40 x0))), ((14 : Nat), F.a (A.c (C.sc (Go.Value.int Go.IntKind.i64 x1)))), ((15 : Nat), F.a (A.c (C.sc (Go.Value.int Go.IntKind.i64 x2))))], mem := [some (Row.box (40 : Nat) (some ty40) [C.sc (Go.Value.int Go.IntKind.i64 x3), C.sc (Go.Value.string x4), C.sc (Go.Value.string x5), C.sc (Go.Value.int Go.IntKind.i64 x6), C.sl Ty.str x7, C.sl Ty.str x8] false), some (Row.box (40 : Nat) (some ty40) [C.sc (Go.Value.int Go.IntKind.i64 x9), C.sc (Go.Value.string x10), C.sc (Go.Value.string x11), C.sc (Go.Value.int Go.IntKind.i64 x12), C.nl, C.nl] false), some (Row.arr (40 : Nat) ty40 x13 false)], nx := (3 : Nat) } = ifs (decide (x2 < x1) = true) (ifs ((0 : Int) ≤ x2) (Option.bind x0[Int.toNat x2]? fun r => Option.bind (cR (nat_lit 29) [RT.d ty40, RT.d ty40, RT.d (Ty.int Go.IntKind.i64)] [inj ty40 (x3, x4, x5, x6, x7, x8), inj ty40 r]) fun r => ifs ((r.snd.snd != (0 : Int)) = true) (some (injRs [RT.own (40 : Go.TypeId) ty40, RT.d ty40, RT.d (Ty.int Go.IntKind.i64)] ([], ((0 : Int), { data := #[] }, { data := #[] }, (0 : Int), [], []), r.snd.snd))) (ifs ((List.length x13 + (1 : Nat)) * nat_lit 96 ≤ (140737488355328 : Nat)) (l78_3 x0 x1 (Go.IntKind.wrap Go.IntKind.i64 (x2 + (1 : Int))) r.snd.fst.fst r.snd.fst.snd.fst r.snd.fst.snd.snd.fst r.snd.fst.snd.snd.snd.fst r.snd.fst.snd.snd.snd.snd.fst r.snd.fst.snd.snd.snd.snd.snd x9 x10 x11 x12 (List.take (List.length x13) x13 ++ [r.fst])) none)) none) (some (injRs [RT.own (40 : Go.TypeId) ty40, RT.d ty40, RT.d (Ty.int Go.IntKind.i64)] (List.take (List.length x13) x13, (x3, x4, x5, x6, x7, x8), (0 : Int)))) := by kernel_rfl
noncomputable def td36_3 : List Item := (findT (code Tryz.f36) [] 3).getD []
noncomputable def l36_3 (x0 : List (Int × ByteArray × ByteArray × Int × List ByteArray × List ByteArray)) (x1 : Int) (x2 : List (Int × ByteArray × ByteArray × Int × List ByteArray × List ByteArray)) (x3 : List (Int × ByteArray × ByteArray × Int × List ByteArray × List ByteArray)) : Option (List RV) := cutW W0 n36 td36_3 { fr := [((0 : Nat), F.a (A.c (C.sl ty40 x0))), ((7 : Nat), F.a (A.c (C.ow (0 : Nat) (List.length x2)))), ((8 : Nat), F.a (A.c (C.ow (1 : Nat) (List.length x3)))), ((9 : Nat), F.a (A.c (C.sc (Go.Value.int Go.IntKind.i64 x1))))], mem := [some (Row.arr (40 : Nat) ty40 x2 false), some (Row.arr (40 : Nat) ty40 x3 false)], nx := (2 : Nat) }
theorem e36 (a0 : List (Int × ByteArray × ByteArray × Int × List ByteArray × List ByteArray)) (a1 : List (Int × ByteArray × ByteArray × Int × List ByteArray × List ByteArray)) : callG W0 (callW W0) (cutW W0) 36 [inj (Ty.sl ty40) a0, inj (Ty.sl ty40) a1] = Option.bind (cR (nat_lit 77) [RT.own (40 : Go.TypeId) ty40] [inj (Ty.sl ty40) a1]) fun r => l36_3 a0 (Go.IntKind.wrap Go.IntKind.i64 ((↑(List.length a0) : Int) - (1 : Int))) r [] := by kernel_rfl
theorem q36_3 (x0 : List (Int × ByteArray × ByteArray × Int × List ByteArray × List ByteArray)) (x1 : Int) (x2 : List (Int × ByteArray × ByteArray × Int × List ByteArray × List ByteArray)) (x3 : List (Int × ByteArray × ByteArray × Int × List ByteArray × List ByteArray)) : cutG W0 (callW W0) (cutW W0) n36 td36_3 { fr := [((0 : Nat), F.a (A.c (C.sl ty40 x0))), ((7 : Nat), F.a (A.c (C.ow (0 : Nat) (List.length x2)))), ((8 : Nat), F.a (A.c (C.ow (1 : Nat) (List.length x3)))), ((9 : Nat), F.a (A.c (C.sc (Go.Value.int Go.IntKind.i64 x1))))], mem := [some (Row.arr (40 : Nat) ty40 x2 false), some (Row.arr (40 : Nat) ty40 x3 false)], nx := (2 : Nat) } = ifs (decide (x1 ≥ (0 : Int)) = true) (ifs ((0 : Int) ≤ x1) (Option.bind x0[Int.toNat x1]? fun r => Option.bind (cR (nat_lit 78) [RT.own (40 : Go.TypeId) ty40, RT.d ty40, RT.d (Ty.int Go.IntKind.i64)] [inj ty40 r, inj (Ty.sl ty40) (List.take (List.length x2) x2)]) fun r => ifs ((r.snd.snd != (0 : Int)) = true) (some (injRs [RT.d (Ty.sl ty40), RT.own (40 : Go.TypeId) ty40, RT.d (Ty.int Go.IntKind.i64)] ([], [], r.snd.snd))) (ifs (((1 : Nat) + List.length (List.take (List.length x3) x3)) * nat_lit 96 ≤ (140737488355328 : Nat)) (l36_3 x0 (Go.IntKind.wrap Go.IntKind.i64 (x1 - (1 : Int))) r.fst ([r.snd.fst] ++ List.take (List.length x3) x3)) none)) none) (some (injRs [RT.d (Ty.sl ty40), RT.own (40 : Go.TypeId) ty40, RT.d (Ty.int Go.IntKind.i64)] (List.take (List.length x2) x2, List.take (List.length x3) x3, (0 : Int)))) := by kernel_rfl
noncomputable def td76_3 : List Item := (findT (code Tryz.f76) [] 3).getD []
noncomputable def l76_3 (x0 : List (Int × ByteArray × ByteArray × Int × List ByteArray × List ByteArray)) (x1 : Int) (x2 : Int) (x3 : List ByteArray) : Option (List RV) := cutW W0 n76 td76_3 { fr := [((3 : Nat), F.a (A.c (C.ow (0 : Nat) (List.length x3)))), ((6 : Nat), F.a (A.c (C.sl ty40 x0))), ((7 : Nat), F.a (A.c (C.sc (Go.Value.int Go.IntKind.i64 x1)))), ((8 : Nat), F.a (A.c (C.sc (Go.Value.int Go.IntKind.i64 x2))))], mem := [some (Row.arr (9 : Nat) Ty.str x3 false)], nx := (1 : Nat) }
theorem e76 (a0 : List (Int × ByteArray × ByteArray × Int × List ByteArray × List ByteArray)) : callG W0 (callW W0) (cutW W0) 76 [inj (Ty.sl ty40) a0] = l76_3 a0 (↑(List.length a0) : Int) (0 : Int) [] := by kernel_rfl
theorem q76_3 (x0 : List (Int × ByteArray × ByteArray × Int × List ByteArray × List ByteArray)) (x1 : Int) (x2 : Int) (x3 : List ByteArray) : cutG W0 (callW W0) (cutW W0) n76 td76_3 { fr := [((3 : Nat), F.a (A.c (C.ow (0 : Nat) (List.length x3)))), ((6 : Nat), F.a (A.c (C.sl ty40 x0))), ((7 : Nat), F.a (A.c (C.sc (Go.Value.int Go.IntKind.i64 x1)))), ((8 : Nat), F.a (A.c (C.sc (Go.Value.int Go.IntKind.i64 x2))))], mem := [some (Row.arr (9 : Nat) Ty.str x3 false)], nx := (1 : Nat) } = ifs (decide (x2 < x1) = true) (ifs ((0 : Int) ≤ x2) (Option.bind x0[Int.toNat x2]? fun r => Option.bind (cR (nat_lit 67) [RT.own (9 : Go.TypeId) Ty.str] [inj ty40 r]) fun r => ifs ((List.length x3 + List.length (List.take (List.length r) r)) * nat_lit 16 ≤ (140737488355328 : Nat)) (l76_3 x0 x1 (Go.IntKind.wrap Go.IntKind.i64 (x2 + (1 : Int))) (List.take (List.length x3) x3 ++ List.take (List.length r) r)) none) none) (Option.bind (cR (nat_lit 114) [RT.own (9 : Go.TypeId) Ty.str] [inj (Ty.sl Ty.str) (List.take (List.length x3) x3)]) fun r => some (injRs [RT.own (9 : Go.TypeId) Ty.str] (List.take (List.length r) r))) := by kernel_rfl
end Go.Proofs.YtabhngbpkfdeiaaGreatDoor.Tb
end
section
/- What the functions of seq come to, in plain words. Conditions: lengths as they stand in each statement. -/
set_option linter.unusedVariables false
set_option linter.unusedSimpArgs false
namespace Go.Proofs.YtabhngbpkfdeiaaGreatDoor.Sp
open Go Go.Proofs.YtabhngbpkfdeiaaGreatDoor.Ab Go.Proofs.YtabhngbpkfdeiaaGreatDoor.Tb Go.Proofs.YtabhngbpkfdeiaaGreatDoor.EText

theorem past_loop (l : List Prm) (hl : l.length ≤ 100000) (hm : ∀ q ∈ l, Md q) : ∀ i : Nat, i ≤ l.length → ∀ (p : Prm) (acc : List Prm), Md p → acc.length ≤ i →
    l78_3 l l.length i p.1 p.2.1 p.2.2.1 p.2.2.2.1 p.2.2.2.2.1 p.2.2.2.2.2 0 zt zt 0 acc = some (injRs [RT.own 40 ty40, RT.d ty40, RT.d (.int .i64)] (pastG acc p (l.drop i))) := by
  refine upTo (fun i hi ih => ?_) ?_
  · intro p acc hp ha
    refine cutG_step ((q78_3 ..).trans ?_)
    have hq : Md l[i] := hm _ (List.getElem_mem hi)
    have e1 : cR 29 [RT.d ty40, RT.d ty40, RT.d (.int .i64)] [inj ty40 (p.1, p.2.1, p.2.2.1, p.2.2.2.1, p.2.2.2.2.1, p.2.2.2.2.2), inj ty40 l[i]] = some (pairC p l[i]) := cpair_ok p l[i] hp hq
    rw [ifs_pos (by simpa using hi), ifs_pos (by omega), Int.toNat_natCast, List.getElem?_eq_getElem hi, Option.bind_some, e1, Option.bind_some, List.drop_eq_getElem_cons hi]
    unfold pastG
    by_cases h : (pairC p l[i]).2.2 = 0
    · rw [ifs_neg (by simp [h]), ifs_pos (by omega), List.take_length, wrS hi (by simp only [top]; omega), if_neg (by simp [h])]
      exact ih _ _ (pairC_md hp hq).2 (by simp; omega)
    · rw [ifs_pos (by simp [h]), if_pos h]
  · intro p acc hp ha
    refine cutG_step ((q78_3 ..).trans ?_)
    rw [ifs_neg (by simp), List.take_length, List.drop_length]
    rfl
theorem past_ok (p : Prm) (l : List Prm) (hp : Md p) (hl : l.length ≤ 100000) (hm : ∀ q ∈ l, Md q) : cR 78 [RT.own 40 ty40, RT.d ty40, RT.d (.int .i64)] [inj ty40 p, inj (.sl ty40) l] = some (pastP p l) :=
  callT_of ((e78 p l).trans (past_loop l hl hm 0 (Nat.zero_le _) p [] hp (Nat.zero_le _)))

theorem pastG_md : ∀ (l : List Prm) (acc : List Prm) (p : Prm), Md p → (∀ q ∈ acc, Md q) → (∀ q ∈ l, Md q) → (∀ q ∈ (pastG acc p l).1, Md q) ∧ Md (pastG acc p l).2.1 ∧ (pastG acc p l).1.length ≤ acc.length + l.length
  | [], acc, p, hp, ha, hl => ⟨ha, hp, by simp [pastG]⟩
  | q :: l, acc, p, hp, ha, hl => by
    unfold pastG
    have hq : Md q := hl q (by simp)
    split
    · exact ⟨fun q h => (by cases h), Md.zp, by simp⟩
    · obtain ⟨h1, h2, h3⟩ := pastG_md l (acc ++ [(pairC p q).1]) (pairC p q).2.1 (pairC_md hp hq).2 (fun x hx => by
        rcases List.mem_append.1 hx with hx | hx
        · exact ha x hx
        · rw [List.mem_singleton.1 hx]; exact (pairC_md hp hq).1) (fun x hx => hl x (List.mem_cons_of_mem _ hx))
      exact ⟨h1, h2, by simp at h3 ⊢; omega⟩
theorem pastP_md (p : Prm) (l : List Prm) (hp : Md p) (hl : ∀ q ∈ l, Md q) : (∀ q ∈ (pastP p l).1, Md q) ∧ Md (pastP p l).2.1 ∧ (pastP p l).1.length ≤ l.length := by
  obtain ⟨h1, h2, h3⟩ := pastG_md l [] p hp (fun q h => by cases h) hl
  exact ⟨h1, h2, by simpa [pastP] using h3⟩

theorem wrI {i : Nat} (hi : i ≤ 1000000) : IntKind.i64.wrap ((i : Int) - 1) = (i : Int) - 1 := wr _ (by omega)
theorem rev_take {α : Type} (l : List α) {i : Nat} (hi : i < l.length) : (l.take (i + 1)).reverse = l[i] :: (l.take i).reverse := by
  rw [List.take_succ_eq_append_getElem hi, List.reverse_append]; rfl

theorem rows_loop (a : List Prm) (ha : a.length ≤ 1000) (hm : ∀ q ∈ a, Md q) : ∀ i : Nat, i ≤ a.length → ∀ (x y : List Prm), x.length ≤ 1000 → y.length ≤ a.length - i → (∀ q ∈ x, Md q) →
    l36_3 a ((i : Int) - 1) x y = some (injRs [RT.d (.sl ty40), RT.own 40 ty40, RT.d (.int .i64)] (rowsG (a.take i).reverse x y)) := by
  intro i
  induction i with
  | zero =>
    intro hi x y hx hy hxm
    refine cutG_step ((q36_3 ..).trans ?_)
    rw [ifs_neg (by simp), List.take_length, List.take_length]
    rfl
  | succ i ih =>
    intro hi x y hx hy hxm
    refine cutG_step ((q36_3 ..).trans ?_)
    have e0 : ((i + 1 : Nat) : Int) - 1 = (i : Int) := by omega
    have hq : Md a[i] := hm _ (List.getElem_mem hi)
    obtain ⟨m1, m2, m3⟩ := pastP_md a[i] x hq hxm
    rw [e0, ifs_pos (by simp), ifs_pos (by omega), Int.toNat_natCast, List.getElem?_eq_getElem hi, Option.bind_some, List.take_length, past_ok a[i] x hq (by omega) hxm, Option.bind_some, rev_take a hi]
    unfold rowsG
    by_cases h : (pastP a[i] x).2.2 = 0
    · rw [ifs_neg (by simp [h]), List.take_length, ifs_pos (by omega), wrI (by omega), if_neg (by simp [h])]
      exact ih (by omega) _ _ (by omega) (by simp; omega) m1
    · rw [ifs_pos (by simp [h]), if_pos h]
theorem rows_ok (a b : List Prm) (ha : a.length ≤ 1000) (hb : b.length ≤ 1000) (hm : ∀ q ∈ a, Md q) (hn : ∀ q ∈ b, Md q) :
    cR 36 [RT.d (.sl ty40), RT.own 40 ty40, RT.d (.int .i64)] [inj (.sl ty40) a, inj (.sl ty40) b] = some (rowsP a b) := by
  refine callT_of ((e36 a b).trans ?_)
  have hc : cR 77 [RT.own 40 ty40] [inj (.sl ty40) b] = some b := by
    refine callT_of ?_
    show (if b.length * 96 ≤ 140737488355328 then some [RV.own 40 Cl.tyP b] else none) = _
    rw [if_pos (by omega)]; rfl
  rw [hc, Option.bind_some, wrI (by omega)]
  have := rows_loop a ha hm a.length (Nat.le_refl _) b [] hb (Nat.zero_le _) hn
  rw [List.take_length] at this
  exact this

end Go.Proofs.YtabhngbpkfdeiaaGreatDoor.Sp
end
section
/- What seq.Swap and seq.Front come to, and the reference's front. Conditions: lengths as they stand in each statement. -/
set_option linter.unusedVariables false
set_option linter.unusedSimpArgs false
namespace Go.Proofs.YtabhngbpkfdeiaaGreatDoor.Sp
open Go Go.Proofs.YtabhngbpkfdeiaaGreatDoor.Ab Go.Proofs.YtabhngbpkfdeiaaGreatDoor.Tb Go.Proofs.YtabhngbpkfdeiaaGreatDoor.EText

theorem cloneP_ok (b : List Prm) (hb : b.length ≤ 1000) : cR 77 [RT.own 40 ty40] [inj (.sl ty40) b] = some b := by
  refine callT_of ?_
  show (if b.length * 96 ≤ 140737488355328 then some [RV.own 40 Cl.tyP b] else none) = _
  rw [if_pos (by omega)]; rfl

theorem set_pre {α : Type} (x y : α) (r : List α) : ∀ pre : List α, (pre ++ x :: r).set pre.length y = pre ++ y :: r
  | [] => rfl
  | a :: pre => by simp [set_pre x y r pre]
theorem set_pre1 {α : Type} (a x y : α) (r : List α) : ∀ pre : List α, (pre ++ a :: x :: r).set (pre.length + 1) y = pre ++ a :: y :: r
  | [] => rfl
  | b :: pre => by simp [set_pre1 a x y r pre]

theorem swap_in (pre : List Prm) (p q : Prm) (rest : List Prm) (hp : Md p) (hq : Md q) (hl : (pre ++ p :: q :: rest).length ≤ 1000) :
    cR 79 [RT.own 40 ty40, RT.d (.int .i64)] [inj (.sl ty40) (pre ++ p :: q :: rest), inj (.int .i64) (pre.length : Int)] = some (swapR pre p q rest) := by
  refine callT_of ((e79 _ _).trans ?_)
  simp only [List.length_append, List.length_cons] at hl
  have g0 : (pre ++ p :: q :: rest)[pre.length]? = some p := by simp
  have g1 : (pre ++ p :: q :: rest)[pre.length + 1]? = some q := by rw [List.getElem?_append_right (by omega)]; simp
  have w1 : IntKind.i64.wrap ((pre.length : Int) + 1) = ((pre.length + 1 : Nat) : Int) := by rw [wr _ (by omega)]; omega
  have w2 : IntKind.i64.wrap (((pre ++ p :: q :: rest).length : Int) - 1) = ((pre ++ p :: q :: rest).length : Int) - 1 := wr _ (by simp only [List.length_append, List.length_cons]; omega)
  have hn : ((pre ++ p :: q :: rest).length : Int) = pre.length + rest.length + 2 := by simp only [List.length_append, List.length_cons]; omega
  rw [ifs_pos (by simp), w2, ifs_neg (by simp only [decide_eq_true_eq]; omega), ifs_pos (by omega), Int.toNat_natCast, g0, Option.bind_some, w1, ifs_pos (by omega), Int.toNat_natCast, g1, Option.bind_some, cpair_ok p q hp hq, Option.bind_some]
  unfold swapR
  by_cases h : (pairC p q).2.2 = 0
  · rw [ifs_neg (by simp [h]), cloneP_ok _ (by simp only [List.length_append, List.length_cons]; omega), Option.bind_some, ifs_pos (by omega), g0, Option.bind_some, ifs_pos (by omega)]
    have s1 : (pre ++ p :: q :: rest).set pre.length (pairC p q).1 = pre ++ (pairC p q).1 :: q :: rest := set_pre _ _ _ _
    have s2 : (pre ++ (pairC p q).1 :: q :: rest).set (pre.length + 1) (pairC p q).2.1 = pre ++ (pairC p q).1 :: (pairC p q).2.1 :: rest := set_pre1 _ _ _ _ _
    have g2 : (pre ++ (pairC p q).1 :: q :: rest)[pre.length + 1]? = some q := by rw [List.getElem?_append_right (by omega)]; simp
    rw [s1, g2, Option.bind_some, s2, List.take_of_length_le (by simp), if_neg (by simp [h])]
  · rw [ifs_pos (by simp [h]), if_pos h]

theorem front_loop : ∀ (n : Nat) (pre : List Prm) (one : Prm) (rest : List Prm), pre.length = n → (∀ q ∈ pre, Md q) → Md one → (pre ++ one :: rest).length ≤ 1000 →
    l37_4 (n : Int) (pre ++ one :: rest) = some (injRs [RT.d (.sl ty40), RT.d (.int .i64)] (frontR pre.reverse one rest)) := by
  intro n
  induction n with
  | zero =>
    intro pre one rest h hm ho hl
    obtain rfl := List.eq_nil_of_length_eq_zero h
    refine cutG_step ((q37_4 ..).trans ?_)
    rw [ifs_neg (by simp), List.take_length]
    rfl
  | succ n ih =>
    intro pre one rest h hm ho hl
    obtain ⟨pre', p, rfl⟩ : ∃ pre' p, pre = pre' ++ [p] := by
      rcases List.eq_nil_or_concat pre with h0 | ⟨a, b, hb⟩
      · rw [h0] at h; cases h
      · exact ⟨a, b, by simpa using hb⟩
    have h' : pre'.length = n := by simpa using h
    have hp : Md p := hm p (by simp)
    have e0 : pre' ++ [p] ++ one :: rest = pre' ++ p :: one :: rest := by simp
    rw [e0] at hl ⊢
    refine cutG_step ((q37_4 ..).trans ?_)
    have w1 : IntKind.i64.wrap (((n + 1 : Nat) : Int) - 1) = (pre'.length : Int) := by
      simp only [List.length_append, List.length_cons] at hl
      rw [wr _ (by omega)]; omega
    rw [ifs_pos (by simp), List.take_length, w1, swap_in pre' p one rest hp ho hl, Option.bind_some, List.reverse_append]
    show _ = some (injRs [RT.d (.sl ty40), RT.d (.int .i64)] (frontR (p :: pre'.reverse) one rest))
    unfold frontR swapR
    by_cases hz : (pairC p one).2.2 = 0
    · rw [if_neg (by simp [hz]), if_neg (by simp [hz]), ifs_neg (by simp), h']
      exact ih pre' _ _ h' (fun q hq => hm q (by simp [hq])) (pairC_md hp ho).1 (by simp only [List.length_append, List.length_cons] at hl ⊢; omega)
    · rw [if_pos hz, if_pos hz, ifs_pos (by simp [hz])]
theorem split_at (l : List Prm) {i : Nat} (hi : i < l.length) : l = l.take i ++ l[i] :: l.drop (i + 1) := by
  rw [← List.drop_eq_getElem_cons hi, List.take_append_drop]
theorem front_ok (l : List Prm) (i : Int) (hi : fits i) (hl : l.length ≤ 1000) (hm : ∀ q ∈ l, Md q) : cR 37 [RT.d (.sl ty40), RT.d (.int .i64)] [inj (.sl ty40) l, inj (.int .i64) i] = some (frontP l i) := by
  refine callT_of ((e37 l i).trans ?_)
  unfold frontP
  by_cases h0 : i < 0
  · rw [ifs_neg (by simp [h0]), if_pos h0]
  · rw [ifs_pos (by simp [h0]), if_neg h0]
    by_cases h1 : i ≥ l.length
    · rw [ifs_pos (by simpa using h1), List.getElem?_eq_none (by omega)]
    · have hlt : i.toNat < l.length := by omega
      rw [ifs_neg (by simpa using h1), cloneP_ok l hl, Option.bind_some, List.getElem?_eq_getElem hlt]
      have := front_loop i.toNat (l.take i.toNat) l[i.toNat] (l.drop (i.toNat + 1)) (by simp; omega) (fun q hq => hm q (List.mem_of_mem_take hq)) (hm _ (List.getElem_mem hlt)) (by rw [← split_at l hlt]; exact hl)
      rw [← split_at l hlt, show ((i.toNat : Nat) : Int) = i by omega] at this
      exact this

end Go.Proofs.YtabhngbpkfdeiaaGreatDoor.Sp
end
section
/- seq's awake comes to true. No condition. -/
set_option linter.unusedVariables false
set_option linter.unusedSimpArgs false
namespace Go.Proofs.YtabhngbpkfdeiaaGreatDoor.Sp
open Go Go.Proofs.YtabhngbpkfdeiaaGreatDoor.Ab Go.Proofs.YtabhngbpkfdeiaaGreatDoor.Tb Go.Proofs.YtabhngbpkfdeiaaGreatDoor.EText
def pF : Prm := (3, { data := #[(97 : UInt8)] }, { data := #[] }, 0, [], [])
def pD : Prm := (1, { data := #[(100 : UInt8)] }, { data := #[] }, 0, [], [])
def pH : Prm := (6, { data := #[(97 : UInt8)] }, { data := #[] }, 0, [], [{ data := #[(120 : UInt8)] }])
theorem aw1 : cR 75 [RT.d (.sl (.int .i64))] [inj (.sl ty40) [pF, pD, pH], inj (.int .i64) 2] = some [0] := callT_ofN 60 (by kernel_rfl)
theorem aw2 : ∃ r : Prm, ∃ l, cR 37 [RT.d (.sl ty40), RT.d (.int .i64)] [inj (.sl ty40) [pF, pD], inj (.int .i64) 1] = some (r :: l, 0) ∧ r.1 = 1 := ⟨pD, [pF], callT_ofN 60 (by kernel_rfl), rfl⟩
theorem aw3 : cR 37 [RT.d (.sl ty40), RT.d (.int .i64)] [inj (.sl ty40) [pF, pH], inj (.int .i64) 1] = some ([], 13) := callT_ofN 60 (by kernel_rfl)
theorem aw4 : cR 67 [RT.own 9 .str] [inj ty40 pF] = some [{ data := #[(97 : UInt8)] }] := callT_ofN 60 (by kernel_rfl)
theorem aw5 : cR 67 [RT.own 9 .str] [inj ty40 pH] = some [{ data := #[(97 : UInt8)] }] := callT_ofN 60 (by kernel_rfl)
theorem aw6 : cR 67 [RT.own 9 .str] [inj ty40 pD] = some [{ data := #[(100 : UInt8)] }] := callT_ofN 60 (by kernel_rfl)
theorem sort_aad : ESet.sortB [[97], [97], [100]] = [[97], [97], [100]] := by
  simp [ESet.sortB, List.mergeSort, List.MergeSort.Internal.splitInTwo, List.merge]
  try decide +kernel
theorem set_aad : ESet.setL [⟨#[97]⟩, ⟨#[97]⟩, ⟨#[100]⟩] = [⟨#[97]⟩, ⟨#[100]⟩] := by
  unfold ESet.setL ESet.setB
  rw [show ([⟨#[97]⟩, ⟨#[97]⟩, ⟨#[100]⟩] : List ByteArray).map ESet.bs = [[97], [97], [100]] from rfl, sort_aad]
  decide +kernel
theorem nset_ok (xs : List Txt) (h : xs.length * 16 ≤ 140737488355328) : cR 114 [RT.own 9 .str] [inj (.sl .str) xs] = some (ESet.setL xs) := by
  refine callT_of ?_
  show (if xs.length * 16 ≤ 140737488355328 then some [RV.own 9 .str (ESet.setL xs)] else none) = _
  rw [if_pos h]; rfl
theorem aw7 : cR 76 [RT.own 9 .str] [inj (.sl ty40) [pF, pH, pD]] = some [⟨#[97]⟩, ⟨#[100]⟩] := by
  have w1 : IntKind.i64.wrap (0 + 1) = 1 := wr _ (by omega)
  have w2 : IntKind.i64.wrap (1 + 1) = 2 := wr _ (by omega)
  have w3 : IntKind.i64.wrap (2 + 1) = 3 := wr _ (by omega)
  have g0 : ([pF, pH, pD] : List Prm)[Int.toNat 0]? = some pF := rfl
  have g1 : ([pF, pH, pD] : List Prm)[Int.toNat 1]? = some pH := rfl
  have g2 : ([pF, pH, pD] : List Prm)[Int.toNat 2]? = some pD := rfl
  refine callT_of ((e76 _).trans ?_)
  refine cutG_step ((q76_3 ..).trans ?_)
  rw [ifs_pos (by simp), ifs_pos (by omega), g0, Option.bind_some, aw4, Option.bind_some, ifs_pos (by simp), w1]
  refine cutG_step ((q76_3 ..).trans ?_)
  rw [ifs_pos (by simp), ifs_pos (by omega), g1, Option.bind_some, aw5, Option.bind_some, ifs_pos (by simp), w2]
  refine cutG_step ((q76_3 ..).trans ?_)
  rw [ifs_pos (by simp), ifs_pos (by omega), g2, Option.bind_some, aw6, Option.bind_some, ifs_pos (by simp), w3]
  refine cutG_step ((q76_3 ..).trans ?_)
  rw [ifs_neg (by simp)]
  have := nset_ok [⟨#[97]⟩, ⟨#[97]⟩, ⟨#[100]⟩] (by simp)
  rw [set_aad] at this
  exact (congrArg (fun o => Option.bind o _) this).trans rfl
theorem awake10_ok : cR 35 [RT.d .bool] [] = some true := by
  refine callT_of (e35.trans ?_)
  obtain ⟨r, l, h2, h3⟩ := aw2
  have a1 := aw1; have a3 := aw3; have a7 := aw7
  unfold pF pD pH at *
  rw [a1, Option.bind_some, h2, Option.bind_some, a3, Option.bind_some, ifs_pos (by simp)]
  show Option.bind (some (0 : Int)) _ = _
  rw [Option.bind_some, ifs_pos (by simp), ifs_pos (by simp)]
  show Option.bind (some r) _ = _
  rw [Option.bind_some, ifs_pos (by simp [h3]), ifs_pos (by simp), a7]
  rfl
end Go.Proofs.YtabhngbpkfdeiaaGreatDoor.Sp
end
section
/- SeqSame answers true. Conditions: what the parameters' kinds tell. -/
set_option linter.unusedVariables false
set_option linter.unusedSimpArgs false
namespace Go.Proofs.YtabhngbpkfdeiaaGreatDoor.Sp
open Go Go.Proofs.YtabhngbpkfdeiaaGreatDoor.Ab Go.Proofs.YtabhngbpkfdeiaaGreatDoor.Tb Go.Proofs.YtabhngbpkfdeiaaGreatDoor.EText

theorem rowsG_md : ∀ (l x y : List Prm), (∀ q ∈ l, Md q) → (∀ q ∈ x, Md q) → (∀ q ∈ y, Md q) → (∀ q ∈ (rowsG l x y).1, Md q) ∧ (∀ q ∈ (rowsG l x y).2.1, Md q) ∧ (rowsG l x y).1.length ≤ x.length ∧ (rowsG l x y).2.1.length ≤ y.length + l.length
  | [], x, y, _, hx, hy => ⟨hx, hy, Nat.le_refl _, by simp [rowsG]⟩
  | p :: l, x, y, hl, hx, hy => by
    obtain ⟨m1, m2, m3⟩ := pastP_md p x (hl p (by simp)) hx
    unfold rowsG
    split
    · exact ⟨fun q h => (by cases h), fun q h => (by cases h), by simp, by simp⟩
    · obtain ⟨h1, h2, h3, h4⟩ := rowsG_md l (pastP p x).1 ((pastP p x).2.1 :: y) (fun q hq => hl q (List.mem_cons_of_mem _ hq)) m1 (fun q hq => by
        rcases List.mem_cons.1 hq with rfl | hq
        · exact m2
        · exact hy q hq)
      exact ⟨h1, h2, by omega, by simp at h4 ⊢; omega⟩
theorem frontR_md : ∀ (l : List Prm) (one : Prm) (rest : List Prm), (∀ q ∈ l, Md q) → Md one → (∀ q ∈ rest, Md q) → (∀ q ∈ (frontR l one rest).1, Md q) ∧ (frontR l one rest).1.length ≤ l.length + 1 + rest.length
  | [], one, rest, _, ho, hr => ⟨fun q hq => by
      rcases List.mem_cons.1 hq with rfl | hq
      · exact ho
      · exact hr q hq, by simp [frontR]; omega⟩
  | p :: l, one, rest, hl, ho, hr => by
    unfold frontR
    split
    · exact ⟨fun q h => (by cases h), by simp⟩
    · obtain ⟨h1, h2⟩ := frontR_md l (pairC p one).1 ((pairC p one).2.1 :: rest) (fun q hq => hl q (List.mem_cons_of_mem _ hq)) (pairC_md (hl p (by simp)) ho).1 (fun q hq => by
        rcases List.mem_cons.1 hq with rfl | hq
        · exact (pairC_md (hl p (by simp)) ho).2
        · exact hr q hq)
      exact ⟨h1, by simp at h2 ⊢; omega⟩
theorem frontP_md (l : List Prm) (i : Int) (hl : ∀ q ∈ l, Md q) : (∀ q ∈ (frontP l i).1, Md q) ∧ (frontP l i).1.length ≤ 2 * l.length + 1 := by
  unfold frontP
  split
  · exact ⟨fun q h => (by cases h), by simp⟩
  · split
    · rename_i one h
      obtain ⟨h1, h2⟩ := frontR_md (l.take i.toNat).reverse one (l.drop (i.toNat + 1)) (fun q hq => hl q (List.mem_of_mem_take (List.mem_reverse.1 hq))) (hl _ (List.mem_of_getElem? h)) (fun q hq => hl q (List.mem_of_mem_drop hq))
      refine ⟨h1, Nat.le_trans h2 ?_⟩
      simp only [List.length_reverse, List.length_take, List.length_drop]; omega
    · exact ⟨fun q h => (by cases h), by simp⟩

theorem join_ok {α : Type} (x y : List α) : List.take (List.length (List.take (List.length ([] ++ x)) ([] ++ x) ++ y)) (List.take (List.length ([] ++ x)) ([] ++ x) ++ y) = x ++ y := by
  rw [List.nil_append, List.take_length, List.take_length]
/-- Rows that come to the same as those that are done. -/
theorem same_end {t u : List Fil} {s r : List Prm} (hg : Gd t 40) (hb : Bm (mp t) 60) (hu : appsP t s = (u, 0)) (hgu : Gd u 200) (hr : Run r (mp t) (mp u)) (hf : ∀ p ∈ r, Fw p 60) (hl : r.length ≤ 30) : appsP t r = (u, 0) := by
  obtain ⟨w, hw, hmw, hgw⟩ := apps_of (c := 60) hg (by omega) hb (fun p hp => (hf p hp).w) (by omega) hr
  rw [hw, mp_ext hgw.tk.s hgu.tk.s hmw]
theorem seqSame_of (l : List Fil) (a b : List Prm) (i : Int) (hl : l.length ≤ top) (hf : ∀ f ∈ l, FOk f) (hal : a.length ≤ top) (hap : ∀ p ∈ a, POk p) (hbl : b.length ≤ top) (hbp : ∀ p ∈ b, POk p) (hi : fits i) :
    callW W0 7 [inj ty66 (l, a, b, i)] = some (injRs [RT.d .bool] true) := by
  refine callG_step ((e7 (l, a, b, i)).trans ?_)
  simp only [awake10_ok, Option.bind_some, join_ok]
  rw [light6_ok l hl hf, Option.bind_some]
  cases h6 : light6 l with
  | false => rw [ifs_neg (by simp)]
  | true =>
  rw [ifs_pos (by simp), light7_ok a hal hap, Option.bind_some]
  cases h7 : light7 a with
  | false => rw [ifs_neg (by simp)]
  | true =>
  rw [ifs_pos (by simp), light7_ok b hbl hbp, Option.bind_some]
  cases h8 : light7 b with
  | false => rw [ifs_neg (by simp)]
  | true =>
  rw [ifs_pos (by simp)]
  by_cases ha12 : ¬ (a.length ≤ 12)
  · rw [ifs_neg (by simp; omega)]
  replace ha12 := Decidable.not_not.1 ha12
  rw [ifs_pos (by simp; omega)]
  by_cases hb12 : ¬ (b.length ≤ 12)
  · rw [ifs_pos (by simp; omega)]
  replace hb12 := Decidable.not_not.1 hb12
  rw [ifs_neg (by simp; omega)]
  obtain ⟨hlf, hl40⟩ := light_of h6
  obtain ⟨_, hma⟩ := light7_spec h7
  obtain ⟨_, hmb⟩ := light7_spec h8
  obtain ⟨t, e, ht, hg, hd, hm⟩ := tof_ok l hlf (by omega)
  have hg40 : Gd t 40 := hg.weak hl40
  have hbm := bm_of h6 hg hm
  rw [ht, Option.bind_some, ifs_pos (by omega), ifs_pos (by rw [List.nil_append]; omega)]
  have hmab : ∀ p ∈ a ++ b, Md p := fun p hp => (List.mem_append.1 hp).elim (fun h => (hma p h).1) (fun h => (hmb p h).1)
  have hpa := pall_ok t (a ++ b) hg40 (by rw [List.length_append]; omega) hmab
  refine (congrArg (fun o => Option.bind o _) hpa).trans ?_
  rw [Option.bind_some]
  by_cases he : ¬ (e = 0)
  · rw [ifs_neg (by simp [he])]
  replace he := Decidable.not_not.1 he
  rw [ifs_pos (by simp [he])]
  by_cases hu : ¬ ((appsP t (a ++ b)).2 = 0)
  · rw [ifs_pos (by simp [hu])]
  replace hu := Decidable.not_not.1 hu
  rw [ifs_neg (by simp [hu])]
  generalize hU : (appsP t (a ++ b)).1 = u
  have hu' : appsP t (a ++ b) = (u, 0) := by rw [← hU, ← hu]
  obtain ⟨hrun, hgu0⟩ := run_of hg40 (by rw [List.length_append]; omega) hu'
  have hgu : Gd u 200 := hgu0.weak (by rw [List.length_append]; omega)
  have hsame := gd_tsame hgu (by omega)
  rw [rows_ok a b (by omega) (by omega) (fun p hp => (hma p hp).1) (fun p hp => (hmb p hp).1), Option.bind_some]
  -- the front
  have hfr := front_ok a i hi (by omega) (fun p hp => (hma p hp).1)
  have hFP : (frontP a i).2 = 0 → (∀ q ∈ (frontP a i).1, Md q) ∧ (frontP a i).1.length ≤ 2 * a.length + 1 ∧ appsP t ((frontP a i).1 ++ b) = (u, 0) := fun h0 => by
    obtain ⟨k1, k2⟩ := frontP_md a i (fun p hp => (hma p hp).1)
    refine ⟨k1, k2, ?_⟩
    obtain ⟨m1, r1, r2⟩ := run_app.1 hrun
    unfold frontP at h0 ⊢
    by_cases hneg : i < 0
    · rw [if_pos hneg] at h0; cases h0
    · rw [if_neg hneg] at h0 ⊢
      cases hone : a[i.toNat]? with
      | none => rw [hone] at h0; cases h0
      | some one =>
        rw [hone] at h0
        simp only at h0 ⊢
        have hlt := (List.getElem?_eq_some_iff.1 hone).1
        have hsp := split_at a hlt
        have hone' : a[i.toNat] = one := (List.getElem?_eq_some_iff.1 hone).2
        rw [hone'] at hsp
        have r1' : Run ((a.take i.toNat).reverse.reverse ++ one :: a.drop (i.toNat + 1)) (mp t) m1 := by rw [List.reverse_reverse, ← hsp]; exact r1
        obtain ⟨f1, f2, f3⟩ := front_run (a.take i.toNat).reverse one (a.drop (i.toNat + 1)) (frontR (a.take i.toNat).reverse one (a.drop (i.toNat + 1))).1 (by rw [← h0]) (fun q hq => (hma q (List.mem_of_mem_take (List.mem_reverse.1 hq))).2) (by rw [← hone']; exact (hma _ (List.getElem_mem hlt)).2) (fun q hq => (hma q (List.mem_of_mem_drop hq)).2) hbm (by rw [List.length_reverse, List.length_take]; omega) r1'
        rw [List.length_reverse, List.length_take, List.length_drop] at f3
        exact same_end hg40 hbm hu' hgu (run_app.2 ⟨m1, f1, r2⟩) (fun q hq => (List.mem_append.1 hq).elim (f2 q) (fun h => (hmb q h).2)) (by rw [List.length_append]; omega)
  have hend : ∀ o, o = some ((frontP a i).1, (frontP a i).2) → Option.bind o (fun r_3 => ifs ((r_3.snd != (0 : Int)) = true) (some (injRs [RT.d Ty.bool] true)) (ifs (((0 : Nat) + List.length r_3.fst) * 96 ≤ (140737488355328 : Nat)) (ifs ((List.length ([] ++ r_3.fst) + List.length b) * 96 ≤ (140737488355328 : Nat))
      (Option.bind (cR 21 [RT.d ty31, RT.d (Ty.int IntKind.i64)] [inj ty31 (t, ()), inj (Ty.sl ty40) (r_3.fst ++ b)]) fun r => ifs ((r.snd == (0 : Int)) = true) (Option.bind (cR 26 [RT.d Ty.bool] [inj ty31 (u, ()), inj ty31 (r.fst.fst, ())]) fun r => some (injRs [RT.d Ty.bool] r)) (some (injRs [RT.d Ty.bool] false))) none) none)) = some (injRs [RT.d .bool] true) := fun o ho => by
    subst ho
    rw [Option.bind_some]
    by_cases h0 : (frontP a i).2 = 0
    · obtain ⟨k1, k2, k3⟩ := hFP h0
      rw [ifs_neg (by simp [h0]), ifs_pos (by simp only; omega), ifs_pos (by rw [List.nil_append]; simp only; omega)]
      have hp3 := pall_ok t ((frontP a i).1 ++ b) hg40 (by rw [List.length_append]; omega) (fun q hq => (List.mem_append.1 hq).elim (k1 q) (fun h => (hmb q h).1))
      rw [k3] at hp3
      refine (congrArg (fun o => Option.bind o _) hp3).trans ?_
      rw [Option.bind_some, ifs_pos (by simp)]
      refine (congrArg (fun o => Option.bind o _) hsame).trans ?_
      rfl
    · rw [ifs_pos (by simp [h0])]
  by_cases hgr : (rowsP a b).2.2 = 0
  · rw [ifs_pos (by simp [hgr])]
    obtain ⟨x, y, hxy⟩ : ∃ x y, rowsP a b = (x, y, 0) := ⟨(rowsP a b).1, (rowsP a b).2.1, by rw [← hgr]⟩
    obtain ⟨f1, f2, f3, f4, f5⟩ := rows_run a.reverse b [] x y hxy (fun q hq => (hma q (List.mem_reverse.1 hq)).2) (fun q hq => (hmb q hq).2) (fun q hq => (by cases hq)) hbm (by rw [List.length_reverse]; omega) (by rw [List.reverse_reverse, List.append_nil]; exact hrun)
    rw [List.length_reverse, List.length_nil] at f5
    obtain ⟨z1, z2, _, _⟩ := rowsG_md a.reverse b [] (fun q hq => (hma q (List.mem_reverse.1 hq)).1) (fun q hq => (hmb q hq).1) (fun q hq => (by cases hq))
    have hxy' : rowsG a.reverse b [] = (x, y, 0) := hxy
    rw [hxy'] at z1 z2
    have hw := same_end hg40 hbm hu' hgu f1 (fun q hq => (List.mem_append.1 hq).elim (f2 q) (f3 q)) (by rw [List.length_append]; omega)
    rw [hxy]
    rw [ifs_pos (by simp only; omega), List.take_length, ifs_pos (by rw [List.nil_append]; simp only; omega)]
    have hp2 := pall_ok t (x ++ y) hg40 (by rw [List.length_append]; omega) (fun q hq => (List.mem_append.1 hq).elim (z1 q) (z2 q))
    rw [hw] at hp2
    refine (congrArg (fun o => Option.bind o _) hp2).trans ?_
    rw [Option.bind_some, ifs_pos (by simp)]
    refine (congrArg (fun o => Option.bind o _) hsame).trans ?_
    rw [Option.bind_some, ifs_neg (by simp)]
    exact hend _ hfr
  · rw [ifs_neg (by simp [hgr])]
    exact hend _ hfr

end Go.Proofs.YtabhngbpkfdeiaaGreatDoor.Sp
end
