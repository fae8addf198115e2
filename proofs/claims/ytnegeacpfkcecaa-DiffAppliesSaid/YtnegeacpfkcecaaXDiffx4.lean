/- Printed by px.py, a program of this session over the print of the kit: functions that the law reaches, as Lean functions, each with a proof that its Go code answers so. No condition. -/
import Derived.Test.YtnegeacpfkcecaaXDiffx0
import Derived.Test.YtnegeacpfkcecaaXDiffx3
namespace Go.Proofs.Ytnegeacpfkcecaa.XDiff
open Go.RowKit Go.Proofs.YtnegeacpfkcecaaW.PrintWords Go.Proofs.YtnegeacpfkcecaaW.PrintLast Go.Proofs.YtnegeacpfkcecaaW.PrintMore
attribute [local go_sem] max2_int min2_int max_two min_two max_three min_three max_four min_four   -- for this text's walks alone
set_option linter.unusedVariables false
set_option linter.unusedSimpArgs false

/-! ### diff_walk: function 50 (a text of this session's) -/
theorem diff_walk.infoS : (Try.prog.info? 9).map (fun i => (i.zero, i.size, i.bytes)) = some (some (.string ⟨#[]⟩), 1, 16) := by kernel_rfl
theorem diff_walk.infoH : (Try.prog.info? 66).map (fun i => (i.zero, i.size, i.bytes)) = some (some (.agg #[(.int .i64 0), (.slice none 0 0), (.slice none 0 0)]), 3, 56) := by kernel_rfl
def diff_walk.row (xs : List (List Int)) (i : Int) : List Int := xs.getD i.toNat ([] : List Int)
theorem diff_walk.at_row {w : World} {A : Option Addr} {n : Nat} {xs : List (List Int)} (h : Kd.C (Kd.slice 3 (Kd.int .i64)) w A n xs) (i : Int) (h0 : 0 ≤ i) (h1 : i < n) : ∃ ad A0 c0, A = some ad ∧ w.cell? (ad.add i.toNat) = some (.slice A0 (diff_walk.row xs i).length c0) ∧ (diff_walk.row xs i).length ≤ c0 ∧ Kd.C (Kd.int .i64) w A0 (diff_walk.row xs i).length (diff_walk.row xs i) := by
  obtain ⟨ad, c, e, _, hK, hc0⟩ := Kd.C_get h ([] : List Int) i h0 h1
  have hc : ∀ j u, c[j]? = some u → w.cell? (ad.add (i.toNat * 1 + j)) = some u := hc0
  obtain ⟨A0, c0, rfl, l0, g0⟩ := hK
  exact ⟨ad, A0, c0, e, by have hq := hc 0 _ rfl; rwa [Nat.mul_one, Nat.add_zero] at hq, l0, g0⟩
namespace diff_walk.DW
/-- One hunk as it lies: its cells, and its two rows, each with blocks of its own. -/
def InH (w : World) (base : Nat) (f : Nat → Nat) (j : Nat) (c : List Value) (h : S66) : Prop :=
  ∃ u v, c = [.int .i64 h.f0, u, v] ∧ Kd.R Kd.string 9 w base (fun k => f k = 2 * j) u h.f1 ∧ Kd.R Kd.string 9 w base (fun k => f k = 2 * j + 1) v h.f2
/-- The hunks that are told so far. -/
def OutH (w : World) (base : Nat) (v : Value) (xs : List S66) : Prop :=
  ∃ (cs : List (List Value)) (f : Nat → Nat), (Kd.raw 3).R 66 w base (fun _ => True) v cs ∧ cs.length = xs.length ∧ ∀ j c h, cs[j]? = some c → xs[j]? = some h → InH w base f j c h
variable {w w1 W : World} {base : Nat} {v : Value} {xs : List S66}
theorem outH_nil (w : World) (base : Nat) : OutH w base (.slice none 0 0) [] := ⟨[], fun _ => 0, Kd.R_nil _ _ _ _ _, rfl, fun j c h hc => by simp at hc⟩
theorem inH_step {f : Nat → Nat} {j : Nat} {c : List Value} {h : S66} (H : InH w base f j c h)
    (hm : ∀ k cells, base ≤ k → k < w.heap.size → w.heap[k]? = some (.cells cells 9 (0, 0)) → w1.heap[k]? = w.heap[k]?) : InH w1 base f j c h := by
  obtain ⟨u, v, hc, hu, hv⟩ := H
  have aux : ∀ {ok : Nat → Prop} {u : Value} {l : List ByteArray}, Kd.R Kd.string 9 w base ok u l → Kd.R Kd.string 9 w1 base ok u l := by
    intro ok u l h
    refine Kd.R_mono (Kd.R_move (Kd.R_bound h) ?_) (fun _ hk => hk.1)
    rintro k ⟨_, h1, h2, q, hq, cells, hc⟩
    have hq9 : q = 9 := by simpa [Kd.string, Kd.scalar] using hq
    subst hq9
    exact hm k cells h1 h2 hc
  exact ⟨u, v, hc, aux hu, aux hv⟩
theorem outH_step (H : OutH w base v xs)
    (hm : ∀ k cells q, base ≤ k → k < w.heap.size → w.heap[k]? = some (.cells cells q (0, 0)) → (q = 66 ∨ q = 9) → w1.heap[k]? = w.heap[k]?) : OutH w1 base v xs := by
  obtain ⟨cs, f, ho, hl, hi⟩ := H
  refine ⟨cs, f, ?_, hl, fun j c h h1 h2 => inH_step (hi j c h h1 h2) (fun k cells hb hk hc => hm k cells 9 hb hk hc (.inr rfl))⟩
  refine Kd.R_mono (Kd.R_move (Kd.R_bound ho) ?_) (fun _ hk => hk.1)
  rintro k ⟨_, h1, h2, q, hq, cells, hc⟩
  have hq66 : q = 66 := by simpa [Kd.raw] using hq
  subst hq66
  exact hm k cells 66 h1 h2 hc (.inl rfl)
/-- A variable of another type is stored into. -/
theorem outH_set (H : OutH w base v xs) {g t : Nat} {cells : Array Value} (hg : w.heap[g]? = some (.cells cells t (0, 0))) (h66 : t ≠ 66) (h9 : t ≠ 9) (i : Nat) (u : Value) : OutH (w.setCell ⟨g, i, none⟩ u) base v xs :=
  outH_step H (fun k c q hb hk hc hq => Below.heap_setCell w ⟨g, i, none⟩ u k (by
    rintro rfl
    have he := hg.symm.trans hc
    injection he with he
    injection he with _ he
    rcases hq with rfl | rfl
    · exact h66 he
    · exact h9 he))
theorem outH_below (H : OutH w base v xs) (hb : Below w.heap.size w w1) : OutH w1 base v xs := outH_step H (fun k _ _ _ hk _ _ => hb.block k hk)
theorem outH_drewN (H : OutH w base v xs) (m : Nat) : OutH (w.drewN m) base v xs := outH_below H (pw_below_drewN (Below.refl _ _) m)
theorem outH_slice (H : OutH w base v xs) : ∃ A c, v = .slice A xs.length c := by
  obtain ⟨cs, f, ho, hl, hi⟩ := H
  obtain ⟨A, c, e⟩ := Kd.R_slice ho
  exact ⟨A, c, by rw [e, hl]⟩
/-- One more hunk, that is empty. -/
theorem outH_more (H : OutH W base v xs) {cs : List (List Value)} {f : Nat → Nat} {v1 : Value} {i : Int} (hl : cs.length = xs.length) (hi : ∀ j c h, cs[j]? = some c → xs[j]? = some h → InH W base f j c h)
    (ho : (Kd.raw 3).R 66 w1 base (fun _ => True) v1 (cs ++ [[.int .i64 i, .slice none 0 0, .slice none 0 0]]))
    (hm : ∀ k cells, base ≤ k → k < W.heap.size → W.heap[k]? = some (.cells cells 9 (0, 0)) → w1.heap[k]? = W.heap[k]?) : OutH w1 base v1 (xs ++ [⟨i, [], []⟩]) := by
  refine ⟨_, f, ho, by simp [hl], fun j c h h1 h2 => ?_⟩
  by_cases hj : j < xs.length
  · rw [List.getElem?_append_left (by omega)] at h1 h2
    exact inH_step (hi j c h h1 h2) hm
  · have hj' : j = xs.length := by
      have := (List.getElem?_eq_some_iff.1 h2).1
      simp at this
      omega
    subst hj'
    rw [← hl] at h1
    simp at h1
    simp at h2
    subst h1 h2
    exact ⟨_, _, rfl, Kd.R_nil _ _ _ _ _, Kd.R_nil _ _ _ _ _⟩
def newF (f : Nat → Nat) (N q k : Nat) : Nat := if N ≤ k then q else f k
theorem row_keep {f : Nat → Nat} {t q g i : Nat} {u a z : Value} {l l0 : List ByteArray} {cells : Array Value} (hne : t ≠ q) (Hu : Kd.R Kd.string 9 W base (fun k => f k = t) u l) (Ha : Kd.R Kd.string 9 W base (fun k => f k = q) a l0)
    (hg : W.grownBy w1 a.ownBlock) (hgb : W.heap[g]? = some (.cells cells 66 (0, 0))) : Kd.R Kd.string 9 (w1.setCell ⟨g, i, none⟩ z) base (fun k => newF f W.heap.size q k = t) u l := by
  refine Kd.R_mono (Kd.R_move (Kd.R_bound Hu) ?_) ?_
  · rintro k ⟨hf, h1, h2, q', hq, cs, hc⟩
    have hq9 : q' = 9 := by simpa [Kd.string, Kd.scalar] using hq
    subst hq9
    refine (Below.heap_setCell w1 ⟨g, i, none⟩ z k ?_).trans (hg.block k h2 ?_)
    · rintro rfl
      have he := hgb.symm.trans hc
      injection he with he
      injection he with _ he
      cases he
    · intro he
      exact hne (hf.symm.trans (Ha.1 k he.symm))
  · rintro k ⟨hf, h1, h2, _⟩
    unfold newF
    rw [if_neg (by omega)]
    exact hf
theorem outH_put {cs : List (List Value)} {f : Nat → Nat} {g n cap : Nat} (ho : (Kd.raw 3).R 66 W base (fun _ => True) (.slice (some ⟨g, 0, none⟩) n cap) cs) (hl : cs.length = xs.length) (hi : ∀ j c h, cs[j]? = some c → xs[j]? = some h → InH W base f j c h)
    (j : Nat) (h : S66) (hh : xs[j]? = some h) (a b : Value) (hc : cs[j]? = some [.int .i64 h.f0, a, b]) (p : Nat) (hp : p = 0 ∨ p = 1)
    (Ha : Kd.R Kd.string 9 W base (fun k => f k = 2 * j + p) (if p = 0 then a else b) (if p = 0 then h.f1 else h.f2))
    (Hb : Kd.R Kd.string 9 W base (fun k => f k = 2 * j + (1 - p)) (if p = 0 then b else a) (if p = 0 then h.f2 else h.f1))
    (a1 : Value) (l1 : List ByteArray) (hg : W.grownBy w1 (if p = 0 then a else b).ownBlock) (H1 : Kd.R Kd.string 9 w1 base (fun k => f k = 2 * j + p ∨ W.heap.size ≤ k) a1 l1) :
    OutH (w1.setCell ⟨g, j * 3 + (p + 1), none⟩ a1) base (.slice (some ⟨g, 0, none⟩) n cap) (xs.set j (if p = 0 then ⟨h.f0, l1, h.f2⟩ else ⟨h.f0, h.f1, l1⟩)) := by
  have hj : j < cs.length := (List.getElem?_eq_some_iff.1 hc).1
  have hn : n = cs.length := (Kd.R_reads' ho).1
  obtain ⟨cells, hgb⟩ := Kd.R_typed ho g (by simp [Value.ownBlock])
  have hgW : W.heap.size ≤ W.heap.size := Nat.le_refl _
  have hgne : some g ≠ (if p = 0 then a else b).ownBlock := by
    intro he
    obtain ⟨cells', hc'⟩ := Kd.R_typed Ha g he.symm
    have he := hgb.symm.trans hc'
    injection he with he
    injection he with _ he
    cases he
  have hglt : g < W.heap.size := by
    rcases Nat.lt_or_ge g W.heap.size with h' | h'
    · exact h'
    · rw [Array.getElem?_eq_none h'] at hgb
      cases hgb
  have ho1 : (Kd.raw 3).R 66 w1 base (fun _ => True) (.slice (some ⟨g, 0, none⟩) n cap) cs := by
    refine Kd.R_mono (Kd.R_move (Kd.R_bound ho) ?_) (fun _ _ => trivial)
    rintro k ⟨_, h1, h2, q', hq, cs', hc'⟩
    have hq66 : q' = 66 := by simpa [Kd.raw] using hq
    subst hq66
    refine hg.block k h2 ?_
    intro he
    obtain ⟨cells', hc''⟩ := Kd.R_typed Ha k he.symm
    have he := hc'.symm.trans hc''
    injection he with he
    injection he with _ he
    cases he
  obtain ⟨c, hcl, hM, hcc, hfr⟩ := Kd.R_elem ho1 [] (j : Int) (by omega) (by omega)
  have hcd : cs.getD j [] = [.int .i64 h.f0, a, b] := by rw [List.getD_eq_getElem?_getD, hc]; rfl
  rw [Int.toNat_natCast, hcd] at hM
  obtain ⟨rfl, -, hone⟩ := hM
  have hone1 : a1.oneCell' = true := by obtain ⟨A, c, rfl⟩ := Kd.R_slice H1; rfl
  have HS := (Kd.R_seg ho1 (j : Int) (by omega) (by omega) (seg := [a1]) (j := p + 1) (okp := fun _ => False) hcl hcc (by show p + 1 + 1 ≤ 3; omega) (x' := if p = 0 then [.int .i64 h.f0, a1, b] else [.int .i64 h.f0, a, a1]) (by
    rcases hp with rfl | rfl
    · refine ⟨rfl, rfl, ?_⟩
      intro u hu
      change u ∈ [.int .i64 h.f0, a1, b] at hu
      rcases List.mem_cons.1 hu with rfl | hu
      · rfl
      rcases List.mem_cons.1 hu with rfl | hu
      · exact hone1
      exact hone u (by simp at hu; simp [hu])
    · refine ⟨rfl, rfl, ?_⟩
      intro u hu
      change u ∈ [.int .i64 h.f0, a, a1] at hu
      rcases List.mem_cons.1 hu with rfl | hu
      · rfl
      rcases List.mem_cons.1 hu with rfl | hu
      · exact hone u (by simp)
      · simp at hu
        rw [hu]
        exact hone1) (fun _ hk => hk.elim)).1
  rw [Int.toNat_natCast] at HS
  have HS' : (Kd.raw 3).R 66 (w1.setCell ⟨g, j * 3 + (p + 1), none⟩ a1) base (fun _ => True) (.slice (some ⟨g, 0, none⟩) n cap) (cs.set j (if p = 0 then [.int .i64 h.f0, a1, b] else [.int .i64 h.f0, a, a1])) := HS
  refine ⟨_, newF f W.heap.size (2 * j + p), HS', by simp [hl], fun j' c' h' h1 h2 => ?_⟩
  have H1' : ∀ (z : Value) (i : Nat), Kd.R Kd.string 9 (w1.setCell ⟨g, i, none⟩ z) base (fun k => newF f W.heap.size (2 * j + p) k = 2 * j + p) a1 l1 := by
    intro z i
    refine Kd.R_mono (Kd.R_move (Kd.R_bound H1) ?_) ?_
    · rintro k ⟨_, h1, h2, q', hq, cs', hc'⟩
      have hq9 : q' = 9 := by simpa [Kd.string, Kd.scalar] using hq
      subst hq9
      refine Below.heap_setCell w1 ⟨g, i, none⟩ z k ?_
      rintro rfl
      have he := ((hg.block k hglt hgne).trans hgb).symm.trans hc'
      injection he with he
      injection he with _ he
      cases he
    · rintro k ⟨hf, _⟩
      unfold newF
      split
      · rfl
      · rcases hf with hf | hf
        · exact hf
        · omega
  by_cases hjj : j' = j
  · subst hjj
    rw [List.getElem?_set_self (by omega)] at h1
    rw [List.getElem?_set_self (by omega)] at h2
    obtain rfl := Option.some.inj h1
    obtain rfl := Option.some.inj h2
    rcases hp with rfl | rfl
    · simp only [if_pos] at Ha Hb hg ⊢
      exact ⟨a1, b, rfl, H1' _ _, row_keep (by omega) Hb Ha hg hgb⟩
    · rw [if_neg (by decide)] at Ha Hb hg ⊢
      rw [if_neg (by decide)] at Ha Hb ⊢
      exact ⟨a, a1, rfl, row_keep (by omega) Hb Ha hg hgb, H1' _ _⟩
  · rw [List.getElem?_set_ne (fun e => hjj e.symm)] at h1 h2
    obtain ⟨u, v, hc', hu, hv⟩ := hi j' c' h' h1 h2
    exact ⟨u, v, hc', row_keep (by omega) hu Ha hg hgb, row_keep (by omega) hv Ha hg hgb⟩
theorem outH_base {g n cap : Nat} (H : OutH W base (.slice (some ⟨g, 0, none⟩) n cap) xs) : base ≤ g := by
  obtain ⟨cs, f, ho, hl, hi⟩ := H
  exact Kd.R_base ho g (by simp [Value.ownBlock])
theorem outH_typed {g n cap : Nat} (H : OutH W base (.slice (some ⟨g, 0, none⟩) n cap) xs) : ∃ cells, W.heap[g]? = some (Obj.cells cells 66 (0, 0)) := by
  obtain ⟨cs, f, ho, hl, hi⟩ := H
  exact Kd.R_typed ho g (by simp [Value.ownBlock])
/-- At the end: a row of hunks. -/
theorem outH_S (H : OutH W base v xs) : Kd.S k66 66 W base (fun _ => True) v xs := by
  obtain ⟨cs, f, ho, hl, hi⟩ := H
  refine ⟨fun k => f k / 2, ?_⟩
  obtain ⟨h0, inner, hown, hlen, hr⟩ := ho
  refine ⟨fun _ _ => trivial, inner, ?_, ?_, ?_⟩
  · rw [List.length_zipIdx, ← hl]; exact hown
  · rw [List.length_zipIdx, ← hl]; exact hlen
  · intro j p hp
    rw [List.getElem?_zipIdx, Nat.zero_add] at hp
    obtain ⟨h, hh, rfl⟩ := Option.map_eq_some_iff.1 hp
    have hj : j < xs.length := (List.getElem?_eq_some_iff.1 hh).1
    have hcs : cs[j]? = some cs[j] := List.getElem?_eq_getElem (by omega)
    obtain ⟨hx, -, -⟩ := hr j _ hcs
    obtain ⟨u, v', hc, hu, hv⟩ := hi j _ h hcs hh
    show k66.M W base _ h _
    have hx' : (inner.drop (j * 3)).take 3 = [.int .i64 h.f0, u, v'] := hx.trans hc
    show k66.M W base _ h ((inner.drop (j * 3)).take 3)
    rw [hx']
    have key : ∀ (t : Nat) (x : Value) (l : List ByteArray), t / 2 = j → Kd.R Kd.string 9 W base (fun k => f k = t) x l → Kd.R Kd.string 9 W base (fun k => (True ∧ some k ≠ v.ownBlock) ∧ f k / 2 = j) x l := by
      intro t x l ht hx
      refine Kd.R_mono (Kd.R_bound hx) ?_
      rintro k ⟨hf, h1, h2, q', hq, cs', hc'⟩
      have hq9 : q' = 9 := by simpa [Kd.string, Kd.scalar] using hq
      subst hq9
      refine ⟨⟨trivial, ?_⟩, by rw [hf]; exact ht⟩
      intro he
      obtain ⟨cells', hc''⟩ := own_typed hown k he.symm
      have he := hc'.symm.trans hc''
      injection he with he
      injection he with _ he
      cases he
    exact k66_mkM W base _ h (key _ _ _ (by omega) hu) (key _ _ _ (by omega) hv)

/-- Where the last hunk's row lies, and that the whole stands when the row has grown. -/
theorem outH_side (p : Nat) (hp : p = 0 ∨ p = 1) {g n cap : Nat} (H : OutH W base (.slice (some ⟨g, 0, none⟩) n cap) xs) (j : Nat) (hj : j < xs.length) (h : S66) (hh : xs[j]? = some h) :
    ∃ (aa : Value) (okk : Nat → Prop), W.cell? ⟨g, j * 3 + (p + 1), none⟩ = some aa ∧ Kd.R Kd.string 9 W base okk aa (if p = 0 then h.f1 else h.f2) ∧ (∀ k, W.heap.size ≤ k → okk k) ∧
      ∀ (w1 : World) (a1 : Value) (l1 : List ByteArray), W.grownBy w1 aa.ownBlock → Kd.R Kd.string 9 w1 base okk a1 l1 →
        w1.cell? ⟨g, j * 3 + (p + 1), none⟩ = some aa ∧ w1.frozen? ⟨g, j * 3 + (p + 1), none⟩ = false ∧ (∃ cells, w1.heap[g]? = some (.cells cells 66 (0, 0))) ∧
        (∀ (b t : Nat) (cells : Array Value), t ≠ 9 → W.heap[b]? = some (Obj.cells cells t (0, 0)) → w1.heap[b]? = some (Obj.cells cells t (0, 0))) ∧
        OutH (w1.setCell ⟨g, j * 3 + (p + 1), none⟩ a1) base (.slice (some ⟨g, 0, none⟩) n cap) (xs.set j (if p = 0 then ⟨h.f0, l1, h.f2⟩ else ⟨h.f0, h.f1, l1⟩)) := by
  obtain ⟨cs, f, ho, hl, hi⟩ := H
  have hc : cs[j]? = some cs[j] := List.getElem?_eq_getElem (by omega)
  obtain ⟨u, v', hcs, hu, hv⟩ := hi j _ h hc hh
  rw [hcs] at hc
  have hn : n = cs.length := (Kd.R_reads' ho).1
  obtain ⟨cells, hgb⟩ := Kd.R_typed ho g (by simp [Value.ownBlock])
  obtain ⟨c, hcl, hM, hcc, hfr⟩ := Kd.R_elem ho [] (j : Int) (by omega) (by omega)
  have hcd : cs.getD j [] = [.int .i64 h.f0, u, v'] := by rw [List.getD_eq_getElem?_getD, hc]; rfl
  rw [Int.toNat_natCast, hcd] at hM
  obtain ⟨rfl, -, -⟩ := hM
  have Ha : Kd.R Kd.string 9 W base (fun k => f k = 2 * j + p) (if p = 0 then u else v') (if p = 0 then h.f1 else h.f2) := by
    rcases hp with rfl | rfl
    · exact hu
    · exact hv
  have Hb : Kd.R Kd.string 9 W base (fun k => f k = 2 * j + (1 - p)) (if p = 0 then v' else u) (if p = 0 then h.f2 else h.f1) := by
    rcases hp with rfl | rfl
    · exact hv
    · exact hu
  have hcell : W.cell? ⟨g, j * 3 + (p + 1), none⟩ = some (if p = 0 then u else v') := by
    have := hcc (p + 1) (if p = 0 then u else v') (by rcases hp with rfl | rfl <;> rfl)
    rw [Int.toNat_natCast] at this
    exact this
  refine ⟨if p = 0 then u else v', fun k => f k = 2 * j + p ∨ W.heap.size ≤ k, hcell, Kd.R_mono Ha (fun _ hk => .inl hk), fun _ hk => .inr hk, ?_⟩
  intro w1 a1 l1 hg H1
  have hkeep : ∀ (b t : Nat) (cells : Array Value), t ≠ 9 → W.heap[b]? = some (Obj.cells cells t (0, 0)) → w1.heap[b]? = some (Obj.cells cells t (0, 0)) := by
    intro b t cells ht hb
    refine (hg.block b (blk_lt hb) ?_).trans hb
    intro he
    obtain ⟨cells', hc'⟩ := Kd.R_typed Ha b he.symm
    have he := hb.symm.trans hc'
    injection he with he
    injection he with _ he
    exact ht he
  have hgb1 := hkeep g 66 cells (by decide) hgb
  refine ⟨?_, blk_frozen hgb1 _, ⟨_, hgb1⟩, hkeep, outH_put ho hl hi j h hh u v' hc p hp Ha Hb a1 l1 hg H1⟩
  rw [blk_cell hgb1, ← blk_cell hgb, hcell]
/-- What the closure leaves. -/
def HunkPost (w0 : World) (base : Nat) (b0 b1 b2 : Nat) (i : Int) (xs : List S66) (e : Ending) (w' : World) : Prop :=
  ∃ g cap, e = .returned (.pointer (some ⟨g, (xs.length - 1) * 3, none⟩)) ∧ w'.heap[b0]? = some (.cells #[.bool true] 4 (0, 0)) ∧ w'.heap[b1]? = some (.cells #[.slice (some ⟨g, 0, none⟩) xs.length cap] 25 (0, 0)) ∧
    w'.heap[b2]? = some (.cells #[.int .i64 i] 3 (0, 0)) ∧ OutH w' base (.slice (some ⟨g, 0, none⟩) xs.length cap) xs ∧ Below base w0 w'
theorem hunk_open (w0 w : World) (base b0 b1 b2 : Nat) (i : Int) (vo : Value) (xs : List S66) (h0 : w.heap[b0]? = some (.cells #[.bool true] 4 (0, 0))) (h1 : w.heap[b1]? = some (.cells #[vo] 25 (0, 0))) (h2 : w.heap[b2]? = some (.cells #[.int .i64 i] 3 (0, 0)))
    (HO : OutH w base vo xs) (hB : Below base w0 w) (hx : 0 < xs.length) (hl : xs.length ≤ 1000000) :
    Calls Try.prog 78 #[.pointer (some ⟨b0, 0, none⟩), .pointer (some ⟨b1, 0, none⟩), .pointer (some ⟨b2, 0, none⟩)] w (HunkPost w0 base b0 b1 b2 i xs) := by
  have HH := HO
  obtain ⟨cs, f, ho, hcl, hi⟩ := HH
  obtain ⟨g, cap, rfl, hbg, hgl, cells, hcg⟩ := Kd.R_form ho (by omega)
  rw [hcl] at *
  have hx0 : w.cell? ⟨b0, 0, none⟩ = some (.bool true) := (blk_cell h0 0).trans rfl
  have hx1 : w.cell? ⟨b1, 0, none⟩ = some (.slice (some ⟨g, 0, none⟩) xs.length cap) := (blk_cell h1 0).trans rfl
  have hw : IntKind.i64.wrap ((xs.length : Int) - 1) = ((xs.length - 1 : Nat) : Int) := by rw [i64_w, Go.IntWalk.wrap64_in _ (by omega)]; omega
  have H := Lib.hid (And.intro h0 (And.intro h1 (And.intro h2 (And.intro HO hB))))
  clear h0 h1 h2 HO hB ho hcl hi hcg
  go_enter Try.func78, Try.ntmps78
  go_wp2_with fail
  go_ret
  obtain ⟨h0, h1, h2, HO, hB⟩ := H.out
  exact ⟨g, cap, rfl, h0, h1, h2, HO, hB⟩
theorem hunk_grown {w w1 : World} {base b0 b1 b2 : Nat} {i : Int} {v v1 : Value} {xs : List S66} {cs : List (List Value)} {f : Nat → Nat} {u0 u1 u2 : Value} (h0 : w.heap[b0]? = some (.cells #[u0] 4 (0, 0))) (h1 : w.heap[b1]? = some (.cells #[u1] 25 (0, 0))) (h2 : w.heap[b2]? = some (.cells #[u2] 3 (0, 0)))
    (HO : OutH w base v xs) (ho : (Kd.raw 3).R 66 w base (fun _ => True) v cs) (hl : cs.length = xs.length) (hi : ∀ j c h, cs[j]? = some c → xs[j]? = some h → InH w base f j c h)
    (ho1 : (Kd.raw 3).R 66 w1 base (fun _ => True) v1 (cs ++ [[.int .i64 i, .slice none 0 0, .slice none 0 0]])) (hg : w.grownBy w1 v.ownBlock) :
    ∃ g cap, v1 = .slice (some ⟨g, 0, none⟩) (xs.length + 1) cap ∧ w1.heap[b0]? = some (.cells #[u0] 4 (0, 0)) ∧ w1.heap[b1]? = some (.cells #[u1] 25 (0, 0)) ∧ w1.heap[b2]? = some (.cells #[u2] 3 (0, 0)) ∧ OutH w1 base v1 (xs ++ [⟨i, [], []⟩]) := by
  obtain ⟨g, cap, hv, _, _, _⟩ := Kd.R_form ho1 (by simp)
  have hne : ∀ {b t : Nat} {u : Array Value}, w.heap[b]? = some (.cells u t (0, 0)) → t ≠ 66 → some b ≠ v.ownBlock := by
    intro b t u hb ht he
    obtain ⟨cells, hc⟩ := Kd.R_typed ho b he.symm
    have he := hb.symm.trans hc
    injection he with he
    injection he with _ he
    exact ht he
  exact ⟨g, cap, by rw [hv]; simp [hl], blk_grown h0 hg (hne h0 (by decide)), blk_grown h1 hg (hne h1 (by decide)), blk_grown h2 hg (hne h2 (by decide)), outH_more HO hl hi ho1 (fun k cells _ hk hc => hg.block k hk (hne hc (by decide)))⟩
theorem hunk_shut (w0 w : World) (base b0 b1 b2 : Nat) (i : Int) (vo : Value) (xs : List S66) (h0 : w.heap[b0]? = some (.cells #[.bool false] 4 (0, 0))) (h1 : w.heap[b1]? = some (.cells #[vo] 25 (0, 0))) (h2 : w.heap[b2]? = some (.cells #[.int .i64 i] 3 (0, 0)))
    (HO : OutH w base vo xs) (hB : Below base w0 w) (hbe : base = w0.heap.size) (hb0 : base ≤ b0) (hb1 : base ≤ b1) (hbw : base ≤ w.heap.size) (hl : xs.length ≤ 1000000) :
    Calls Try.prog 78 #[.pointer (some ⟨b0, 0, none⟩), .pointer (some ⟨b1, 0, none⟩), .pointer (some ⟨b2, 0, none⟩)] w (HunkPost w0 base b0 b1 b2 i (xs ++ [⟨i, [], []⟩])) := by
  have HH := HO
  obtain ⟨cs, f, ho, hcl, hi⟩ := HH
  obtain ⟨A, c, rfl⟩ := Kd.R_slice ho
  have hne01 : b0 ≠ b1 := blk_ne h0 h1 (by decide)
  have hne10 : b1 ≠ b0 := fun e => hne01 e.symm
  have hw : wrap64 (xs.length : Int) = (xs.length : Int) := Go.IntWalk.wrap64_in _ (by omega)
  have hx0 : w.cell? ⟨b0, 0, none⟩ = some (.bool false) := (blk_cell h0 0).trans rfl
  have hx1 : w.cell? ⟨b1, 0, none⟩ = some (.slice A cs.length c) := (blk_cell h1 0).trans rfl
  have hx2 : w.cell? ⟨b2, 0, none⟩ = some (.int .i64 i) := (blk_cell h2 0).trans rfl
  have H := Lib.hid (And.intro h0 (And.intro h1 (And.intro h2 (And.intro HO (And.intro hB (And.intro ho (And.intro hcl (And.intro hi (And.intro hl hbw)))))))))
  clear h0 h1 h2 HO hB ho hcl hi hl
  go_enter Try.func78, Try.ntmps78
  go_wp2_with ((with_reducible refine gate_builtin (b := .append) (xs := #[.tmp 6, .tmp 9]) rfl ?_); at_builtin; refine Kd.R_append (Kd.raw 3) (w0 := w0) base rfl (.tmp 6) (.tmp 9) 25 66 (.agg #[.int .i64 0, .slice none 0 0, .slice none 0 0]) 56 rfl Try.underlying25 diff_walk.infoH rfl (by decide) (by decide) (.slice A cs.length c) cs [.int .i64 i, .slice none 0 0, .slice none 0 0] [.int .i64 i, .slice none 0 0, .slice none 0 0] (fun _ => True) (fun _ => False) rfl rfl ⟨rfl, rfl, by simp [Value.oneCell']⟩ (fun _ hk => hk.elim) (fun _ _ => trivial) H.out.2.2.2.2.2.1 H.out.2.2.2.2.1 hbw (by have := H.out.2.2.2.2.2.2.1; have := H.out.2.2.2.2.2.2.2.2.1; omega) ?_; intro v1 w1 ho1 hb1_ hg1 hat1; obtain ⟨g, cap, rfl, h0', h1', h2', HO'⟩ := hunk_grown H.out.1 H.out.2.1 H.out.2.2.1 H.out.2.2.2.1 H.out.2.2.2.2.2.1 H.out.2.2.2.2.2.2.1 H.out.2.2.2.2.2.2.2.1 ho1 hg1; have K1 := Lib.hid (And.intro h0' (And.intro h1' (And.intro h2' (And.intro HO' hb1_)))); have hy1 := (blk_cell h1' 0).trans rfl; have hy0 := (blk_cell h0' 0).trans rfl; have hf1 := blk_frozen h1' 0; have hf0 := blk_frozen h0' 0; clear ho1 hb1_ hg1 hat1 h0' h1' h2' HO')
  go_ret
  obtain ⟨k0, k1, k2, HO', hB'⟩ := K1.out
  have hne2 : b2 ≠ b1 := blk_ne k2 k1 (by decide)
  have hne20 : b2 ≠ b0 := blk_ne k2 k0 (by decide)
  have e1 : (w1.setCell ⟨b1, 0, none⟩ (.slice (some ⟨g, 0, none⟩) (xs.length + 1) cap)).heap[b1]? = some (.cells #[.slice (some ⟨g, 0, none⟩) (xs.length + 1) cap] 25 (0, 0)) := blk_put k1 0 _ rfl
  have e0 : (w1.setCell ⟨b1, 0, none⟩ (.slice (some ⟨g, 0, none⟩) (xs.length + 1) cap)).heap[b0]? = some (.cells #[.bool false] 4 (0, 0)) := blk_far k0 hne01 _
  subst hbe
  refine ⟨g, cap, ?_, blk_put e0 0 _ rfl, ?_, blk_far (blk_far k2 hne2 _) hne20 _, ?_, below_set (below_set hB' hb1) hb0⟩
  · simp [hw]
  · rw [List.length_append, List.length_singleton]
    exact blk_far e1 hne10 _
  · rw [List.length_append, List.length_singleton]
    exact outH_set (outH_set HO' k1 (by decide) (by decide) 0 _) e0 (by decide) (by decide) 0 _

end diff_walk.DW
def diff_walk.at_ (l : List ByteArray) (i : Nat) : ByteArray := rdOf ByteArray.empty l (i : Int)
def diff_walk.addOld (xs : List S66) (s : ByteArray) : List S66 := xs.set (xs.length - 1) ⟨(xs.getD (xs.length - 1) z66).f0, (xs.getD (xs.length - 1) z66).f1 ++ [s], (xs.getD (xs.length - 1) z66).f2⟩
def diff_walk.addNew (xs : List S66) (s : ByteArray) : List S66 := xs.set (xs.length - 1) ⟨(xs.getD (xs.length - 1) z66).f0, (xs.getD (xs.length - 1) z66).f1, (xs.getD (xs.length - 1) z66).f2 ++ [s]⟩
def diff_walk.open_ (xs : List S66) (op : Bool) (i : Nat) : List S66 := if op then xs else xs ++ [⟨(i : Int), [], []⟩]
def diff_walk.ge (t : List (List Int)) (i k : Nat) : Bool := decide (rd (diff_walk.row t ((i : Int) + 1)) (k : Int) ≥ rd (diff_walk.row t (i : Int)) ((k : Int) + 1))
def diff_walk.go : Nat → List (List Int) → List ByteArray → List ByteArray → List S66 → Bool → Nat → Nat → Option (List S66)
  | 0, _, _, _, _, _, _, _ => none
  | n + 1, t, a, b, out, op, i, k =>
    if out.length < 1000000 ∧ (op = true → 0 < out.length) ∧ (∀ h ∈ out, h.f1.length < 1000000 ∧ h.f2.length < 1000000) ∧ i ≤ a.length ∧ k ≤ b.length then
      if i < a.length ∨ k < b.length then
        if i < a.length ∧ k < b.length ∧ (diff_walk.at_ a i).toList = (diff_walk.at_ b k).toList then diff_walk.go n t a b out false (i + 1) (k + 1)
        else if k < b.length ∧ i < a.length ∧ ¬ (i + 1 < t.length ∧ k < (diff_walk.row t ((i : Int) + 1)).length ∧ k + 1 < (diff_walk.row t (i : Int)).length) then none
        else if k = b.length ∨ (i < a.length ∧ diff_walk.ge t i k = true) then diff_walk.go n t a b (diff_walk.addOld (diff_walk.open_ out op i) (diff_walk.at_ a i)) true (i + 1) k
        else diff_walk.go n t a b (diff_walk.addNew (diff_walk.open_ out op i) (diff_walk.at_ b k)) true i (k + 1)
      else some out
    else none
def diff_walk.f (k : Nat) (l0 : List ByteArray) (l1 : List ByteArray) : Option (List S66) := if l0.length ≤ 1000000 ∧ l1.length ≤ 1000000 then (diff_table.f k l0 l1).bind fun t => diff_walk.go k t l0 l1 [] false 0 0 else none
theorem diff_walk.go_mono : ∀ (k : Nat) (t : List (List Int)) (a b : List ByteArray) (out : List S66) (op : Bool) (i j : Nat), LeO (diff_walk.go k t a b out op i j) (diff_walk.go (k + 1) t a b out op i j)
  | 0, t, a, b, out, op, i, j => fun r h => by simp [diff_walk.go] at h
  | k + 1, t, a, b, out, op, i, j => by
    have ih := diff_walk.go_mono k
    unfold diff_walk.go
    repeat' first
      | exact ih _ _ _ _ _ _ _
      | exact LeO.refl _
      | refine LeO.ite ?_ ?_
theorem diff_walk.mono : ∀ a0 a1 k, LeO (diff_walk.f k a0 a1) (diff_walk.f (k + 1) a0 a1) := by
  intro a0 a1 k
  unfold diff_walk.f
  refine LeO.ite (LeO.bind (diff_table.mono a0 a1 k) (fun _ => diff_walk.go_mono _ _ _ _ _ _ _ _)) (LeO.refl _)
/-- What holds at each round. -/
def diff_walk.Inv (W1 : World) (op : Bool) (i : Nat) (xs : List S66) (w' : World) : Prop :=
  ∃ vo, w'.heap[W1.heap.size]? = some (.cells #[vo] 25 (0, 0)) ∧ w'.heap[W1.heap.size + 1]? = some (.cells #[.bool op] 4 (0, 0)) ∧ w'.heap[W1.heap.size + 2]? = some (.cells #[.int .i64 (i : Int)] 3 (0, 0)) ∧ diff_walk.DW.OutH w' W1.heap.size vo xs ∧ Below W1.heap.size W1 w'
theorem diff_walk.inv0 (W1 : World) : diff_walk.Inv W1 false 0 [] (((W1.alloc (Obj.cells #[Value.slice none 0 0] 25)).alloc (Obj.cells #[Value.bool false] 4)).alloc (Obj.cells #[Value.int IntKind.i64 0] 3)) := by
  have hs : ∀ (W : World) (o : Obj), (W.alloc o).heap.size = W.heap.size + 1 := fun W o => Array.size_push _
  have hb1 := blk_new W1 (Obj.cells #[Value.slice none 0 0] 25)
  have hb2 := blk_new (W1.alloc (Obj.cells #[Value.slice none 0 0] 25)) (Obj.cells #[Value.bool false] 4)
  have hb3 := blk_new ((W1.alloc (Obj.cells #[Value.slice none 0 0] 25)).alloc (Obj.cells #[Value.bool false] 4)) (Obj.cells #[Value.int IntKind.i64 0] 3)
  rw [hs] at hb2
  rw [hs, hs] at hb3
  exact ⟨_, blk_alloc (blk_alloc hb1 _) _, blk_alloc hb2 _, hb3, diff_walk.DW.outH_nil _ _, below_alloc (below_alloc (below_alloc (Below.refl _ _) _) _) _⟩
theorem diff_walk.inv_drewN {W1 w' : World} {op : Bool} {i : Nat} {xs : List S66} (h : diff_walk.Inv W1 op i xs w') (m : Nat) : diff_walk.Inv W1 op i xs (w'.drewN m) := by
  obtain ⟨vo, h0, h1, h2, h3, h4⟩ := h
  exact ⟨vo, h0, h1, h2, diff_walk.DW.outH_drewN h3 m, pw_below_drewN h4 m⟩
theorem diff_walk.inv_open {W1 w' : World} {op : Bool} {i : Nat} {xs : List S66} (h : diff_walk.Inv W1 op i xs w') (b : Bool) : diff_walk.Inv W1 b i xs (w'.setCell ⟨W1.heap.size + 1, 0, none⟩ (.bool b)) := by
  obtain ⟨vo, h0, h1, h2, h3, h4⟩ := h
  exact ⟨vo, blk_far h0 (by simp) _, blk_put h1 0 _ rfl, blk_far h2 (by simp) _, diff_walk.DW.outH_set h3 h1 (by decide) (by decide) 0 _, below_set h4 (by omega)⟩
theorem diff_walk.inv_i {W1 w' : World} {op : Bool} {i : Nat} {xs : List S66} (h : diff_walk.Inv W1 op i xs w') (j : Nat) : diff_walk.Inv W1 op j xs (w'.setCell ⟨W1.heap.size + 1 + 1, 0, none⟩ (.int .i64 (j : Int))) := by
  obtain ⟨vo, h0, h1, h2, h3, h4⟩ := h
  exact ⟨vo, blk_far h0 (by simp; omega) _, blk_far h1 (by simp) _, blk_put h2 0 _ rfl, diff_walk.DW.outH_set h3 h2 (by decide) (by decide) 0 _, below_set h4 (by omega)⟩
theorem diff_walk.hunk {W1 w' : World} {op : Bool} {i : Nat} {xs : List S66} (h : diff_walk.Inv W1 op i xs w') (hl : xs.length < 1000000) (ho : op = true → 0 < xs.length) :
    Calls Try.prog 78 #[.pointer (some ⟨W1.heap.size + 1, 0, none⟩), .pointer (some ⟨W1.heap.size, 0, none⟩), .pointer (some ⟨W1.heap.size + 1 + 1, 0, none⟩)] w' (diff_walk.DW.HunkPost W1 W1.heap.size (W1.heap.size + 1) W1.heap.size (W1.heap.size + 2) (i : Int) (diff_walk.open_ xs op i)) := by
  obtain ⟨vo, h0, h1, h2, h3, h4⟩ := h
  cases op
  · exact diff_walk.DW.hunk_shut W1 w' _ _ _ _ _ vo xs h1 h0 h2 h3 h4 rfl (by omega) (Nat.le_refl _) h4.size (by omega)
  · exact diff_walk.DW.hunk_open W1 w' _ _ _ _ _ vo xs h1 h0 h2 h3 h4 (ho rfl) (by omega)
theorem diff_walk.cell_alloc {w : World} {p : Addr} {u : Value} (h : w.cell? p = some u) (o : Obj) : (w.alloc o).cell? p = some u := ((below_alloc (Below.refl _ _) o).cell (World.block_lt_of_cell? w _ h)).trans h
theorem diff_walk.open_pos {xs : List S66} {op : Bool} (h : op = true → 0 < xs.length) (i : Nat) : 0 < (diff_walk.open_ xs op i).length := by
  unfold diff_walk.open_
  split
  · exact h (by assumption)
  · simp
theorem diff_walk.open_len {xs : List S66} (h : ∀ h ∈ xs, h.f1.length < 1000000 ∧ h.f2.length < 1000000) (op : Bool) (i : Nat) : ∀ h ∈ diff_walk.open_ xs op i, h.f1.length < 1000000 ∧ h.f2.length < 1000000 := by
  unfold diff_walk.open_
  split
  · exact h
  · intro y hy
    rcases List.mem_append.1 hy with hy | hy
    · exact h y hy
    · obtain rfl := List.mem_singleton.1 hy
      exact ⟨by simp, by simp⟩
theorem diff_walk.inv_put {W1 w3 : World} {g n cap i q : Nat} {u : Value} {ys : List S66} (H : diff_walk.DW.OutH (w3.setCell ⟨g, q, none⟩ u) W1.heap.size (.slice (some ⟨g, 0, none⟩) n cap) ys) (hb : Below W1.heap.size W1 w3) (hgb : W1.heap.size ≤ g)
    (k0 : w3.heap[W1.heap.size + 1]? = some (.cells #[.bool true] 4 (0, 0))) (k1 : w3.heap[W1.heap.size]? = some (.cells #[.slice (some ⟨g, 0, none⟩) n cap] 25 (0, 0))) (k2 : w3.heap[W1.heap.size + 2]? = some (.cells #[.int .i64 (i : Int)] 3 (0, 0)))
    (hne : ∀ (b t : Nat) (cells : Array Value), t ≠ 66 → w3.heap[b]? = some (Obj.cells cells t (0, 0)) → b ≠ g) : diff_walk.Inv W1 true i ys (w3.setCell ⟨g, q, none⟩ u) :=
  ⟨_, blk_far k1 (hne _ _ _ (by decide) k1) _, blk_far k0 (hne _ _ _ (by decide) k0) _, blk_far k2 (hne _ _ _ (by decide) k2) _, H, below_set hb hgb⟩
theorem diff_walk.wrapUp (i : Nat) (h : i ≤ 1000000) : wrap64 ((i : Int) + 1) = (i : Int) + 1 := Go.IntWalk.wrap64_in _ (by omega)
set_option maxHeartbeats 8000000 in
set_option maxRecDepth 100000 in
theorem diff_walk.calls (k : Nat) (A0 : Option Addr) (c0 : Nat) (l0 : List ByteArray) (A1 : Option Addr) (c1 : Nat) (l1 : List ByteArray) (r : List (S66)) (w : World) (hr0 : Kd.C Kd.string w A0 l0.length l0) (hc0 : l0.length ≤ c0) (hr1 : Kd.C Kd.string w A1 l1.length l1) (hc1 : l1.length ≤ c1) (h : diff_walk.f k l0 l1 = some r) :
    Calls Try.prog 50 #[.slice A0 l0.length c0, .slice A1 l1.length c1] w fun e w' => ∃ v0_ : Value, e = .returned (v0_) ∧ Kd.S k66 66 w' w.heap.size (fun _ => True) v0_ r ∧ Below w.heap.size w w' := by
  unfold diff_walk.f at h
  split at h
  case isFalse => cases h
  rename_i hlen
  obtain ⟨t, ht, hgo⟩ := Option.bind_eq_some_iff.1 h
  clear h
  have H := Lib.hid (And.intro hr0 (And.intro hr1 (And.intro hlen hgo)))
  clear hr0 hr1 hlen hgo
  go_enter Try.func50, Try.ntmps50
  go_wp2_with (go_at_call 56; refine (diff_table.calls k _ _ l0 _ _ l1 t _ H.out.1 hc0 H.out.2.1 hc1 ht).mono ?_; rintro e W1 ⟨vt, rfl, HT, HB1⟩; obtain ⟨At, ct, rfl, hct, hCt⟩ := Kd.S_reads HT; have HX := Lib.hid (And.intro hCt HB1); clear HT hCt HB1)
  have hdisj : True := trivial
  go_loopg [9] k (fun kq v9 w' => ∃ (op : Bool) (i kk : Nat) (out : List S66), v9 = .int .i64 (kk : Int) ∧ Aside0 (diff_walk.go kq t l0 l1 out op i kk = some r) ∧ Aside0 (kq ≤ k) ∧ Aside0 (diff_walk.Inv W1 op i out w'))
  case atStart => exact ⟨false, 0, 0, [], rfl, ⟨H.out.2.2.2⟩, ⟨Nat.le_refl _⟩, ⟨diff_walk.inv0 W1⟩⟩
  case round =>
    obtain ⟨op, i, kk, out, rfl, HA, HK1, HI⟩ := hrel
    cases gk with
    | zero => exact absurd HA.out (by simp [diff_walk.go])
    | succ k1 =>
      obtain ⟨vo, hi0, hi1, hi2, hi3, hi4⟩ := HI.out
      have hx1 := (blk_cell hi1 0).trans rfl
      have hx2 := (blk_cell hi2 0).trans rfl
      have G := HA.out
      unfold diff_walk.go at G
      split at G
      case isFalse => cases G
      rename_i hguard
      have HG := Lib.hid hguard
      obtain ⟨hg1, hg2, hg3, hg4, hg5⟩ := hguard
      have hll := H.out.2.2.1
      have HI2 := Lib.hid (And.intro hi0 (And.intro hi1 (And.intro hi2 (And.intro hi3 hi4))))
      clear hi0 hi1 hi2 hi3 hi4 hg1 hg2 hg3 HA HI
      split at G
      case isFalse =>
        rename_i hend
        have e1 : i = l0.length := by omega
        have e2 : kk = l1.length := by omega
        subst e1 e2
        obtain rfl := Option.some.inj G
        have hx0 := (blk_cell HI2.out.1 0).trans rfl
        clear hll hg4 hg5 hend hx1 G
        go_wp2_with fail
        go_ret
        obtain ⟨hi0, hi1, hi2, hi3, hi4⟩ := HI2.out
        obtain ⟨_, hBw⟩ := HX.out
        exact ⟨vo, rfl, Kd.S_lower (diff_walk.DW.outH_S hi3) (below_size hBw), below_step hBw hi4⟩
      case isTrue =>
        rename_i hcont
        have hBw := below_step HX.out.2 HI2.out.2.2.2.2
        split at G
        case isTrue =>
          rename_i hm
          obtain ⟨hA, hB, hE⟩ := hm
          obtain ⟨ad0, e0, hxa⟩ := Kd.at_string H.out.1 (i : Int) (by omega) (by omega)
          obtain ⟨ad1, e1, hxb⟩ := Kd.at_string H.out.2.1 (kk : Int) (by omega) (by omega)
          subst e0 e1
          replace hxa := (hBw.cell (World.block_lt_of_cell? w _ hxa)).trans hxa
          replace hxb := (hBw.cell (World.block_lt_of_cell? w _ hxb)).trans hxb
          simp only [Int.toNat_natCast] at hxa hxb
          have hA1 : (i : Int) < (l0.length : Int) := by omega
          have hB1 : (kk : Int) < (l1.length : Int) := by omega
          have hA2 := decide_eq_true hA1
          have hB2 := decide_eq_true hB1
          have hE2 : ((rdOf ByteArray.empty l0 (i : Int)).toList == (rdOf ByteArray.empty l1 (kk : Int)).toList) = true := beq_iff_eq.mpr hE
          have hf1 := blk_frozen HI2.out.2.1 0
          have hf2 := blk_frozen HI2.out.2.2.1 0
          clear hE hcont hll hg4 hg5
          have HBw := Lib.hid hBw
          clear hBw
          have hwi := diff_walk.wrapUp i (by have := H.out.2.2.1; omega)
          have hwk := diff_walk.wrapUp kk (by have := H.out.2.2.1; omega)
          go_wp2_with fail
          go_quiet (fail)
          go_wp2_with fail
          go_roundg k1
          case measure => have := HK1.out; omega
          case rel =>
            refine ⟨false, i + 1, kk + 1, out, by simp [hwk], ⟨G⟩, ⟨by have := HK1.out; omega⟩, ⟨?_⟩⟩
            have hI := diff_walk.inv_i (diff_walk.inv_open (diff_walk.inv_drewN ⟨vo, HI2.out⟩ nq) false) (i + 1)
            simpa using hI
        case isFalse =>
          rename_i hno
          split at G
          case isTrue => cases G
          rename_i hin
          have hwi := diff_walk.wrapUp i (by omega)
          have hwk := diff_walk.wrapUp kk (by omega)
          have hf1 := blk_frozen HI2.out.2.1 0
          have hf2 := blk_frozen HI2.out.2.2.1 0
          by_cases hB : kk < l1.length
          case neg =>
            have hA : i < l0.length := by omega
            have hkk : kk = l1.length := by omega
            rw [if_pos (Or.inl hkk)] at G
            obtain ⟨ad0, e0, hwa⟩ := Kd.at_string H.out.1 (i : Int) (by omega) (by omega)
            subst e0
            simp only [Int.toNat_natCast] at hwa
            have hA1 : (i : Int) < (l0.length : Int) := by omega
            have hA2 := decide_eq_true hA1
            have hB2 : decide ((kk : Int) < (l1.length : Int)) = false := decide_eq_false (by omega)
            have hB3 : ((kk : Int) = (l1.length : Int)) = True := eq_true (by omega)
            have hB4 : ((kk : Int) == (l1.length : Int)) = true := beq_iff_eq.mpr (by omega)
            have hB5 : decide ((kk : Int) = (l1.length : Int)) = true := decide_eq_true (by omega)
            have hB6 : decide (kk < l1.length) = false := decide_eq_false hB
            have hB7 : (kk == l1.length) = true := beq_iff_eq.mpr hkk
            have hB8 : decide (kk = l1.length) = true := decide_eq_true hkk
            have hA3 := decide_eq_true hA
            clear hno hin hkk hB
            go_wp2_with fail
            go_quiet (fail)
            go_wp2_with fail
            go_quiet (fail)
            go_wp2_with (go_at_call 78; refine (diff_walk.hunk (W1 := W1) (op := op) (i := i) (xs := out) (by (repeat apply diff_walk.inv_drewN); exact ⟨vo, HI2.out⟩) HG.out.1 HG.out.2.1).mono ?_; rintro e w2 ⟨g, cap, rfl, k0, k1_, k2, HO, HB2⟩; have K2 := Lib.hid (And.intro k0 (And.intro k1_ (And.intro k2 (And.intro HO HB2)))); clear k0 k1_ k2 HO HB2)
            have hxs : 0 < (diff_walk.open_ out op i).length := diff_walk.open_pos HG.out.2.1 i
            have hxl := diff_walk.open_len HG.out.2.2.1 op i
            generalize diff_walk.open_ out op i = xs at K2 hxs hxl G ⊢
            obtain ⟨k0, k1_, k2, HO, HB2⟩ := K2.out
            obtain ⟨jj, hjj⟩ : ∃ jj, jj = xs.length - 1 := ⟨_, rfl⟩
            rw [← hjj]
            have hjl : jj < xs.length := by omega
            have HJ := Aside0.mk hjj
            clear hjj
            obtain ⟨hl, hhl⟩ : ∃ hl, hl = xs.getD jj z66 := ⟨_, rfl⟩
            have HL := Aside0.mk hhl
            have hh : xs[jj]? = some hl := by rw [hhl, List.getD_eq_getElem?_getD, List.getElem?_eq_getElem hjl]; rfl
            have HOd : diff_walk.DW.OutH w2.drew W1.heap.size (.slice (some ⟨g, 0, none⟩) xs.length cap) xs := diff_walk.DW.outH_below HO (below_drew (Below.refl _ _))
            clear hhl
            obtain ⟨aa, okk, hs0, HR0, hfr, hput⟩ := diff_walk.DW.outH_side 0 (by decide) HOd jj hjl hl hh
            rw [if_pos rfl] at HR0
            simp only [if_pos, Nat.zero_add] at hput hs0
            have hs1 : w2.drew.cell? ⟨W1.heap.size + 1 + 1, 0, none⟩ = some (.int .i64 (i : Int)) := (blk_cell (w := w2.drew) (blk_drew k2) 0).trans rfl
            have hs2 : w2.drew.cell? (ad0.add i) = some (.string (diff_walk.at_ l0 i)) := ((below_step HX.out.2 HB2).cell (World.block_lt_of_cell? w _ hwa)).trans hwa
            have HBn := Aside0.mk (below_drew1 HB2)
            have hbn : W1.heap.size ≤ w2.drew.heap.size := HB2.size
            have hln : (hl.f1.length + 1) * 16 ≤ 140737488355328 := by have := (hxl hl (List.mem_of_getElem? hh)).1; omega
            replace k0 := blk_drew k0
            replace k1_ := blk_drew k1_
            replace k2 := blk_drew k2
            have hgW : W1.heap.size ≤ g := diff_walk.DW.outH_base HO
            clear HO HB2 HOd hll hcont K2 hxl hxs
            refine start_ (n := 14) (S := fun w' => w'.cell? ⟨g, jj * 3 + 1, none⟩ = some aa ∧ w'.cell? ⟨W1.heap.size + 1 + 1, 0, none⟩ = some (.int .i64 (i : Int)) ∧ w'.cell? (ad0.add i) = some (.string (diff_walk.at_ l0 i))) (ds := [10, 13]) #[false, false, false, false, false, false, false, false, false, false, false, false, false, false] (by kernel_rfl) rfl rfl ⟨hs0, hs1, hs2⟩ (fun hHeld => ?_)
            generalize w2.drew = wD at hs0 hs1 hs2 HR0 hfr hput HBn hbn k0 k1_ k2 hHeld ⊢
            refine pure_ (i := 0) (N := some 102) (v := ?_) (a' := ?_) #[true, false, false, false, false, false, false, false, false, false, false, false, false, false] rfl rfl (by kernel_rfl) (fun _ _ _ h => h) (Or.inl ⟨by rfl, ?_⟩) ?_ ?_
            rotate_left
            · intro w'
              go_simp
              with_reducible rfl
            rotate_left
            · simp only [Act.put, List.setIfInBounds_toArray, List.set_cons_zero, List.set_cons_succ, i64_w, i32_w]
              rfl
            refine pure_ (i := 1) (N := some 103) (v := ?_) (a' := ?_) #[true, true, false, false, false, false, false, false, false, false, false, false, false, false] rfl rfl (by kernel_rfl) (fun _ _ _ h => h) (Or.inl ⟨by rfl, ?_⟩) ?_ ?_
            rotate_left
            · intro w'
              go_simp
              with_reducible rfl
            rotate_left
            · simp only [Act.put, List.setIfInBounds_toArray, List.set_cons_zero, List.set_cons_succ, i64_w, i32_w]
              rfl
            refine pure_ (i := 2) (N := some 104) (v := ?_) (a' := ?_) #[true, true, true, false, false, false, false, false, false, false, false, false, false, false] rfl rfl (by kernel_rfl) (fun _ _ _ h => h) (Or.inl ⟨by rfl, ?_⟩) ?_ ?_
            rotate_left
            · intro w'
              go_simp
              with_reducible rfl
            rotate_left
            · simp only [Act.put, List.setIfInBounds_toArray, List.set_cons_zero, List.set_cons_succ, i64_w, i32_w]
              rfl
            refine pure_ (i := 3) (N := some 105) (v := ?_) (a' := ?_) #[true, true, true, true, false, false, false, false, false, false, false, false, false, false] rfl rfl (by kernel_rfl) (fun _ _ _ h => h) (Or.inl ⟨by rfl, ?_⟩) ?_ ?_
            rotate_left
            · intro w'
              go_simp
              with_reducible rfl
            rotate_left
            · simp only [Act.put, List.setIfInBounds_toArray, List.set_cons_zero, List.set_cons_succ, i64_w, i32_w]
              rfl
            refine pure_ (i := 5) (N := some 107) (v := ?_) (a' := ?_) #[true, true, true, true, false, true, false, false, false, false, false, false, false, false] rfl rfl (by kernel_rfl) (fun _ _ _ h => h) (Or.inl ⟨by rfl, ?_⟩) ?_ ?_
            rotate_left
            · intro w'
              go_simp
              with_reducible rfl
            rotate_left
            · simp only [Act.put, List.setIfInBounds_toArray, List.set_cons_zero, List.set_cons_succ, i64_w, i32_w]
              rfl
            refine take_ (i := 4) (N := some 106) (v := ?_) (a' := ?_) #[true, true, true, true, true, true, false, false, false, false, false, false, false, false] rfl rfl (by kernel_rfl) (fun _ _ _ h => h) (Or.inl ⟨by rfl, ?_⟩) hHeld ?_ ?_
            rotate_left
            · rintro w' ⟨s0, s1, s2⟩
              go_simp
              with_reducible rfl
            rotate_left
            · simp only [Act.put, List.setIfInBounds_toArray, List.set_cons_zero, List.set_cons_succ, i64_w, i32_w]
              rfl
            refine take_ (i := 6) (N := some 108) (v := ?_) (a' := ?_) #[true, true, true, true, true, true, true, false, false, false, false, false, false, false] rfl rfl (by kernel_rfl) (fun _ _ _ h => h) (Or.inl ⟨by rfl, ?_⟩) hHeld ?_ ?_
            rotate_left
            · rintro w' ⟨s0, s1, s2⟩
              go_simp
              with_reducible rfl
            rotate_left
            · simp only [Act.put, List.setIfInBounds_toArray, List.set_cons_zero, List.set_cons_succ, i64_w, i32_w]
              rfl
            refine pure_ (i := 7) (N := some 109) (v := ?_) (a' := ?_) #[true, true, true, true, true, true, true, true, false, false, false, false, false, false] rfl rfl (by kernel_rfl) (fun _ _ _ h => h) (Or.inl ⟨by rfl, ?_⟩) ?_ ?_
            rotate_left
            · intro w'
              go_simp
              with_reducible rfl
            rotate_left
            · simp only [Act.put, List.setIfInBounds_toArray, List.set_cons_zero, List.set_cons_succ, i64_w, i32_w]
              rfl
            refine take_ (i := 8) (N := some 110) (v := ?_) (a' := ?_) #[true, true, true, true, true, true, true, true, true, false, false, false, false, false] rfl rfl (by kernel_rfl) (fun _ _ _ h => h) (Or.inl ⟨by rfl, ?_⟩) hHeld ?_ ?_
            rotate_left
            · rintro w' ⟨s0, s1, s2⟩
              go_simp
              with_reducible rfl
            rotate_left
            · simp only [Act.put, List.setIfInBounds_toArray, List.set_cons_zero, List.set_cons_succ, i64_w, i32_w]
              rfl
            refine one_ (i := 9) (N := some 111) #[true, true, true, true, true, true, true, true, true, true, false, false, false, false] rfl rfl (by kernel_rfl) (by decide) (fun K hK => ?_)
            refine value_ (w1 := ?_) (v := ?_) (by rfl) rfl ?_ ?_
            rotate_left 2
            · go_simp
              constructor
              · rfl
              · rfl
            refine hK.out _ _ ⟨(diff_walk.cell_alloc hs0 _), (diff_walk.cell_alloc hs1 _), (diff_walk.cell_alloc hs2 _)⟩ (fun hHeld => ?_)
            clear hK K
            refine norm_ (a' := ?_) ?_ ?_
            rotate_left
            · show Act.put _ (some 111) _ = _
              simp only [Act.put, List.setIfInBounds_toArray, List.set_cons_zero, List.set_cons_succ, i64_w, i32_w]
              rfl
            refine last_ (i := 10) (N := some 112) #[true, true, true, true, true, true, true, true, true, true, true, false, false, false] rfl rfl (by kernel_rfl) (by decide) (fun K hK => ?_)
            refine Kd.R_append_step Kd.string (w0 := W1) W1.heap.size rfl (.tmp 106) (.tmp 111) 22 9 (.string ⟨#[]⟩) 16 rfl Try.underlying22 diff_walk.infoS rfl (by decide) (by decide) aa (hl.f1) (diff_walk.at_ l0 i) [.string (diff_walk.at_ l0 i)] okk (fun _ => False) rfl rfl rfl (fun _ hk => hk.elim) hfr HR0 HBn.out hbn hln ?_
            intro a1 w3 ho3 hb3 hg3 hat3
            obtain ⟨q0, qf, ⟨cz, q66⟩, qk, hO3⟩ := hput w3 a1 _ hg3 ho3
            have k0' := qk _ _ _ (by decide) k0
            have k1' := qk _ _ _ (by decide) k1_
            have k2' := qk _ _ _ (by decide) k2
            obtain ⟨A3, c3, rfl⟩ := Kd.R_slice ho3
            have HH3 := Lib.hid (And.intro hO3 (And.intro hb3 q66))
            clear ho3 hb3 hg3 hat3 hO3 qk q66
            refine hK.out _ _ ?_
            clear hK K
            refine norm_ (a' := ?_) ?_ ?_
            rotate_left
            · show Act.put _ (some 112) _ = _
              simp only [Act.put, List.setIfInBounds_toArray, List.set_cons_zero, List.set_cons_succ, i64_w, i32_w]
              rfl
            refine pure_ (i := 11) (N := some 113) (v := ?_) (a' := ?_) #[true, true, true, true, true, true, true, true, true, true, true, true, false, false] rfl rfl (by kernel_rfl) (fun _ _ _ h => h) (Or.inl ⟨by rfl, ?_⟩) ?_ ?_
            rotate_left
            · intro w'
              go_simp
              with_reducible rfl
            rotate_left
            · simp only [Act.put, List.setIfInBounds_toArray, List.set_cons_zero, List.set_cons_succ, i64_w, i32_w]
              rfl
            refine pure_ (i := 12) (N := some 114) (v := ?_) (a' := ?_) #[true, true, true, true, true, true, true, true, true, true, true, true, true, false] rfl rfl (by kernel_rfl) (fun _ _ _ h => h) (Or.inl ⟨by rfl, ?_⟩) ?_ ?_
            rotate_left
            · intro w'
              go_simp
              with_reducible rfl
            rotate_left
            · simp only [Act.put, List.setIfInBounds_toArray, List.set_cons_zero, List.set_cons_succ, i64_w, i32_w]
              rfl
            refine last_ (i := 13) (N := none) #[true, true, true, true, true, true, true, true, true, true, true, true, true, true] rfl rfl (by kernel_rfl) (by decide) (fun K hK => ?_)
            refine skip_ (w1 := ?_) (by rfl) rfl ?_ ?_
            rotate_left
            · go_simp
              rfl
            refine hK.out _ _ ?_
            clear hK K
            refine done_ (by kernel_rfl) ?_

            have HI4 : diff_walk.Inv W1 true i (diff_walk.addOld xs (diff_walk.at_ l0 i)) (w3.setCell ⟨g, jj * 3 + 1, none⟩ (.slice A3 (hl.f1.length + 1) c3)) := by
                    have hO3 := HH3.out.1
                    simp only [List.length_append, List.length_singleton] at hO3
                    rw [HL.out, HJ.out] at hO3
                    rw [HL.out, HJ.out]
                    exact diff_walk.inv_put hO3 HH3.out.2.1 hgW k0' k1' k2' (fun b t cells ht hb => blk_ne hb HH3.out.2.2 ht)
            have HI5 := Lib.hid HI4
            obtain ⟨vo', hi0, hi1, hi2, hi3, hi4⟩ := HI4
            have hy2 := (blk_cell hi2 0).trans rfl
            have hyf := blk_frozen hi2 0
            clear hi0 hi1 hi2 hi3 hi4 k0' k1' k2'
            generalize w3.setCell ⟨g, jj * 3 + 1, none⟩ (.slice A3 (hl.f1.length + 1) c3) = w4 at HI5 hy2 hyf ⊢
            go_wp2_with fail
            go_roundg k1
            case measure => have := HK1.out; omega
            case rel =>
              exact ⟨true, i + 1, kk, _, by simp, ⟨G⟩, ⟨by have := HK1.out; omega⟩, ⟨by simpa using diff_walk.inv_i HI5.out (i + 1)⟩⟩
          case pos =>
            obtain ⟨ad1, e1, hwb⟩ := Kd.at_string H.out.2.1 (kk : Int) (by omega) (by omega)
            subst e1
            simp only [Int.toNat_natCast] at hwb
            have hB1 : (kk : Int) < (l1.length : Int) := by omega
            have hB2 := decide_eq_true hB1
            have hB3 : ((kk : Int) = (l1.length : Int)) = False := eq_false (by omega)
            have hB4 : ((kk : Int) == (l1.length : Int)) = false := beq_eq_false_iff_ne.mpr (by omega)
            have hB5 : decide ((kk : Int) = (l1.length : Int)) = false := decide_eq_false (by omega)
            by_cases hA : i < l0.length
            case neg =>
              have hii : i = l0.length := by omega
              rw [if_neg (by omega)] at G
              have hA2 : decide ((i : Int) < (l0.length : Int)) = false := decide_eq_false (by omega)
              have hA3 : decide (i < l0.length) = false := decide_eq_false hA
              have hB6 := decide_eq_true hB
              have hB7 : (kk == l1.length) = false := beq_eq_false_iff_ne.mpr (by omega)
              have hB8 : decide (kk = l1.length) = false := decide_eq_false (by omega)
              clear hno hin hii hA
              go_wp2_with fail
              go_quiet (fail)
              go_wp2_with fail
              go_quiet (fail)
              go_wp2_with (go_at_call 78; refine (diff_walk.hunk (W1 := W1) (op := op) (i := i) (xs := out) (by (repeat apply diff_walk.inv_drewN); exact ⟨vo, HI2.out⟩) HG.out.1 HG.out.2.1).mono ?_; rintro e w2 ⟨g, cap, rfl, k0, k1_, k2, HO, HB2⟩; have K2 := Lib.hid (And.intro k0 (And.intro k1_ (And.intro k2 (And.intro HO HB2)))); clear k0 k1_ k2 HO HB2)
              have hxs : 0 < (diff_walk.open_ out op i).length := diff_walk.open_pos HG.out.2.1 i
              have hxl := diff_walk.open_len HG.out.2.2.1 op i
              generalize diff_walk.open_ out op i = xs at K2 hxs hxl G ⊢
              obtain ⟨k0, k1_, k2, HO, HB2⟩ := K2.out
              obtain ⟨jj, hjj⟩ : ∃ jj, jj = xs.length - 1 := ⟨_, rfl⟩
              rw [← hjj]
              have hjl : jj < xs.length := by omega
              have HJ := Aside0.mk hjj
              clear hjj
              obtain ⟨hl, hhl⟩ : ∃ hl, hl = xs.getD jj z66 := ⟨_, rfl⟩
              have HL := Aside0.mk hhl
              have hh : xs[jj]? = some hl := by rw [hhl, List.getD_eq_getElem?_getD, List.getElem?_eq_getElem hjl]; rfl
              have HOd : diff_walk.DW.OutH w2.drew W1.heap.size (.slice (some ⟨g, 0, none⟩) xs.length cap) xs := diff_walk.DW.outH_below HO (below_drew (Below.refl _ _))
              clear hhl
              obtain ⟨aa, okk, hs0, HR0, hfr, hput⟩ := diff_walk.DW.outH_side 1 (by decide) HOd jj hjl hl hh
              rw [if_neg (by decide)] at HR0
              simp only [Nat.reduceAdd, Nat.one_ne_zero, if_false] at hput hs0
              have hs1 : w2.drew.cell? ⟨W1.heap.size + 1 + 1, 0, none⟩ = some (.int .i64 (i : Int)) := (blk_cell (w := w2.drew) (blk_drew k2) 0).trans rfl
              have hs2 : w2.drew.cell? (ad1.add kk) = some (.string (diff_walk.at_ l1 kk)) := ((below_step HX.out.2 HB2).cell (World.block_lt_of_cell? w _ hwb)).trans hwb
              have HBn := Aside0.mk (below_drew1 HB2)
              have hbn : W1.heap.size ≤ w2.drew.heap.size := HB2.size
              have hln : (hl.f2.length + 1) * 16 ≤ 140737488355328 := by have := (hxl hl (List.mem_of_getElem? hh)).2; omega
              replace k0 := blk_drew k0
              replace k1_ := blk_drew k1_
              replace k2 := blk_drew k2
              have hgW : W1.heap.size ≤ g := diff_walk.DW.outH_base HO
              clear HO HB2 HOd hll hcont K2 hxl hxs
              refine start_ (n := 14) (S := fun w' => w'.cell? ⟨g, jj * 3 + 2, none⟩ = some aa ∧ w'.cell? ⟨W1.heap.size + 1 + 1, 0, none⟩ = some (.int .i64 (i : Int)) ∧ w'.cell? (ad1.add kk) = some (.string (diff_walk.at_ l1 kk))) (ds := [10, 13]) #[false, false, false, false, false, false, false, false, false, false, false, false, false, false] (by kernel_rfl) rfl rfl ⟨hs0, hs1, hs2⟩ (fun hHeld => ?_)
              generalize w2.drew = wD at hs0 hs1 hs2 HR0 hfr hput HBn hbn k0 k1_ k2 hHeld ⊢
              refine pure_ (i := 0) (N := some 29) (v := ?_) (a' := ?_) #[true, false, false, false, false, false, false, false, false, false, false, false, false, false] rfl rfl (by kernel_rfl) (fun _ _ _ h => h) (Or.inl ⟨by rfl, ?_⟩) ?_ ?_
              rotate_left
              · intro w'
                go_simp
                with_reducible rfl
              rotate_left
              · simp only [Act.put, List.setIfInBounds_toArray, List.set_cons_zero, List.set_cons_succ, i64_w, i32_w]
                rfl
              refine pure_ (i := 1) (N := some 30) (v := ?_) (a' := ?_) #[true, true, false, false, false, false, false, false, false, false, false, false, false, false] rfl rfl (by kernel_rfl) (fun _ _ _ h => h) (Or.inl ⟨by rfl, ?_⟩) ?_ ?_
              rotate_left
              · intro w'
                go_simp
                with_reducible rfl
              rotate_left
              · simp only [Act.put, List.setIfInBounds_toArray, List.set_cons_zero, List.set_cons_succ, i64_w, i32_w]
                rfl
              refine pure_ (i := 2) (N := some 31) (v := ?_) (a' := ?_) #[true, true, true, false, false, false, false, false, false, false, false, false, false, false] rfl rfl (by kernel_rfl) (fun _ _ _ h => h) (Or.inl ⟨by rfl, ?_⟩) ?_ ?_
              rotate_left
              · intro w'
                go_simp
                with_reducible rfl
              rotate_left
              · simp only [Act.put, List.setIfInBounds_toArray, List.set_cons_zero, List.set_cons_succ, i64_w, i32_w]
                rfl
              refine pure_ (i := 3) (N := some 32) (v := ?_) (a' := ?_) #[true, true, true, true, false, false, false, false, false, false, false, false, false, false] rfl rfl (by kernel_rfl) (fun _ _ _ h => h) (Or.inl ⟨by rfl, ?_⟩) ?_ ?_
              rotate_left
              · intro w'
                go_simp
                with_reducible rfl
              rotate_left
              · simp only [Act.put, List.setIfInBounds_toArray, List.set_cons_zero, List.set_cons_succ, i64_w, i32_w]
                rfl
              refine pure_ (i := 5) (N := some 34) (v := ?_) (a' := ?_) #[true, true, true, true, false, true, false, false, false, false, false, false, false, false] rfl rfl (by kernel_rfl) (fun _ _ _ h => h) (Or.inl ⟨by rfl, ?_⟩) ?_ ?_
              rotate_left
              · intro w'
                go_simp
                with_reducible rfl
              rotate_left
              · simp only [Act.put, List.setIfInBounds_toArray, List.set_cons_zero, List.set_cons_succ, i64_w, i32_w]
                rfl
              refine pure_ (i := 6) (N := some 35) (v := ?_) (a' := ?_) #[true, true, true, true, false, true, true, false, false, false, false, false, false, false] rfl rfl (by kernel_rfl) (fun _ _ _ h => h) (Or.inl ⟨by rfl, ?_⟩) ?_ ?_
              rotate_left
              · intro w'
                go_simp
                with_reducible rfl
              rotate_left
              · simp only [Act.put, List.setIfInBounds_toArray, List.set_cons_zero, List.set_cons_succ, i64_w, i32_w]
                rfl
              refine pure_ (i := 7) (N := some 36) (v := ?_) (a' := ?_) #[true, true, true, true, false, true, true, true, false, false, false, false, false, false] rfl rfl (by kernel_rfl) (fun _ _ _ h => h) (Or.inl ⟨by rfl, ?_⟩) ?_ ?_
              rotate_left
              · intro w'
                go_simp
                with_reducible rfl
              rotate_left
              · simp only [Act.put, List.setIfInBounds_toArray, List.set_cons_zero, List.set_cons_succ, i64_w, i32_w]
                rfl
              refine take_ (i := 4) (N := some 33) (v := ?_) (a' := ?_) #[true, true, true, true, true, true, true, true, false, false, false, false, false, false] rfl rfl (by kernel_rfl) (fun _ _ _ h => h) (Or.inl ⟨by rfl, ?_⟩) hHeld ?_ ?_
              rotate_left
              · rintro w' ⟨s0, s1, s2⟩
                go_simp
                with_reducible rfl
              rotate_left
              · simp only [Act.put, List.setIfInBounds_toArray, List.set_cons_zero, List.set_cons_succ, i64_w, i32_w]
                rfl
              refine take_ (i := 8) (N := some 37) (v := ?_) (a' := ?_) #[true, true, true, true, true, true, true, true, true, false, false, false, false, false] rfl rfl (by kernel_rfl) (fun _ _ _ h => h) (Or.inl ⟨by rfl, ?_⟩) hHeld ?_ ?_
              rotate_left
              · rintro w' ⟨s0, s1, s2⟩
                go_simp
                with_reducible rfl
              rotate_left
              · simp only [Act.put, List.setIfInBounds_toArray, List.set_cons_zero, List.set_cons_succ, i64_w, i32_w]
                rfl
              refine one_ (i := 9) (N := some 38) #[true, true, true, true, true, true, true, true, true, true, false, false, false, false] rfl rfl (by kernel_rfl) (by decide) (fun K hK => ?_)
              refine value_ (w1 := ?_) (v := ?_) (by rfl) rfl ?_ ?_
              rotate_left 2
              · go_simp
                constructor
                · rfl
                · rfl
              refine hK.out _ _ ⟨(diff_walk.cell_alloc hs0 _), (diff_walk.cell_alloc hs1 _), (diff_walk.cell_alloc hs2 _)⟩ (fun hHeld => ?_)
              clear hK K
              refine norm_ (a' := ?_) ?_ ?_
              rotate_left
              · show Act.put _ (some 38) _ = _
                simp only [Act.put, List.setIfInBounds_toArray, List.set_cons_zero, List.set_cons_succ, i64_w, i32_w]
                rfl
              refine last_ (i := 10) (N := some 39) #[true, true, true, true, true, true, true, true, true, true, true, false, false, false] rfl rfl (by kernel_rfl) (by decide) (fun K hK => ?_)
              refine Kd.R_append_step Kd.string (w0 := W1) W1.heap.size rfl (.tmp 33) (.tmp 38) 22 9 (.string ⟨#[]⟩) 16 rfl Try.underlying22 diff_walk.infoS rfl (by decide) (by decide) aa (hl.f2) (diff_walk.at_ l1 kk) [.string (diff_walk.at_ l1 kk)] okk (fun _ => False) rfl rfl rfl (fun _ hk => hk.elim) hfr HR0 HBn.out hbn hln ?_
              intro a1 w3 ho3 hb3 hg3 hat3
              obtain ⟨q0, qf, ⟨cz, q66⟩, qk, hO3⟩ := hput w3 a1 _ hg3 ho3
              have k0' := qk _ _ _ (by decide) k0
              have k1' := qk _ _ _ (by decide) k1_
              have k2' := qk _ _ _ (by decide) k2
              obtain ⟨A3, c3, rfl⟩ := Kd.R_slice ho3
              have HH3 := Lib.hid (And.intro hO3 (And.intro hb3 q66))
              clear ho3 hb3 hg3 hat3 hO3 qk q66
              refine hK.out _ _ ?_
              clear hK K
              refine norm_ (a' := ?_) ?_ ?_
              rotate_left
              · show Act.put _ (some 39) _ = _
                simp only [Act.put, List.setIfInBounds_toArray, List.set_cons_zero, List.set_cons_succ, i64_w, i32_w]
                rfl
              refine pure_ (i := 11) (N := some 40) (v := ?_) (a' := ?_) #[true, true, true, true, true, true, true, true, true, true, true, true, false, false] rfl rfl (by kernel_rfl) (fun _ _ _ h => h) (Or.inl ⟨by rfl, ?_⟩) ?_ ?_
              rotate_left
              · intro w'
                go_simp
                with_reducible rfl
              rotate_left
              · simp only [Act.put, List.setIfInBounds_toArray, List.set_cons_zero, List.set_cons_succ, i64_w, i32_w]
                rfl
              refine pure_ (i := 12) (N := some 41) (v := ?_) (a' := ?_) #[true, true, true, true, true, true, true, true, true, true, true, true, true, false] rfl rfl (by kernel_rfl) (fun _ _ _ h => h) (Or.inl ⟨by rfl, ?_⟩) ?_ ?_
              rotate_left
              · intro w'
                go_simp
                with_reducible rfl
              rotate_left
              · simp only [Act.put, List.setIfInBounds_toArray, List.set_cons_zero, List.set_cons_succ, i64_w, i32_w]
                rfl
              refine last_ (i := 13) (N := none) #[true, true, true, true, true, true, true, true, true, true, true, true, true, true] rfl rfl (by kernel_rfl) (by decide) (fun K hK => ?_)
              refine skip_ (w1 := ?_) (by rfl) rfl ?_ ?_
              rotate_left
              · go_simp
                rfl
              refine hK.out _ _ ?_
              clear hK K
              refine done_ (by kernel_rfl) ?_

              have HI4 : diff_walk.Inv W1 true i (diff_walk.addNew xs (diff_walk.at_ l1 kk)) (w3.setCell ⟨g, jj * 3 + 2, none⟩ (.slice A3 (hl.f2.length + 1) c3)) := by
                    have hO3 := HH3.out.1
                    simp only [List.length_append, List.length_singleton] at hO3
                    rw [HL.out, HJ.out] at hO3
                    rw [HL.out, HJ.out]
                    exact diff_walk.inv_put hO3 HH3.out.2.1 hgW k0' k1' k2' (fun b t cells ht hb => blk_ne hb HH3.out.2.2 ht)
              have HI5 := Lib.hid HI4
              obtain ⟨vo', hi0, hi1, hi2, hi3, hi4⟩ := HI4
              have hy2 := (blk_cell hi2 0).trans rfl
              have hyf := blk_frozen hi2 0
              clear hi0 hi1 hi2 hi3 hi4 k0' k1' k2'
              generalize w3.setCell ⟨g, jj * 3 + 2, none⟩ (.slice A3 (hl.f2.length + 1) c3) = w4 at HI5 hy2 hyf ⊢
              go_wp2_with fail
              go_roundg k1
              case measure => have := HK1.out; omega
              case rel =>
                exact ⟨true, i, kk + 1, _, by simp [hwk], ⟨G⟩, ⟨by have := HK1.out; omega⟩, ⟨HI5.out⟩⟩
            case pos =>
              obtain ⟨ad0, e0, hwa⟩ := Kd.at_string H.out.1 (i : Int) (by omega) (by omega)
              subst e0
              simp only [Int.toNat_natCast] at hwa
              have hxa := (hBw.cell (World.block_lt_of_cell? w _ hwa)).trans hwa
              have hxb := (hBw.cell (World.block_lt_of_cell? w _ hwb)).trans hwb
              have hA1 : (i : Int) < (l0.length : Int) := by omega
              have hA2 := decide_eq_true hA1
              have hE : ¬ (diff_walk.at_ l0 i).toList = (diff_walk.at_ l1 kk).toList := fun e => hno ⟨hA, hB, e⟩
              have hE2 : ((rdOf ByteArray.empty l0 (i : Int)).toList == (rdOf ByteArray.empty l1 (kk : Int)).toList) = false := beq_eq_false_iff_ne.mpr hE
              have hbd : i + 1 < t.length ∧ kk < (diff_walk.row t ((i : Int) + 1)).length ∧ kk + 1 < (diff_walk.row t (i : Int)).length := by
                rcases Decidable.em (i + 1 < t.length ∧ kk < (diff_walk.row t ((i : Int) + 1)).length ∧ kk + 1 < (diff_walk.row t (i : Int)).length) with h | h
                · exact h
                · exact absurd ⟨hB, hA, h⟩ hin
              obtain ⟨hb1, hb2, hb3⟩ := hbd
              obtain ⟨adt, A2, c2, et, hx3, hl2, hC2⟩ := diff_walk.at_row HX.out.1 ((i : Int) + 1) (by omega) (by omega)
              obtain ⟨adt', A3, c3, et', hx4, hl3, hC3⟩ := diff_walk.at_row HX.out.1 (i : Int) (by omega) (by omega)
              obtain rfl : adt = adt' := Option.some.inj (et.symm.trans et')
              obtain ⟨ad2, e2, hx5⟩ := Kd.at_int hC2 (kk : Int) (by omega) (by omega)
              obtain ⟨ad3, e3, hx6⟩ := Kd.at_int hC3 ((kk : Int) + 1) (by omega) (by omega)
              subst et e2 e3
              have hBt := HI2.out.2.2.2.2
              replace hx3 := (hBt.cell (World.block_lt_of_cell? W1 _ hx3)).trans hx3
              replace hx4 := (hBt.cell (World.block_lt_of_cell? W1 _ hx4)).trans hx4
              replace hx5 := (hBt.cell (World.block_lt_of_cell? W1 _ hx5)).trans hx5
              replace hx6 := (hBt.cell (World.block_lt_of_cell? W1 _ hx6)).trans hx6
              have hti : ((i : Int) + 1).toNat = i + 1 := by omega
              have htk : ((kk : Int) + 1).toNat = kk + 1 := by omega
              rw [hti] at hx3
              rw [htk] at hx6
              simp only [Int.toNat_natCast] at hx4 hx5
              have hb1' : (i : Int) + 1 < (t.length : Int) := by omega
              have hb0' : (i : Int) < (t.length : Int) := by omega
              have hb2' : (kk : Int) < ((diff_walk.row t ((i : Int) + 1)).length : Int) := by omega
              have hb3' : (kk : Int) + 1 < ((diff_walk.row t (i : Int)).length : Int) := by omega
              have hwi2 : IntKind.i64.wrap ((i : Int) + 1) = (i : Int) + 1 := (i64_w _).trans hwi
              have hwk2 : IntKind.i64.wrap ((kk : Int) + 1) = (kk : Int) + 1 := (i64_w _).trans hwk
              have hp1' : 0 ≤ (i : Int) + 1 := by omega
              have hp3' : 0 ≤ (kk : Int) + 1 := by omega
              rw [← hti] at hx3
              rw [← htk] at hx6
              unfold diff_walk.ge at G
              clear hti htk
              generalize hji : (i : Int) + 1 = ji at hb1' hp1' hx3 hx5 hl2 hb2' G
              generalize hjk : (kk : Int) + 1 = jk at hb3' hp3' hx6 G
              replace hwi := hwi.trans hji
              replace hwi2 := hwi2.trans hji
              replace hwk := hwk.trans hjk
              replace hwk2 := hwk2.trans hjk
              have HJi := Aside0.mk hji.symm
              have HJk := Aside0.mk hjk.symm
              clear hji hjk hb1 hb2 hb3 hl2 hl3
              have hp1 := eq_true hp1'
              have hp3 := eq_true hp3'
              have hA3 := decide_eq_true hA
              have hB6 := decide_eq_true hB
              have hB7 : (kk == l1.length) = false := beq_eq_false_iff_ne.mpr (by omega)
              have hB8 : decide (kk = l1.length) = false := decide_eq_false (by omega)
              have hkn : ¬ kk = l1.length := by omega
              have et' : True := trivial
              clear hno hin hBt hC2 hC3 hE
              split at G
              case isTrue =>
                rename_i hold
                have hge := (hold.resolve_left hkn).2
                clear hold hkn
                go_wp2_with fail
                go_quiet (fail)
                go_wp2_with fail
                go_quiet (fail)
                go_wp2_with (go_at_call 78; refine (diff_walk.hunk (W1 := W1) (op := op) (i := i) (xs := out) (by (repeat apply diff_walk.inv_drewN); exact ⟨vo, HI2.out⟩) HG.out.1 HG.out.2.1).mono ?_; rintro e w2 ⟨g, cap, rfl, k0, k1_, k2, HO, HB2⟩; have K2 := Lib.hid (And.intro k0 (And.intro k1_ (And.intro k2 (And.intro HO HB2)))); clear k0 k1_ k2 HO HB2)
                have hxs : 0 < (diff_walk.open_ out op i).length := diff_walk.open_pos HG.out.2.1 i
                have hxl := diff_walk.open_len HG.out.2.2.1 op i
                generalize diff_walk.open_ out op i = xs at K2 hxs hxl G ⊢
                obtain ⟨k0, k1_, k2, HO, HB2⟩ := K2.out
                obtain ⟨jj, hjj⟩ : ∃ jj, jj = xs.length - 1 := ⟨_, rfl⟩
                rw [← hjj]
                have hjl : jj < xs.length := by omega
                have HJ := Aside0.mk hjj
                clear hjj
                obtain ⟨hl, hhl⟩ : ∃ hl, hl = xs.getD jj z66 := ⟨_, rfl⟩
                have HL := Aside0.mk hhl
                have hh : xs[jj]? = some hl := by rw [hhl, List.getD_eq_getElem?_getD, List.getElem?_eq_getElem hjl]; rfl
                have HOd : diff_walk.DW.OutH w2.drew W1.heap.size (.slice (some ⟨g, 0, none⟩) xs.length cap) xs := diff_walk.DW.outH_below HO (below_drew (Below.refl _ _))
                clear hhl
                obtain ⟨aa, okk, hs0, HR0, hfr, hput⟩ := diff_walk.DW.outH_side 0 (by decide) HOd jj hjl hl hh
                rw [if_pos rfl] at HR0
                simp only [if_pos, Nat.zero_add] at hput hs0
                have hs1 : w2.drew.cell? ⟨W1.heap.size + 1 + 1, 0, none⟩ = some (.int .i64 (i : Int)) := (blk_cell (w := w2.drew) (blk_drew k2) 0).trans rfl
                have hs2 : w2.drew.cell? (ad0.add i) = some (.string (diff_walk.at_ l0 i)) := ((below_step HX.out.2 HB2).cell (World.block_lt_of_cell? w _ hwa)).trans hwa
                have HBn := Aside0.mk (below_drew1 HB2)
                have hbn : W1.heap.size ≤ w2.drew.heap.size := HB2.size
                have hln : (hl.f1.length + 1) * 16 ≤ 140737488355328 := by have := (hxl hl (List.mem_of_getElem? hh)).1; omega
                replace k0 := blk_drew k0
                replace k1_ := blk_drew k1_
                replace k2 := blk_drew k2
                have hgW : W1.heap.size ≤ g := diff_walk.DW.outH_base HO
                clear HO HB2 HOd hll hcont K2 hxl hxs
                refine start_ (n := 14) (S := fun w' => w'.cell? ⟨g, jj * 3 + 1, none⟩ = some aa ∧ w'.cell? ⟨W1.heap.size + 1 + 1, 0, none⟩ = some (.int .i64 (i : Int)) ∧ w'.cell? (ad0.add i) = some (.string (diff_walk.at_ l0 i))) (ds := [10, 13]) #[false, false, false, false, false, false, false, false, false, false, false, false, false, false] (by kernel_rfl) rfl rfl ⟨hs0, hs1, hs2⟩ (fun hHeld => ?_)
                generalize w2.drew = wD at hs0 hs1 hs2 HR0 hfr hput HBn hbn k0 k1_ k2 hHeld ⊢
                refine pure_ (i := 0) (N := some 102) (v := ?_) (a' := ?_) #[true, false, false, false, false, false, false, false, false, false, false, false, false, false] rfl rfl (by kernel_rfl) (fun _ _ _ h => h) (Or.inl ⟨by rfl, ?_⟩) ?_ ?_
                rotate_left
                · intro w'
                  go_simp
                  with_reducible rfl
                rotate_left
                · simp only [Act.put, List.setIfInBounds_toArray, List.set_cons_zero, List.set_cons_succ, i64_w, i32_w]
                  rfl
                refine pure_ (i := 1) (N := some 103) (v := ?_) (a' := ?_) #[true, true, false, false, false, false, false, false, false, false, false, false, false, false] rfl rfl (by kernel_rfl) (fun _ _ _ h => h) (Or.inl ⟨by rfl, ?_⟩) ?_ ?_
                rotate_left
                · intro w'
                  go_simp
                  with_reducible rfl
                rotate_left
                · simp only [Act.put, List.setIfInBounds_toArray, List.set_cons_zero, List.set_cons_succ, i64_w, i32_w]
                  rfl
                refine pure_ (i := 2) (N := some 104) (v := ?_) (a' := ?_) #[true, true, true, false, false, false, false, false, false, false, false, false, false, false] rfl rfl (by kernel_rfl) (fun _ _ _ h => h) (Or.inl ⟨by rfl, ?_⟩) ?_ ?_
                rotate_left
                · intro w'
                  go_simp
                  with_reducible rfl
                rotate_left
                · simp only [Act.put, List.setIfInBounds_toArray, List.set_cons_zero, List.set_cons_succ, i64_w, i32_w]
                  rfl
                refine pure_ (i := 3) (N := some 105) (v := ?_) (a' := ?_) #[true, true, true, true, false, false, false, false, false, false, false, false, false, false] rfl rfl (by kernel_rfl) (fun _ _ _ h => h) (Or.inl ⟨by rfl, ?_⟩) ?_ ?_
                rotate_left
                · intro w'
                  go_simp
                  with_reducible rfl
                rotate_left
                · simp only [Act.put, List.setIfInBounds_toArray, List.set_cons_zero, List.set_cons_succ, i64_w, i32_w]
                  rfl
                refine pure_ (i := 5) (N := some 107) (v := ?_) (a' := ?_) #[true, true, true, true, false, true, false, false, false, false, false, false, false, false] rfl rfl (by kernel_rfl) (fun _ _ _ h => h) (Or.inl ⟨by rfl, ?_⟩) ?_ ?_
                rotate_left
                · intro w'
                  go_simp
                  with_reducible rfl
                rotate_left
                · simp only [Act.put, List.setIfInBounds_toArray, List.set_cons_zero, List.set_cons_succ, i64_w, i32_w]
                  rfl
                refine take_ (i := 4) (N := some 106) (v := ?_) (a' := ?_) #[true, true, true, true, true, true, false, false, false, false, false, false, false, false] rfl rfl (by kernel_rfl) (fun _ _ _ h => h) (Or.inl ⟨by rfl, ?_⟩) hHeld ?_ ?_
                rotate_left
                · rintro w' ⟨s0, s1, s2⟩
                  go_simp
                  with_reducible rfl
                rotate_left
                · simp only [Act.put, List.setIfInBounds_toArray, List.set_cons_zero, List.set_cons_succ, i64_w, i32_w]
                  rfl
                refine take_ (i := 6) (N := some 108) (v := ?_) (a' := ?_) #[true, true, true, true, true, true, true, false, false, false, false, false, false, false] rfl rfl (by kernel_rfl) (fun _ _ _ h => h) (Or.inl ⟨by rfl, ?_⟩) hHeld ?_ ?_
                rotate_left
                · rintro w' ⟨s0, s1, s2⟩
                  go_simp
                  with_reducible rfl
                rotate_left
                · simp only [Act.put, List.setIfInBounds_toArray, List.set_cons_zero, List.set_cons_succ, i64_w, i32_w]
                  rfl
                refine pure_ (i := 7) (N := some 109) (v := ?_) (a' := ?_) #[true, true, true, true, true, true, true, true, false, false, false, false, false, false] rfl rfl (by kernel_rfl) (fun _ _ _ h => h) (Or.inl ⟨by rfl, ?_⟩) ?_ ?_
                rotate_left
                · intro w'
                  go_simp
                  with_reducible rfl
                rotate_left
                · simp only [Act.put, List.setIfInBounds_toArray, List.set_cons_zero, List.set_cons_succ, i64_w, i32_w]
                  rfl
                refine take_ (i := 8) (N := some 110) (v := ?_) (a' := ?_) #[true, true, true, true, true, true, true, true, true, false, false, false, false, false] rfl rfl (by kernel_rfl) (fun _ _ _ h => h) (Or.inl ⟨by rfl, ?_⟩) hHeld ?_ ?_
                rotate_left
                · rintro w' ⟨s0, s1, s2⟩
                  go_simp
                  with_reducible rfl
                rotate_left
                · simp only [Act.put, List.setIfInBounds_toArray, List.set_cons_zero, List.set_cons_succ, i64_w, i32_w]
                  rfl
                refine one_ (i := 9) (N := some 111) #[true, true, true, true, true, true, true, true, true, true, false, false, false, false] rfl rfl (by kernel_rfl) (by decide) (fun K hK => ?_)
                refine value_ (w1 := ?_) (v := ?_) (by rfl) rfl ?_ ?_
                rotate_left 2
                · go_simp
                  constructor
                  · rfl
                  · rfl
                refine hK.out _ _ ⟨(diff_walk.cell_alloc hs0 _), (diff_walk.cell_alloc hs1 _), (diff_walk.cell_alloc hs2 _)⟩ (fun hHeld => ?_)
                clear hK K
                refine norm_ (a' := ?_) ?_ ?_
                rotate_left
                · show Act.put _ (some 111) _ = _
                  simp only [Act.put, List.setIfInBounds_toArray, List.set_cons_zero, List.set_cons_succ, i64_w, i32_w]
                  rfl
                refine last_ (i := 10) (N := some 112) #[true, true, true, true, true, true, true, true, true, true, true, false, false, false] rfl rfl (by kernel_rfl) (by decide) (fun K hK => ?_)
                refine Kd.R_append_step Kd.string (w0 := W1) W1.heap.size rfl (.tmp 106) (.tmp 111) 22 9 (.string ⟨#[]⟩) 16 rfl Try.underlying22 diff_walk.infoS rfl (by decide) (by decide) aa (hl.f1) (diff_walk.at_ l0 i) [.string (diff_walk.at_ l0 i)] okk (fun _ => False) rfl rfl rfl (fun _ hk => hk.elim) hfr HR0 HBn.out hbn hln ?_
                intro a1 w3 ho3 hb3 hg3 hat3
                obtain ⟨q0, qf, ⟨cz, q66⟩, qk, hO3⟩ := hput w3 a1 _ hg3 ho3
                have k0' := qk _ _ _ (by decide) k0
                have k1' := qk _ _ _ (by decide) k1_
                have k2' := qk _ _ _ (by decide) k2
                obtain ⟨A3, c3, rfl⟩ := Kd.R_slice ho3
                have HH3 := Lib.hid (And.intro hO3 (And.intro hb3 q66))
                clear ho3 hb3 hg3 hat3 hO3 qk q66
                refine hK.out _ _ ?_
                clear hK K
                refine norm_ (a' := ?_) ?_ ?_
                rotate_left
                · show Act.put _ (some 112) _ = _
                  simp only [Act.put, List.setIfInBounds_toArray, List.set_cons_zero, List.set_cons_succ, i64_w, i32_w]
                  rfl
                refine pure_ (i := 11) (N := some 113) (v := ?_) (a' := ?_) #[true, true, true, true, true, true, true, true, true, true, true, true, false, false] rfl rfl (by kernel_rfl) (fun _ _ _ h => h) (Or.inl ⟨by rfl, ?_⟩) ?_ ?_
                rotate_left
                · intro w'
                  go_simp
                  with_reducible rfl
                rotate_left
                · simp only [Act.put, List.setIfInBounds_toArray, List.set_cons_zero, List.set_cons_succ, i64_w, i32_w]
                  rfl
                refine pure_ (i := 12) (N := some 114) (v := ?_) (a' := ?_) #[true, true, true, true, true, true, true, true, true, true, true, true, true, false] rfl rfl (by kernel_rfl) (fun _ _ _ h => h) (Or.inl ⟨by rfl, ?_⟩) ?_ ?_
                rotate_left
                · intro w'
                  go_simp
                  with_reducible rfl
                rotate_left
                · simp only [Act.put, List.setIfInBounds_toArray, List.set_cons_zero, List.set_cons_succ, i64_w, i32_w]
                  rfl
                refine last_ (i := 13) (N := none) #[true, true, true, true, true, true, true, true, true, true, true, true, true, true] rfl rfl (by kernel_rfl) (by decide) (fun K hK => ?_)
                refine skip_ (w1 := ?_) (by rfl) rfl ?_ ?_
                rotate_left
                · go_simp
                  rfl
                refine hK.out _ _ ?_
                clear hK K
                refine done_ (by kernel_rfl) ?_

                have HI4 : diff_walk.Inv W1 true i (diff_walk.addOld xs (diff_walk.at_ l0 i)) (w3.setCell ⟨g, jj * 3 + 1, none⟩ (.slice A3 (hl.f1.length + 1) c3)) := by
                    have hO3 := HH3.out.1
                    simp only [List.length_append, List.length_singleton] at hO3
                    rw [HL.out, HJ.out] at hO3
                    rw [HL.out, HJ.out]
                    exact diff_walk.inv_put hO3 HH3.out.2.1 hgW k0' k1' k2' (fun b t cells ht hb => blk_ne hb HH3.out.2.2 ht)
                have HI5 := Lib.hid HI4
                obtain ⟨vo', hi0, hi1, hi2, hi3, hi4⟩ := HI4
                have hy2 := (blk_cell hi2 0).trans rfl
                have hyf := blk_frozen hi2 0
                clear hi0 hi1 hi2 hi3 hi4 k0' k1' k2'
                generalize w3.setCell ⟨g, jj * 3 + 1, none⟩ (.slice A3 (hl.f1.length + 1) c3) = w4 at HI5 hy2 hyf ⊢
                go_wp2_with fail
                go_roundg k1
                case measure => have := HK1.out; omega
                case rel =>
                  have ei_ := HJi.out
                  have ek_ := HJk.out
                  subst ei_ ek_
                  exact ⟨true, i + 1, kk, _, by simp, ⟨G⟩, ⟨by have := HK1.out; omega⟩, ⟨by simpa using diff_walk.inv_i HI5.out (i + 1)⟩⟩
              case isFalse =>
                rename_i hnew
                have hge : decide (rd (diff_walk.row t ji) (kk : Int) ≥ rd (diff_walk.row t (i : Int)) jk) = false := by
                  rcases hq : decide (rd (diff_walk.row t ji) (kk : Int) ≥ rd (diff_walk.row t (i : Int)) jk) with _ | _
                  · rfl
                  · exact absurd (Or.inr ⟨hA, hq⟩) hnew
                clear hnew hkn
                go_wp2_with fail
                go_quiet (fail)
                go_wp2_with fail
                go_quiet (fail)
                go_wp2_with (go_at_call 78; refine (diff_walk.hunk (W1 := W1) (op := op) (i := i) (xs := out) (by (repeat apply diff_walk.inv_drewN); exact ⟨vo, HI2.out⟩) HG.out.1 HG.out.2.1).mono ?_; rintro e w2 ⟨g, cap, rfl, k0, k1_, k2, HO, HB2⟩; have K2 := Lib.hid (And.intro k0 (And.intro k1_ (And.intro k2 (And.intro HO HB2)))); clear k0 k1_ k2 HO HB2)
                have hxs : 0 < (diff_walk.open_ out op i).length := diff_walk.open_pos HG.out.2.1 i
                have hxl := diff_walk.open_len HG.out.2.2.1 op i
                generalize diff_walk.open_ out op i = xs at K2 hxs hxl G ⊢
                obtain ⟨k0, k1_, k2, HO, HB2⟩ := K2.out
                obtain ⟨jj, hjj⟩ : ∃ jj, jj = xs.length - 1 := ⟨_, rfl⟩
                rw [← hjj]
                have hjl : jj < xs.length := by omega
                have HJ := Aside0.mk hjj
                clear hjj
                obtain ⟨hl, hhl⟩ : ∃ hl, hl = xs.getD jj z66 := ⟨_, rfl⟩
                have HL := Aside0.mk hhl
                have hh : xs[jj]? = some hl := by rw [hhl, List.getD_eq_getElem?_getD, List.getElem?_eq_getElem hjl]; rfl
                have HOd : diff_walk.DW.OutH w2.drew W1.heap.size (.slice (some ⟨g, 0, none⟩) xs.length cap) xs := diff_walk.DW.outH_below HO (below_drew (Below.refl _ _))
                clear hhl
                obtain ⟨aa, okk, hs0, HR0, hfr, hput⟩ := diff_walk.DW.outH_side 1 (by decide) HOd jj hjl hl hh
                rw [if_neg (by decide)] at HR0
                simp only [Nat.reduceAdd, Nat.one_ne_zero, if_false] at hput hs0
                have hs1 : w2.drew.cell? ⟨W1.heap.size + 1 + 1, 0, none⟩ = some (.int .i64 (i : Int)) := (blk_cell (w := w2.drew) (blk_drew k2) 0).trans rfl
                have hs2 : w2.drew.cell? (ad1.add kk) = some (.string (diff_walk.at_ l1 kk)) := ((below_step HX.out.2 HB2).cell (World.block_lt_of_cell? w _ hwb)).trans hwb
                have HBn := Aside0.mk (below_drew1 HB2)
                have hbn : W1.heap.size ≤ w2.drew.heap.size := HB2.size
                have hln : (hl.f2.length + 1) * 16 ≤ 140737488355328 := by have := (hxl hl (List.mem_of_getElem? hh)).2; omega
                replace k0 := blk_drew k0
                replace k1_ := blk_drew k1_
                replace k2 := blk_drew k2
                have hgW : W1.heap.size ≤ g := diff_walk.DW.outH_base HO
                clear HO HB2 HOd hll hcont K2 hxl hxs
                refine start_ (n := 14) (S := fun w' => w'.cell? ⟨g, jj * 3 + 2, none⟩ = some aa ∧ w'.cell? ⟨W1.heap.size + 1 + 1, 0, none⟩ = some (.int .i64 (i : Int)) ∧ w'.cell? (ad1.add kk) = some (.string (diff_walk.at_ l1 kk))) (ds := [10, 13]) #[false, false, false, false, false, false, false, false, false, false, false, false, false, false] (by kernel_rfl) rfl rfl ⟨hs0, hs1, hs2⟩ (fun hHeld => ?_)
                generalize w2.drew = wD at hs0 hs1 hs2 HR0 hfr hput HBn hbn k0 k1_ k2 hHeld ⊢
                refine pure_ (i := 0) (N := some 29) (v := ?_) (a' := ?_) #[true, false, false, false, false, false, false, false, false, false, false, false, false, false] rfl rfl (by kernel_rfl) (fun _ _ _ h => h) (Or.inl ⟨by rfl, ?_⟩) ?_ ?_
                rotate_left
                · intro w'
                  go_simp
                  with_reducible rfl
                rotate_left
                · simp only [Act.put, List.setIfInBounds_toArray, List.set_cons_zero, List.set_cons_succ, i64_w, i32_w]
                  rfl
                refine pure_ (i := 1) (N := some 30) (v := ?_) (a' := ?_) #[true, true, false, false, false, false, false, false, false, false, false, false, false, false] rfl rfl (by kernel_rfl) (fun _ _ _ h => h) (Or.inl ⟨by rfl, ?_⟩) ?_ ?_
                rotate_left
                · intro w'
                  go_simp
                  with_reducible rfl
                rotate_left
                · simp only [Act.put, List.setIfInBounds_toArray, List.set_cons_zero, List.set_cons_succ, i64_w, i32_w]
                  rfl
                refine pure_ (i := 2) (N := some 31) (v := ?_) (a' := ?_) #[true, true, true, false, false, false, false, false, false, false, false, false, false, false] rfl rfl (by kernel_rfl) (fun _ _ _ h => h) (Or.inl ⟨by rfl, ?_⟩) ?_ ?_
                rotate_left
                · intro w'
                  go_simp
                  with_reducible rfl
                rotate_left
                · simp only [Act.put, List.setIfInBounds_toArray, List.set_cons_zero, List.set_cons_succ, i64_w, i32_w]
                  rfl
                refine pure_ (i := 3) (N := some 32) (v := ?_) (a' := ?_) #[true, true, true, true, false, false, false, false, false, false, false, false, false, false] rfl rfl (by kernel_rfl) (fun _ _ _ h => h) (Or.inl ⟨by rfl, ?_⟩) ?_ ?_
                rotate_left
                · intro w'
                  go_simp
                  with_reducible rfl
                rotate_left
                · simp only [Act.put, List.setIfInBounds_toArray, List.set_cons_zero, List.set_cons_succ, i64_w, i32_w]
                  rfl
                refine pure_ (i := 5) (N := some 34) (v := ?_) (a' := ?_) #[true, true, true, true, false, true, false, false, false, false, false, false, false, false] rfl rfl (by kernel_rfl) (fun _ _ _ h => h) (Or.inl ⟨by rfl, ?_⟩) ?_ ?_
                rotate_left
                · intro w'
                  go_simp
                  with_reducible rfl
                rotate_left
                · simp only [Act.put, List.setIfInBounds_toArray, List.set_cons_zero, List.set_cons_succ, i64_w, i32_w]
                  rfl
                refine pure_ (i := 6) (N := some 35) (v := ?_) (a' := ?_) #[true, true, true, true, false, true, true, false, false, false, false, false, false, false] rfl rfl (by kernel_rfl) (fun _ _ _ h => h) (Or.inl ⟨by rfl, ?_⟩) ?_ ?_
                rotate_left
                · intro w'
                  go_simp
                  with_reducible rfl
                rotate_left
                · simp only [Act.put, List.setIfInBounds_toArray, List.set_cons_zero, List.set_cons_succ, i64_w, i32_w]
                  rfl
                refine pure_ (i := 7) (N := some 36) (v := ?_) (a' := ?_) #[true, true, true, true, false, true, true, true, false, false, false, false, false, false] rfl rfl (by kernel_rfl) (fun _ _ _ h => h) (Or.inl ⟨by rfl, ?_⟩) ?_ ?_
                rotate_left
                · intro w'
                  go_simp
                  with_reducible rfl
                rotate_left
                · simp only [Act.put, List.setIfInBounds_toArray, List.set_cons_zero, List.set_cons_succ, i64_w, i32_w]
                  rfl
                refine take_ (i := 4) (N := some 33) (v := ?_) (a' := ?_) #[true, true, true, true, true, true, true, true, false, false, false, false, false, false] rfl rfl (by kernel_rfl) (fun _ _ _ h => h) (Or.inl ⟨by rfl, ?_⟩) hHeld ?_ ?_
                rotate_left
                · rintro w' ⟨s0, s1, s2⟩
                  go_simp
                  with_reducible rfl
                rotate_left
                · simp only [Act.put, List.setIfInBounds_toArray, List.set_cons_zero, List.set_cons_succ, i64_w, i32_w]
                  rfl
                refine take_ (i := 8) (N := some 37) (v := ?_) (a' := ?_) #[true, true, true, true, true, true, true, true, true, false, false, false, false, false] rfl rfl (by kernel_rfl) (fun _ _ _ h => h) (Or.inl ⟨by rfl, ?_⟩) hHeld ?_ ?_
                rotate_left
                · rintro w' ⟨s0, s1, s2⟩
                  go_simp
                  with_reducible rfl
                rotate_left
                · simp only [Act.put, List.setIfInBounds_toArray, List.set_cons_zero, List.set_cons_succ, i64_w, i32_w]
                  rfl
                refine one_ (i := 9) (N := some 38) #[true, true, true, true, true, true, true, true, true, true, false, false, false, false] rfl rfl (by kernel_rfl) (by decide) (fun K hK => ?_)
                refine value_ (w1 := ?_) (v := ?_) (by rfl) rfl ?_ ?_
                rotate_left 2
                · go_simp
                  constructor
                  · rfl
                  · rfl
                refine hK.out _ _ ⟨(diff_walk.cell_alloc hs0 _), (diff_walk.cell_alloc hs1 _), (diff_walk.cell_alloc hs2 _)⟩ (fun hHeld => ?_)
                clear hK K
                refine norm_ (a' := ?_) ?_ ?_
                rotate_left
                · show Act.put _ (some 38) _ = _
                  simp only [Act.put, List.setIfInBounds_toArray, List.set_cons_zero, List.set_cons_succ, i64_w, i32_w]
                  rfl
                refine last_ (i := 10) (N := some 39) #[true, true, true, true, true, true, true, true, true, true, true, false, false, false] rfl rfl (by kernel_rfl) (by decide) (fun K hK => ?_)
                refine Kd.R_append_step Kd.string (w0 := W1) W1.heap.size rfl (.tmp 33) (.tmp 38) 22 9 (.string ⟨#[]⟩) 16 rfl Try.underlying22 diff_walk.infoS rfl (by decide) (by decide) aa (hl.f2) (diff_walk.at_ l1 kk) [.string (diff_walk.at_ l1 kk)] okk (fun _ => False) rfl rfl rfl (fun _ hk => hk.elim) hfr HR0 HBn.out hbn hln ?_
                intro a1 w3 ho3 hb3 hg3 hat3
                obtain ⟨q0, qf, ⟨cz, q66⟩, qk, hO3⟩ := hput w3 a1 _ hg3 ho3
                have k0' := qk _ _ _ (by decide) k0
                have k1' := qk _ _ _ (by decide) k1_
                have k2' := qk _ _ _ (by decide) k2
                obtain ⟨A3, c3, rfl⟩ := Kd.R_slice ho3
                have HH3 := Lib.hid (And.intro hO3 (And.intro hb3 q66))
                clear ho3 hb3 hg3 hat3 hO3 qk q66
                refine hK.out _ _ ?_
                clear hK K
                refine norm_ (a' := ?_) ?_ ?_
                rotate_left
                · show Act.put _ (some 39) _ = _
                  simp only [Act.put, List.setIfInBounds_toArray, List.set_cons_zero, List.set_cons_succ, i64_w, i32_w]
                  rfl
                refine pure_ (i := 11) (N := some 40) (v := ?_) (a' := ?_) #[true, true, true, true, true, true, true, true, true, true, true, true, false, false] rfl rfl (by kernel_rfl) (fun _ _ _ h => h) (Or.inl ⟨by rfl, ?_⟩) ?_ ?_
                rotate_left
                · intro w'
                  go_simp
                  with_reducible rfl
                rotate_left
                · simp only [Act.put, List.setIfInBounds_toArray, List.set_cons_zero, List.set_cons_succ, i64_w, i32_w]
                  rfl
                refine pure_ (i := 12) (N := some 41) (v := ?_) (a' := ?_) #[true, true, true, true, true, true, true, true, true, true, true, true, true, false] rfl rfl (by kernel_rfl) (fun _ _ _ h => h) (Or.inl ⟨by rfl, ?_⟩) ?_ ?_
                rotate_left
                · intro w'
                  go_simp
                  with_reducible rfl
                rotate_left
                · simp only [Act.put, List.setIfInBounds_toArray, List.set_cons_zero, List.set_cons_succ, i64_w, i32_w]
                  rfl
                refine last_ (i := 13) (N := none) #[true, true, true, true, true, true, true, true, true, true, true, true, true, true] rfl rfl (by kernel_rfl) (by decide) (fun K hK => ?_)
                refine skip_ (w1 := ?_) (by rfl) rfl ?_ ?_
                rotate_left
                · go_simp
                  rfl
                refine hK.out _ _ ?_
                clear hK K
                refine done_ (by kernel_rfl) ?_

                have HI4 : diff_walk.Inv W1 true i (diff_walk.addNew xs (diff_walk.at_ l1 kk)) (w3.setCell ⟨g, jj * 3 + 2, none⟩ (.slice A3 (hl.f2.length + 1) c3)) := by
                    have hO3 := HH3.out.1
                    simp only [List.length_append, List.length_singleton] at hO3
                    rw [HL.out, HJ.out] at hO3
                    rw [HL.out, HJ.out]
                    exact diff_walk.inv_put hO3 HH3.out.2.1 hgW k0' k1' k2' (fun b t cells ht hb => blk_ne hb HH3.out.2.2 ht)
                have HI5 := Lib.hid HI4
                obtain ⟨vo', hi0, hi1, hi2, hi3, hi4⟩ := HI4
                have hy2 := (blk_cell hi2 0).trans rfl
                have hyf := blk_frozen hi2 0
                clear hi0 hi1 hi2 hi3 hi4 k0' k1' k2'
                generalize w3.setCell ⟨g, jj * 3 + 2, none⟩ (.slice A3 (hl.f2.length + 1) c3) = w4 at HI5 hy2 hyf ⊢
                go_wp2_with fail
                go_roundg k1
                case measure => have := HK1.out; omega
                case rel =>
                  have ei_ := HJi.out
                  have ek_ := HJk.out
                  subst ei_ ek_
                  exact ⟨true, i, kk + 1, _, by simp, ⟨G⟩, ⟨by have := HK1.out; omega⟩, ⟨HI5.out⟩⟩

end Go.Proofs.Ytnegeacpfkcecaa.XDiff
