/- Calls that write variables of the caller's own keep the state. Each operation of the machine does what Go's does: all of them. Statements of the machine: one operation behind the other, in the text's order. Statements of the machine whose order is drawn: whatever order comes up, the end is the text's. Statements of the machine whose order is drawn: whatever order comes up, the end is the text's. The end of a function: what it hands back, in Go's memory. Where a run is cut the state is kept, with its rows numbered anew; and the end of a function. The machine's run of a function is Go's: what th -/
import Derived.Test.YtefhcmkiachphaaM1
import Derived.Laws.StructEq
section
/- Calls that write variables of the caller's own keep the state. -/
set_option linter.unusedVariables false
set_option linter.unusedSimpArgs false
namespace Go.Proofs.Ytefhcmkiachphaa.Ab
open Go Go.RowKit

section
variable {P : Program} {R : Type} {r : R} {E : Env}

theorem ioPos_spec : ∀ (ios : List (Nat × TypeId × Ty)) (i n k : Nat), ioPos ios i n = some k → n ≤ k ∧ ∃ x, ios[k - n]? = some x ∧ x.1 = i
  | [], _, _, _, h => by cases h
  | x :: r, i, n, k, h => by
    simp only [ioPos] at h
    cases hb : Nat.beq x.1 i with
    | true => rw [hb] at h; cases h; exact ⟨Nat.le_refl _, x, by simp, Nat.eq_of_beq_eq_true hb⟩
    | false =>
      rw [hb] at h
      obtain ⟨h1, y, h2, h3⟩ := ioPos_spec r i (n + 1) k h
      refine ⟨by omega, y, ?_, h3⟩
      rw [show k - n = (k - (n + 1)) + 1 by omega]
      simpa using h2

/-- What is known of one variable that is handed over. -/
def IoAt (m : Nat → Option Row) (args : List F) (y : Nat × A × List Nat) (x : Nat × TypeId × Ty) : Prop :=
  (arrT x.2.2 = none ∧ ∃ cs d, args[x.1]? = some (.a (.c (.pt (.own y.1 0 0)))) ∧ m y.1 = some (.box x.2.1 (some x.2.2) cs false) ∧ prj x.2.2 (cs.map (reC0 m)) = some d ∧ y.2.1 = inj x.2.2 d ∧ y.2.2 = owIds cs) ∨
  (∃ T l len, x.2.2 = .pair .unit (.sl T) ∧ args[x.1]? = some (.a (.c (.ow y.1 len))) ∧ m y.1 = some (.arr x.2.1 T l false) ∧ y.2.1 = .ag [.sl T l] ∧ y.2.2 = [])

theorem arrT_eq {T S : Ty} (h : arrT T = some S) : T = .pair .unit (.sl S) := by
  unfold arrT at h
  split at h
  · cases h; rfl
  · cases h
theorem ioRow_box {x : Nat × TypeId × Ty} (a : A) (h : arrT x.2.2 = none) : ioRow x a = .box x.2.1 (some x.2.2) a.cells false := by
  unfold ioRow; rw [h]
theorem ioRow_arr {x : Nat × TypeId × Ty} {a : A} {T : Ty} {xs : List T.den} (h : arrT x.2.2 = some T) (hp : prj (.sl T) a.cells = some xs) : ioRow x a = .arr x.2.1 T xs false := by
  unfold ioRow; rw [h]; simp only; rw [hp]
theorem prj_unit {T : Ty} {cs : List C} {d : (Ty.pair .unit (.sl T)).den} (h : prj (.pair .unit (.sl T)) cs = some d) : prj (.sl T) cs = some d.2 := by
  have key : ∀ o : Option ((Ty.sl T).den × List C), prjC (.sl T) cs = o → prjC (.pair .unit (.sl T)) cs = match o with
      | some (y, r') => some (((), y), r')
      | none => none := fun o ho => by
    subst ho
    simp only [prjC]
    cases cs with
    | nil => rfl
    | cons c r => cases c with
      | sl t' xs => by_cases h : t' = T <;> simp [h]
      | _ => rfl
  unfold prj at h ⊢
  cases ho : prjC (.sl T) cs with
  | none => rw [key _ ho] at h; cases h
  | some x =>
    obtain ⟨y, r⟩ := x
    rw [key _ ho] at h
    cases r with
    | nil => cases h; rfl
    | cons c r => cases h
theorem prj_ag {T : Ty} (l : List T.den) : prj (.sl T) (A.ag [.sl T l]).cells = some l := by
  simp [prj, prjC, A.cells, castL]
theorem ioRow_same {x : Nat × TypeId × Ty} {a : A} {T : Ty} {d : (Ty.pair .unit (.sl T)).den} (h : x.2.2 = .pair .unit (.sl T)) (hp : prj (.pair .unit (.sl T)) a.cells = some d) : ioRow x a = .arr x.2.1 T d.2 false :=
  ioRow_arr (by rw [h]; rfl) (prj_unit hp)
/-- Rows of a slice know no other rows. -/
theorem RowAt.data {w : World} {St St' Q Q' : Stb} {β β' : Bet} {loc : Loc} {e : TypeId} {T : Ty} {xs : List T.den} {n : Nat} {f : Bool} (h : RowAt w St Q β loc (.arr e T xs f) n) (hE : ∀ l d, RelT w St T l d → RelT w St' T l d) : RowAt w St' Q' β' loc (.arr e T xs f) n := by
  cases h with
  | nil _ _ _ cap h1 => exact .nil e T f cap h1
  | arr _ _ _ _ b cap cur h1 h2 h3 h4 h5 h6 => exact .arr e T xs f b cap cur h1 h2 h3 h4 h5 (fun i x hx => hE _ _ (h6 i x hx))

theorem ioOne_spec {m : Nat → Option Row} {args : List F} {x : Nat × TypeId × Ty} {y : Nat × A × List Nat} (h : ioOne m args x = some y) : IoAt m args y x := by
  unfold ioOne at h
  cases hA : arrT x.2.2 with
  | some T0 =>
    rw [hA] at h
    simp only [ioArr] at h
    refine .inr ?_
    have hx := arrT_eq hA
    split at h
    · rename_i id len harg
      split at h
      · rename_i e T' l hm
        cases hb : Nat.beq e x.2.1 with
        | false => rw [hb] at h; cases h
        | true =>
          rw [hb] at h
          simp only [cond_true] at h
          split at h
          · rename_i hT
            cases h
            have := Nat.eq_of_beq_eq_true hb
            subst hT; subst this
            exact ⟨_, l, len, hx, harg, hm, rfl, rfl⟩
          · cases h
      · cases h
    · cases h
  | none =>
  rw [hA] at h
  simp only at h
  refine .inl ⟨hA, ?_⟩
  split at h
  · rename_i id harg
    split at h
    · rename_i t T cs hm
      cases hb : Nat.beq t x.2.1 with
      | false => rw [hb] at h; cases h
      | true =>
        rw [hb] at h
        simp only [cond_true] at h
        split at h
        · rename_i hT
          split at h
          · rename_i d hd
            cases h
            have := Nat.eq_of_beq_eq_true hb
            subst hT; subst this
            exact ⟨cs, d, harg, hm, hd, rfl, rfl⟩
          · cases h
        · cases h
    · cases h
  · cases h

theorem ioAll_spec {m : Nat → Option Row} {args : List F} : ∀ (ios : List (Nat × TypeId × Ty)) (ys : List (Nat × A × List Nat)), ioAll m args ios = some ys → All2 (IoAt m args) ys ios
  | [], ys, h => by simp only [ioAll, Option.some.injEq] at h; subst h; trivial
  | x :: r, ys, h => by
    simp only [ioAll] at h
    split at h
    · rename_i y hy
      split at h
      · rename_i ys' hys
        cases h
        exact ⟨ioOne_spec hy, ioAll_spec r ys' hys⟩
      · cases h
    · cases h

theorem All2.get' {α β : Type} {R : α → β → Prop} : ∀ (l : List α) (m : List β), All2 R l m → ∀ (i : Nat) a, l[i]? = some a → ∃ b, m[i]? = some b ∧ R a b
  | a :: l, b :: m, ⟨h1, h2⟩, 0, a', h => by simp at h; subst h; exact ⟨b, rfl, h1⟩
  | a :: l, b :: m, ⟨h1, h2⟩, i + 1, a', h => by simpa using All2.get' l m h2 i a' (by simpa using h)
  | [], [], _, _, _, h => by simp at h
  | [], _ :: _, h, _, _, _ => h.elim
  | _ :: _, [], h, _, _, _ => h.elim

theorem ioM_spec : ∀ (ios : List (Nat × TypeId × Ty)) (as_ : List A) (k : Nat) (r : Row), ioM ios as_ k = some r → ∃ x a, ios[k]? = some x ∧ as_[k]? = some a ∧ r = ioRow x a
  | x :: xs, a :: as_, 0, r, h => by simp only [ioM, Option.some.injEq] at h; exact ⟨x, a, rfl, rfl, h.symm⟩
  | x :: xs, a :: as_, k + 1, r, h => by
    simp only [ioM] at h
    obtain ⟨x', a', h1, h2, h3⟩ := ioM_spec xs as_ k r h
    exact ⟨x', a', by simpa using h1, by simpa using h2, h3⟩
  | [], [], _, _, h => by cases h
  | [], _ :: _, _, _, h => by cases h
  | _ :: _, [], _, _, h => by cases h

theorem ioM_get : ∀ (ios : List (Nat × TypeId × Ty)) (as_ : List A) (k : Nat) x a, ios[k]? = some x → as_[k]? = some a → ioM ios as_ k = some (ioRow x a)
  | x :: xs, a :: as_, 0, x', a', h, h' => by simp at h h'; subst h; subst h'; rfl
  | x :: xs, a :: as_, k + 1, x', a', h, h' => by simp only [ioM]; exact ioM_get xs as_ k x' a' (by simpa using h) (by simpa using h')
  | [], _, _, _, _, h, _ => by simp at h
  | _ :: _, [], _, _, _, _, h => by simp at h

theorem nodupL_spec : ∀ (l : List Nat), nodupL l = true → l.Nodup
  | [], _ => .nil
  | x :: r, h => by
    simp only [nodupL, Bool.and_eq_true, Bool.not_eq_true', List.any_eq_false] at h
    refine List.nodup_cons.2 ⟨fun hin => ?_, nodupL_spec r h.2⟩
    have := h.1 x hin
    simp at this

theorem nodup_get {l : List Nat} (h : l.Nodup) {i j x : Nat} (hi : l[i]? = some x) (hj : l[j]? = some x) : i = j :=
  (List.getElem?_inj (List.getElem?_eq_some_iff.1 hi).1 h).1 (hi.trans hj.symm)

theorem lookU_some : ∀ (ys : List (Nat × A × List Nat)) (ios : List (Nat × TypeId × Ty)) (as_ : List A) (id : Nat) (r : Row), lookU (upsOf ys ios as_) id = some r → ∃ k y, ys[k]? = some y ∧ y.1 = id ∧ ioM ios as_ k = some r
  | y :: ys, x :: xs, a :: as_, id, r, h => by
    simp only [upsOf, lookU] at h
    cases hb : Nat.beq y.1 id with
    | true => rw [hb] at h; cases h; exact ⟨0, y, rfl, Nat.eq_of_beq_eq_true hb, rfl⟩
    | false =>
      rw [hb] at h
      obtain ⟨k, y', h1, h2, h3⟩ := lookU_some ys xs as_ id r h
      exact ⟨k + 1, y', by simpa using h1, h2, by simpa [ioM] using h3⟩
  | [], _, _, _, _, h => by simp [upsOf, lookU] at h
  | _ :: _, [], _, _, _, h => by simp [upsOf, lookU] at h
  | _ :: _, _ :: _, [], _, _, h => by simp [upsOf, lookU] at h

theorem lookU_none : ∀ (ys : List (Nat × A × List Nat)) (ios : List (Nat × TypeId × Ty)) (as_ : List A) (id : Nat), ys.length = ios.length → as_.length = ios.length → lookU (upsOf ys ios as_) id = none → id ∉ ys.map (·.1)
  | y :: ys, x :: xs, a :: as_, id, h1, h2, h => by
    simp only [upsOf, lookU] at h
    cases hb : Nat.beq y.1 id with
    | true => rw [hb] at h; cases h
    | false =>
      rw [hb] at h
      have := lookU_none ys xs as_ id (by simpa using h1) (by simpa using h2) h
      intro hin
      rcases List.mem_cons.1 hin with he | he
      · have he' : id = y.1 := he
        subst he'; simp at hb
      · exact this he
  | [], _, _, _, _, _, _ => by simp
  | _ :: _, [], _, _, h, _, _ => by simp at h
  | _ :: _, _ :: _, [], _, _, h, _ => by simp at h

/-- Where the handed variables lie, by their places. -/
def betIO (β : Bet) (ys : List (Nat × A × List Nat)) : Bet := fun k => match ys[k]? with
  | some y => β y.1
  | none => none
/-- The blocks of the handed variables. -/
def ownIO (β : Bet) (ys : List (Nat × A × List Nat)) : Nat → Prop := fun b => ∃ (k : Nat) (y : Nat × A × List Nat) (loc : Loc), ys[k]? = some y ∧ β y.1 = some loc ∧ loc.b = some b

theorem data_bet {w : World} {St Q Q' : Stb} {β β' : Bet} {T : Ty} {cs : List C} {l : List Value} {d : T.den} (h : All2 (RelC w St Q β) l cs) (hp : prj T cs = some d) : All2 (RelC w St Q' β') l (inj T d).cells := by
  rw [inj_cells]; exact rel_inj w St Q' β' T l d (rel_prj h hp)

/-- The callee's rows at its begin. -/
theorem io_entry {w : World} {St Q : Stb} {β : Bet} {B : Base} {new : Nat} {M m : Nat → Option Row} {args : List F} (hp : Pre w St Q β B M new) (hS : SeesX true m M) {ys : List (Nat × A × List Nat)} {ios : List (Nat × TypeId × Ty)}
    (hys : All2 (IoAt m args) ys ios) (hnd : (ys.map (·.1)).Nodup) {ids : List Nat} (hids : ∀ id, id ∈ ys.flatMap (fun y => y.2.2) → id ∈ ids) (hdis : ∀ id, id ∈ ids → id ∉ ys.map (·.1)) {Qc : Stb} :
    MemRel w (stF β M St ids) Qc (betIO β ys) ⟨w.heap.size, ownIO β ys⟩ (ioM ios (ys.map fun y => y.2.1)) := by
  have hpF := frz_pre hp ids
  have hone : ∀ (k : Nat) (y : Nat × A × List Nat) (x : Nat × TypeId × Ty), ys[k]? = some y → ios[k]? = some x → ∃ r, M y.1 = some r ∧ frz M ids y.1 = some r ∧
      ((arrT x.2.2 = none ∧ ∃ cs d, r = .box x.2.1 (some x.2.2) cs false ∧ prj x.2.2 (cs.map (reC0 m)) = some d ∧ y.2.1 = inj x.2.2 d ∧ (∀ id, id ∈ owIds cs → id ∈ ids)) ∨
       (∃ T l, x.2.2 = .pair .unit (.sl T) ∧ r = .arr x.2.1 T l false ∧ y.2.1 = .ag [.sl T l])) := by
    intro k y x hy hx
    obtain ⟨x', hx', hat⟩ := All2.get' _ _ hys k y hy
    rw [hx] at hx'; cases hx'
    have hmem : y ∈ ys := List.mem_of_getElem? hy
    have hn : y.1 ∉ ids := fun hin => hdis _ hin (List.mem_map.2 ⟨y, hmem, rfl⟩)
    rcases hat with ⟨hA, cs, d, h1, h2, h3, h4, h5⟩ | ⟨T, l, len, h1, h2, h3, h4, h5⟩
    · have hM : M y.1 = some (.box x.2.1 (some x.2.2) cs false) := (hS _ _ h2).elim id (fun h => by cases h.1)
      exact ⟨_, hM, by unfold frz; rw [if_neg hn]; exact hM, .inl ⟨hA, cs, d, rfl, h3, h4, fun id hid => hids id (List.mem_flatMap.2 ⟨y, hmem, by rw [h5]; exact hid⟩)⟩⟩
    · have hM : M y.1 = some (.arr x.2.1 T l false) := (hS _ _ h3).elim id (fun h => by cases h.1)
      exact ⟨_, hM, by unfold frz; rw [if_neg hn]; exact hM, .inr ⟨T, l, h1, rfl, h4⟩⟩
  refine ⟨fun k r h => ?_, fun k k' r r' l l' b h h' hne hl hl' hb => ?_⟩
  · obtain ⟨x, a, hx, ha, rfl⟩ := ioM_spec _ _ _ _ h
    rw [List.getElem?_map] at ha
    obtain ⟨y, hy, rfl⟩ := Option.map_eq_some_iff.1 ha
    obtain ⟨rr, hM, hF, ⟨hA, cs, d, rfl, h3, h4, h5⟩ | ⟨T, l, hT, rfl, h4⟩⟩ := hone k y x hy hx
    rotate_left
    · obtain ⟨loc, n, hb, hat, hst⟩ := hpF.mem.row _ _ hF
      rw [ioRow_arr (x := x) (by rw [hT]; rfl) (show prj (.sl T) y.2.1.cells = some l by rw [h4]; exact prj_ag l)]
      refine ⟨loc, n, by simp only [betIO, hy]; exact hb, hat.data (fun _ _ h => h), fun b hlb => ⟨.inr ⟨k, y, loc, hy, hb, hlb⟩, (hst b hlb).2.1, (hst b hlb).2.2⟩⟩
    rw [ioRow_box _ hA]
    obtain ⟨b, cur, hb, hh, hrel, ho, hmay, hst, _⟩ := hpF.mem.box hF
    obtain ⟨b2, cur2, hb2, hh2, hrel2, _⟩ := hp.mem.box hM
    rw [hb] at hb2
    simp only [Option.some.injEq, Loc.mk.injEq] at hb2
    obtain ⟨rfl, _⟩ := hb2
    rw [hh] at hh2
    simp only [Option.some.injEq, Obj.cells.injEq] at hh2
    obtain ⟨rfl, _⟩ := hh2
    have hall := reC0_all (m := m) hp.mem (SeesX.sees hS) (ids := ids) (fun id len hm => h5 id (owIds_mem hm)) hrel2
    have hdat : All2 (RelC w (stF β M St ids) Qc (betIO β ys)) cur.toList (inj x.2.2 d).cells := data_bet hall h3
    have hlen : (inj x.2.2 d).cells.length = cs.length := by rw [← All2.length _ _ hdat, ← All2.length _ _ hrel]
    refine ⟨⟨some b, 1, cs.length, 1⟩, _, ?_, .box _ _ _ _ b cur (by rw [h4, hlen]) hh (by rw [h4]; exact hdat) ho, fun b' hb' => ?_⟩
    · simp only [betIO, hy]; exact hb
    · cases hb'
      refine ⟨.inr ⟨k, y, _, hy, hb, rfl⟩, fun o ho' => ?_, fun hf => by cases hf⟩
      have := (hst o ho').1
      cases this
  · obtain ⟨x, a, hx, ha, rfl⟩ := ioM_spec _ _ _ _ h
    obtain ⟨x', a', hx', ha', rfl⟩ := ioM_spec _ _ _ _ h'
    rw [List.getElem?_map] at ha ha'
    obtain ⟨y, hy, rfl⟩ := Option.map_eq_some_iff.1 ha
    obtain ⟨y', hy', rfl⟩ := Option.map_eq_some_iff.1 ha'
    obtain ⟨rr, hM, _⟩ := hone k y x hy hx
    obtain ⟨rr', hM', _⟩ := hone k' y' x' hy' hx'
    simp only [betIO, hy] at hl
    simp only [betIO, hy'] at hl'
    refine hp.mem.dist y.1 y'.1 _ _ _ _ b hM hM' (fun he => hne ?_) hl hl' hb
    exact nodup_get hnd (x := y.1) (by simp [hy]) (by simp [hy', he])

theorem ret_data : ∀ (Ts : List Ty) (os : List A) (o : dens (Ts.map RT.d)), prjRs (Ts.map RT.d) (os.map RV.d) = some o → (retF 0 (Ts.map RT.d) o).1.length = Ts.length ∧
    ∀ (k : Nat) (T : Ty), Ts[k]? = some T → ∃ (a : A) (d : T.den), os[k]? = some a ∧ prj T a.cells = some d ∧ (retF 0 (Ts.map RT.d) o).1[k]? = some (inj T d)
  | [], os, o, h => ⟨rfl, fun k T hT => by simp at hT⟩
  | [T], os, o, h => by
    cases os with
    | nil => simp [prjRs] at h
    | cons a os => cases os with
      | cons => simp [prjRs] at h
      | nil =>
        refine ⟨rfl, fun k T' hT => ?_⟩
        cases k with
        | succ k => simp at hT
        | zero =>
          simp only [List.getElem?_cons_zero, Option.some.injEq] at hT
          subst hT
          simp only [List.map, prjRs, prjR] at h
          cases hs : shapeOk T a with
          | false => rw [hs] at h; cases h
          | true =>
            rw [hs] at h
            exact ⟨a, o, rfl, h, rfl⟩
  | T :: T2 :: Ts, os, o, h => by
    cases os with
    | nil => simp [prjRs] at h
    | cons a os =>
      simp only [List.map, prjRs] at h
      split at h
      · rename_i d1 h1
        split at h
        · rename_i d2 h2
          cases h
          obtain ⟨hl, hk⟩ := ret_data (T2 :: Ts) os d2 h2
          have e : (retF 0 (List.map RT.d (T :: T2 :: Ts)) (d1, d2)).1 = inj T d1 :: (retF 0 (List.map RT.d (T2 :: Ts)) d2).1 := rfl
          rw [e]
          refine ⟨by simp only [List.length_cons] at hl ⊢; omega, fun k T' hT => ?_⟩
          cases k with
          | zero =>
            simp only [List.getElem?_cons_zero, Option.some.injEq] at hT
            subst hT
            simp only [prjR] at h1
            cases hs : shapeOk T a with
            | false => rw [hs] at h1; cases h1
            | true =>
              rw [hs] at h1
              exact ⟨a, d1, rfl, h1, rfl⟩
          | succ k =>
            obtain ⟨a', d', e1, e2, e3⟩ := hk k T' (by simpa using hT)
            exact ⟨a', d', by simpa using e1, e2, by simpa using e3⟩
        · cases h
      · cases h

theorem io_exit {w w' : World} {St St' Q Qc : Stb} {β : Bet} {B : Base} {new : Nat} {M m : Nat → Option Row} {args : List F} (hp : Pre w St Q β B M new) (hS : SeesX true m M) {ys : List (Nat × A × List Nat)} {ios : List (Nat × TypeId × Ty)}
    (hys : All2 (IoAt m args) ys ios) {ids : List Nat} (hdis : ∀ id, id ∈ ids → id ∉ ys.map (·.1))
    (hbel : Bel ⟨w.heap.size, ownIO β ys⟩ w w') (hsub : ∀ b o, stF β M St ids b o → St' b o) (hnew : ∀ b o, St' b o → stF β M St ids b o ∨ w.heap.size ≤ b)
    {os : List A} (hM : MemRel w' St' Qc (betIO β ys) ⟨w.heap.size, ownIO β ys⟩ (ioM ios os)) {o : dens ((ios.map fun x => x.2.2).map RT.d)} (ho : prjRs ((ios.map fun x => x.2.2).map RT.d) (os.map RV.d) = some o) :
    Bel B w w' ∧ Keep w (stF β M St ids) β Q w' St' β ∧
      MemRel w' St' Q β B (fun id => match lookU (upsOf ys ios (retF 0 ((ios.map fun x => x.2.2).map RT.d) o).1) id with | some r => some r | none => frz M ids id) ∧
      ∀ i q, (match lookU (upsOf ys ios (retF 0 ((ios.map fun x => x.2.2).map RT.d) o).1) i with | some r => some r | none => frz M ids i) = some q → ∃ q', frz M ids i = some q' := by
  have hpF := frz_pre hp ids
  obtain ⟨hlen, hdat⟩ := ret_data _ _ _ ho
  have hly := All2.length _ _ hys
  have hone : ∀ (k : Nat) (y : Nat × A × List Nat), ys[k]? = some y → ∃ x r, ios[k]? = some x ∧ frz M ids y.1 = some r ∧ r.fz = false ∧ ((arrT x.2.2 = none ∧ ∃ cs, r = .box x.2.1 (some x.2.2) cs false) ∨ ∃ T, x.2.2 = .pair .unit (.sl T)) := by
    intro k y hy
    obtain ⟨x, hx, hat⟩ := All2.get' _ _ hys k y hy
    have hn : y.1 ∉ ids := fun hin => hdis _ hin (List.mem_map.2 ⟨y, List.mem_of_getElem? hy, rfl⟩)
    rcases hat with ⟨hA, cs, d, h1, h2, h3, h4, h5⟩ | ⟨T, l, len, h1, h2, h3, h4, h5⟩
    · have hM : M y.1 = some (.box x.2.1 (some x.2.2) cs false) := (hS _ _ h2).elim id (fun h => by cases h.1)
      exact ⟨x, _, hx, by unfold frz; rw [if_neg hn]; exact hM, rfl, .inl ⟨hA, cs, rfl⟩⟩
    · have hM : M y.1 = some (.arr x.2.1 T l false) := (hS _ _ h3).elim id (fun h => by cases h.1)
      exact ⟨x, _, hx, by unfold frz; rw [if_neg hn]; exact hM, rfl, .inr ⟨T, h1⟩⟩
  have hown : ∀ b, ownIO β ys b → B.may b ∧ ∀ o, ¬ stF β M St ids b o := by
    rintro b ⟨k, y, loc, hy, hb, hl⟩
    obtain ⟨x, rr, hx, hF, hfz, _⟩ := hone k y hy
    obtain ⟨loc2, n, hb2, _, hst⟩ := hpF.mem.row _ _ hF
    rw [hb] at hb2
    cases hb2
    exact ⟨(hst b hl).1, fun o ho => by have := ((hst b hl).2.1 o ho).1; rw [hfz] at this; cases this⟩
  have hB : Bel B w w' := ⟨hbel.os, hbel.tape, hbel.output, hbel.size, fun k hk hn => hbel.block k (Nat.lt_of_lt_of_le hk hp.bh) (fun ho => ((hown k ho).1).elim (fun h => absurd hk (by omega)) hn)⟩
  have hK : Keep w (stF β M St ids) β Q w' St' β := ⟨fun b o h => ⟨hsub b o h, World.cell?_of_block (hbel.block b (hpF.st b o h) (fun ho => (hown b ho).2 o h))⟩,
    fun b o h => World.cell?_of_block (hB.block b (hp.qb b o h).1 (hp.qb b o h).2), fun _ _ h => h⟩
  have hex : ∀ i q, (match lookU (upsOf ys ios (retF 0 ((ios.map fun x => x.2.2).map RT.d) o).1) i with | some r => some r | none => frz M ids i) = some q → ∃ q', frz M ids i = some q' := by
    intro i q hq
    split at hq
    · rename_i r' hr'
      obtain ⟨k, y, hy, rfl, hk⟩ := lookU_some _ _ _ _ _ hr'
      obtain ⟨x2, rr, hx2, hF, _⟩ := hone k y hy
      exact ⟨_, hF⟩
    · exact ⟨q, hq⟩
  refine ⟨hB, hK, ⟨fun id r h => ?_, fun id id' r r' l l' b h h' hne hl hl' hb => ?_⟩, hex⟩
  · split at h
    · rename_i r' hr'
      cases h
      obtain ⟨k, y, hy, rfl, hk⟩ := lookU_some _ _ _ _ _ hr'
      obtain ⟨x, a', hx, ha', rfl⟩ := ioM_spec _ _ _ _ hk
      obtain ⟨x2, rr, hx2, hF, _, hk2⟩ := hone k y hy
      rw [hx] at hx2; cases hx2
      obtain ⟨a, d, e1, e2, e3⟩ := hdat k x.2.2 (by simp [hx])
      rw [ha'] at e3
      cases e3
      have hgetM := ioM_get _ _ _ _ _ hx e1
      rcases hk2 with ⟨hA, cs, rfl⟩ | ⟨T, hT⟩
      rotate_left
      · obtain ⟨i, t, T0⟩ := x
        simp only at hT
        subst hT
        rw [ioRow_same (x := (i, t, .pair .unit (.sl T))) rfl e2] at hgetM
        obtain ⟨loc, n, hb, hat, hst⟩ := hM.row _ _ hgetM
        simp only [betIO, hy] at hb
        have e5 : ioRow (i, t, .pair .unit (.sl T)) (inj (.pair .unit (.sl T)) d) = .arr t T d.2 false := ioRow_arr rfl (prj_ag d.2)
        show RowRel w' St' Q β B y.1 (ioRow (i, t, .pair .unit (.sl T)) (inj (.pair .unit (.sl T)) d))
        rw [e5]
        exact ⟨loc, n, hb, hat.data (fun _ _ h => h), fun b hlb => ⟨(hown b ⟨k, y, _, hy, hb, hlb⟩).1, (hst b hlb).2.1, (hst b hlb).2.2⟩⟩
      rw [ioRow_box _ hA] at hgetM ⊢
      obtain ⟨b, cur, hb, hh, hrel, hon, _, hst, _⟩ := hM.box hgetM
      simp only [betIO, hy] at hb
      have hd2 : All2 (RelC w' St' Q β) cur.toList (inj x.2.2 d).cells := data_bet hrel e2
      have hl2 : (inj x.2.2 d).cells.length = a.cells.length := by rw [← All2.length _ _ hd2, ← All2.length _ _ hrel]
      refine ⟨⟨some b, 1, a.cells.length, 1⟩, _, hb, .box _ _ _ _ b cur (by rw [hl2]) hh hd2 hon, fun b' hb' => ?_⟩
      cases hb'
      exact ⟨(hown b ⟨k, y, _, hy, hb, rfl⟩).1, (fun o ho => by have := (hst o ho).1; cases this), fun hf => by cases hf⟩
    · rename_i hno
      have hnin := lookU_none _ _ _ _ hly (by rw [hlen]; simp) hno
      obtain ⟨loc, n, hb, hat, hst⟩ := hpF.mem.row _ _ h
      refine ⟨loc, n, hb, hat.mono hK (fun b hlb => hbel.block b (hat.lt hlb) ?_), fun b hlb => ?_⟩
      · rintro ⟨k, y, loc', hy, hb', hl'⟩
        obtain ⟨x, rr, hx, hF, _⟩ := hone k y hy
        exact hpF.mem.dist id y.1 _ _ _ _ b h hF (fun he => hnin (he ▸ List.mem_map.2 ⟨y, List.mem_of_getElem? hy, rfl⟩)) hb hb' hlb hl'
      · obtain ⟨h1, h2, h3⟩ := hst b hlb
        refine ⟨h1, fun o ho => ?_, fun hf o ho => hsub b o (h3 hf o ho)⟩
        rcases hnew b o ho with h | h
        · exact h2 o h
        · have := hat.lt hlb; omega
  · obtain ⟨q, hq⟩ := hex _ _ h
    obtain ⟨q', hq'⟩ := hex _ _ h'
    exact hpF.mem.dist id id' _ _ _ _ b hq hq' hne hl hl' hb

theorem RelA.data {w : World} {St Qc : Stb} {β' : Bet} {c : Value} {x : A} (h : RelA w St Qc noBet c x) : RelA w St Qc β' c x :=
  RelA.mono ⟨fun _ _ h => ⟨h, rfl⟩, fun _ _ _ => rfl, fun id l hl => by cases hl⟩ h

theorem argIO_rel {w : World} {St Q : Stb} {β : Bet} {B : Base} {new : Nat} {M m : Nat → Option Row} (hp : Pre w St Q β B M new) (hS : Sees m M) {ids : List Nat} {Qc : Stb} (hQ : QcOK St Q β M ids Qc) {ios : List (Nat × TypeId × Ty)} {βc : Bet} :
    ∀ {i : Nat} {Ts : List (Option Ty)} {fs : List F} {as_ : List A} {l : List Value}, argIO m ios i Ts fs = some as_ →
    (∀ (j k : Nat), ioPos ios (i + j) 0 = some k → (∃ id, fs[j]? = some (.a (.c (.pt (.own id 0 0)))) ∧ ∃ b cap kk n, β id = some ⟨some b, cap, kk, n⟩ ∧ βc k = some ⟨some b, cap, kk, n⟩) ∨ ∃ id len, fs[j]? = some (.a (.c (.ow id len))) ∧ ∃ loc, β id = some loc ∧ βc k = some loc) →
    (∀ id, id ∈ argIdsIO m ios i fs → id ∈ ids) → All2 (RelF w St Q β) l fs → All2 (RelA w (stF β M St ids) Qc βc) l as_ ∧ as_.length = Ts.length
  | _, [], [], as_, [], h, _, _, _ => by simp only [argIO, Option.some.injEq] at h; subst h; exact ⟨trivial, rfl⟩
  | i, T :: Ts, .a x :: fs, as_, c :: l, h, hio, hin, ⟨h1, h2⟩ => by
    simp only [argIO] at h
    split at h
    · cases h
    · rename_i r' hr'
      have hin2 : ∀ id, id ∈ argIdsIO m ios (i + 1) fs → id ∈ ids := fun id hid => hin id (by simp only [argIdsIO]; exact List.mem_append_right _ hid)
      obtain ⟨hrest, hlen⟩ := argIO_rel hp hS hQ (βc := βc) hr' (fun j k hk => by
        have := hio (j + 1) k (by rw [show i + (j + 1) = i + 1 + j by omega]; exact hk)
        simpa using this) hin2 h2
      split at h
      · rename_i k hk
        cases h
        rcases hio 0 k (by simpa using hk) with ⟨id, hf, b, cap, kk, n, hb, hbc⟩ | ⟨id, len, hf, loc, hb, hbc⟩
        rotate_left
        · simp only [List.getElem?_cons_zero, Option.some.injEq, F.a.injEq] at hf
          subst hf
          obtain ⟨loc', hb', hl⟩ := h1
          rw [hb] at hb'
          cases hb'
          exact ⟨⟨⟨loc, hbc, hl⟩, hrest⟩, by simp [hlen]⟩
        simp only [List.getElem?_cons_zero, Option.some.injEq, F.a.injEq] at hf
        subst hf
        obtain ⟨b', cap', kk', n', hb', rfl⟩ := h1
        rw [hb] at hb'
        cases hb'
        exact ⟨⟨⟨b, cap, kk, n, hbc, by simp⟩, hrest⟩, by simp [hlen]⟩
      · rename_i hk
        have hin1 : ∀ id, id ∈ x.cells.flatMap (idsC m) → id ∈ ids := fun id hid => hin id (by simp only [argIdsIO, hk]; exact List.mem_append_left _ hid)
        cases T with
        | none =>
          cases h
          exact ⟨⟨(reA_rel hp hS hQ hin1 h1).data, hrest⟩, by simp [hlen]⟩
        | some T =>
          simp only at h
          cases hs : shapeOk T x with
          | false => rw [hs] at h; cases h
          | true =>
            rw [hs] at h
            simp only [cond_true] at h
            split at h
            · rename_i d hd
              cases h
              have hT := rel_prj (reC0_all (m := m) hp.mem hS (ids := ids) (fun id len hm => hin1 id (owIds_idsC hm)) (rel_cells h1)) hd
              exact ⟨⟨rel_injA hT (shape_val hs h1), hrest⟩, by simp [hlen]⟩
            · cases h
  | _, [], [], _, _ :: _, _, _, _, h => h.elim
  | _, [], _ :: _, _, _, h, _, _, _ => by simp [argIO] at h
  | _, _ :: _, [], _, _, h, _, _, _ => by simp [argIO] at h
  | _, _ :: _, .tp _ :: _, _, _, h, _, _, _ => by simp [argIO] at h
  | _, _ :: _, .a _ :: _, _, [], _, _, _, h => h.elim

theorem prj_data : ∀ (Ts : List Ty) (l : List RV) (o : dens (Ts.map RT.d)), prjRs (Ts.map RT.d) l = some o → ∃ os : List A, l = os.map RV.d
  | [], l, o, h => by cases l with
    | nil => exact ⟨[], rfl⟩
    | cons => simp [prjRs] at h
  | [T], l, o, h => by
    cases l with
    | nil => simp [prjRs] at h
    | cons v l => cases l with
      | cons => simp [prjRs] at h
      | nil => cases v with
        | d x => exact ⟨[x], rfl⟩
        | own e T' xs => cases h
  | T :: T2 :: Ts, l, o, h => by
    cases l with
    | nil => simp [prjRs] at h
    | cons v l =>
      simp only [List.map, prjRs] at h
      split at h
      · rename_i d1 h1
        split at h
        · rename_i d2 h2
          obtain ⟨os, rfl⟩ := prj_data (T2 :: Ts) l d2 h2
          cases v with
          | d x => exact ⟨x :: os, rfl⟩
          | own e T' xs => cases h1
        · cases h
      · cases h

theorem io_own {w : World} {St Q : Stb} {β : Bet} {B : Base} {new : Nat} {M m : Nat → Option Row} {args : List F} (hp : Pre w St Q β B M new) (hS : SeesX true m M) {ys : List (Nat × A × List Nat)} {ios : List (Nat × TypeId × Ty)}
    (hys : All2 (IoAt m args) ys ios) {ids : List Nat} (hdis : ∀ id, id ∈ ids → id ∉ ys.map (·.1)) : ∀ b, ownIO β ys b → B.may b ∧ (∀ o, ¬ stF β M St ids b o) ∧ ∀ id r loc, id ∈ ids → M id = some r → β id = some loc → loc.b ≠ some b := by
  have hpF := frz_pre hp ids
  rintro b ⟨k, y, loc, hy, hb, hl⟩
  obtain ⟨x, hx, hat⟩ := All2.get' _ _ hys k y hy
  obtain ⟨rr, hM, hfz⟩ : ∃ rr, M y.1 = some rr ∧ rr.fz = false := by
    rcases hat with ⟨hA, cs, d, h1, h2, h3, h4, h5⟩ | ⟨T, l, len, h1, h2, h3, h4, h5⟩
    · exact ⟨_, (hS _ _ h2).elim id (fun h => by cases h.1), rfl⟩
    · exact ⟨_, (hS _ _ h3).elim id (fun h => by cases h.1), rfl⟩
  have hn : y.1 ∉ ids := fun hin => hdis _ hin (List.mem_map.2 ⟨y, List.mem_of_getElem? hy, rfl⟩)
  have hF : frz M ids y.1 = some rr := by unfold frz; rw [if_neg hn]; exact hM
  obtain ⟨loc2, n, hb2, _, hst⟩ := hpF.mem.row _ _ hF
  have hb0 := hb
  rw [hb] at hb2
  cases hb2
  refine ⟨(hst b hl).1, (fun o ho => by have := ((hst b hl).2.1 o ho).1; rw [hfz] at this; cases this), fun id r loc hin hm hβ hlb => ?_⟩
  exact hp.mem.dist id y.1 _ _ _ _ b hm hM (fun he => hdis id hin (he ▸ List.mem_map.2 ⟨y, List.mem_of_getElem? hy, rfl⟩)) hβ hb0 hlb hl

theorem rvs_obs {w' : World} {St1 : Stb} {n : Nat} : ∀ (cs : List Value) (rvs : List RV) (obs : List (Option Nat)), RelRVs w' St1 (base0 n) cs rvs obs → ∀ b, some b ∈ obs → n ≤ b ∧ ∀ o, ¬ St1 b o := by
  intro cs
  induction cs with
  | nil => intro rvs obs h b hb; cases rvs <;> cases obs <;> first | exact h.elim | cases hb
  | cons c cs ih =>
    intro rvs obs h b hb
    cases rvs with
    | nil => exact h.elim
    | cons rv rvs => cases obs with
      | nil => exact h.elim
      | cons ob obs =>
        rcases List.mem_cons.1 hb with hb | hb
        · subst hb
          cases rv with
          | d x => cases h.1.1
          | own e T xs => obtain ⟨cap, cur, _, h1, _, _, _, _, _, h2⟩ := h.1; exact ⟨h1.elim (fun h => h) False.elim, h2⟩
        · exact ih rvs obs h.2 b hb

theorem wrap_rel {w' : World} {St' Q : Stb} {β' : Bet} {cs : List Value} {l : List A} (hall : All2 (RelA w' St' Q β') cs l) : RelF w' St' Q β' (wrapV cs) (wrapF l) := by
  match cs, l, hall with
  | [], [], _ => exact ⟨#[], rfl, trivial⟩
  | [c], [x], h => exact h.1
  | c :: c' :: cs, x :: x' :: l, h => exact ⟨_, rfl, h⟩

theorem callIO_sound {G : World → Prop} {m : Nat → Option Row} {new : Nat} {f : FuncId} {sg : Sig} {args : List F} {K : OutM → Option R} (hio : sg.ios ≠ []) (hea : sg.eat = false) (hcall : ∀ args rvs, E.call f args = some rvs → CallAny E.P G f sg args rvs) (h : callIO E m new f sg args K = some r) :
    ∃ out : OutM, K out = some r ∧ out.rows.length ≤ 4 ∧ out.upd = none ∧ (out.ups ≠ [] ∧ ∀ x ∈ out.ups, (m x.1).isSome = true) ∧ (∃ as_ rvs, E.call f as_ = some rvs) ∧ ∀ (w : World) (St Q : Stb) (β : Bet) (B : Base) (M : Nat → Option Row), (∀ w', Bel B w w' → G w') → Pre w St Q β B M new → SeesX true m M →
      ∀ (cargs : Array Value), All2 (RelF w St Q β) cargs.toList args →
        Calls E.P f cargs w fun e w' => ∃ v St' β', e = .returned v ∧ Good w St Q β B new v w' St' β' out.v (appM M new out) := by
  unfold callIO at h
  split at h
  · rename_i ys hys0
    cases hck : (nodupL (ys.map (·.1)) && Nat.ble sg.rts.length 4 && !((ys.flatMap (fun y => y.2.2) ++ argIdsIO m sg.ios 0 args).any fun i => (ys.map (·.1)).any (Nat.beq i))) with
    | false => rw [hck] at h; cases h
    | true =>
      rw [hck] at h
      simp only [cond_true] at h
      simp only [Bool.and_eq_true, Bool.not_eq_true'] at hck
      obtain ⟨⟨hnd0, hble⟩, hdis0⟩ := hck
      have h4 := Nat.le_of_ble_eq_true hble
      have hnd := nodupL_spec _ hnd0
      have hys := ioAll_spec _ _ hys0
      have hly := All2.length _ _ hys
      generalize hids : ys.flatMap (fun y => y.2.2) ++ argIdsIO m sg.ios 0 args = ids at h hdis0
      have hdis : ∀ id, id ∈ ids → id ∉ ys.map (·.1) := fun id hin hin2 => by
        rw [List.any_eq_false] at hdis0
        have := hdis0 id hin
        rw [List.any_eq_true] at this
        exact this ⟨id, hin2, Nat.beq_refl id⟩
      split at h
      · rename_i as_ has
        simp only [callT2] at h
        cases hc : E.call f (as_ ++ ys.map fun y => y.2.1) with
        | none => rw [hc] at h; cases h
        | some rvs =>
          rw [hc] at h
          simp only [Option.bind_some] at h
          cases hd : prjRs sg.rts (rvs.take sg.rts.length) with
          | none => rw [hd] at h; cases h
          | some d =>
            rw [hd] at h
            simp only at h
            cases ho : prjRs ((sg.ios.map fun x => x.2.2).map RT.d) (rvs.drop sg.rts.length) with
            | none => rw [ho] at h; cases h
            | some o =>
              rw [ho] at h
              simp only [Option.bind_some] at h
              have hca := hcall _ _ hc
              unfold CallAny at hca
              rw [hea] at hca
              simp only at hca
              split at hca
              · rename_i he; exact absurd he hio
              · rename_i x0 xs0 hios
                have hIO := hca
                obtain ⟨os, hos⟩ := prj_data _ _ _ ho
                rw [hos] at ho
                have hrl := (ret_data _ _ _ ho).1
                have hups : upsOf ys sg.ios (retF 0 ((sg.ios.map fun x => x.2.2).map RT.d) o).1 ≠ [] := by
                  generalize (retF 0 ((sg.ios.map fun x => x.2.2).map RT.d) o).1 = z at hrl
                  rw [hios] at hrl hly ⊢
                  cases ys with
                  | nil => simp at hly
                  | cons y ys => cases z with
                    | nil => simp at hrl
                    | cons z zs => simp [upsOf]
                have hum : ∀ (ys' : List (Nat × A × List Nat)) (ios : List (Nat × TypeId × Ty)) (l : List A), (∀ y ∈ ys', (m y.1).isSome = true) → ∀ x ∈ upsOf ys' ios l, (m x.1).isSome = true := by
                  intro ys'
                  induction ys' with
                  | nil => intro ios l _ x hx; simp [upsOf] at hx
                  | cons y ys' ih => intro ios l hy x hx; cases ios with
                    | nil => simp [upsOf] at hx
                    | cons i ios => cases l with
                      | nil => simp [upsOf] at hx
                      | cons a l =>
                        simp only [upsOf, List.mem_cons] at hx
                        rcases hx with rfl | hx
                        · exact hy y (by simp)
                        · exact ih ios l (fun z hz => hy z (by simp [hz])) x hx
                refine ⟨_, h, Nat.le_trans (retF_rows _ _ _) h4, rfl, ⟨hups, hum _ _ _ fun y hy => ?_⟩, ⟨_, rvs, hc⟩, fun w St Q β B M hG hp hS cargs hargs => ?_⟩
                · obtain ⟨k, hk⟩ := List.getElem?_of_mem hy
                  obtain ⟨x, hx, ⟨_, cs, d, h1, h2, _⟩ | ⟨T, l, len, _, _, h2, _⟩⟩ := All2.get' _ _ hys k y hk <;> rw [h2] <;> rfl
                have hpF := frz_pre hp ids
                have hown := io_own hp hS hys hdis
                have hQ : QcOK St Q β M ids (fun b _ => b < w.heap.size ∧ ¬ ownIO β ys b) := by
                  refine ⟨fun b o h => ⟨Nat.lt_of_lt_of_le (hp.qb _ _ h).1 hp.bh, fun ho => ((hown b ho).1).elim (fun h' => ?_) (hp.qb _ _ h).2⟩, fun b o h => ⟨hp.st _ _ h, fun ho => (hown b ho).2.1 o (.inl h)⟩, fun id r0 loc b o hin hm hb hl => ⟨?_, fun ho => (hown b ho).2.2 id r0 loc hin hm hb hl⟩⟩
                  · have := (hp.qb _ _ h).1
                    omega
                  · obtain ⟨loc', n, hb', hat, _⟩ := hp.mem.row _ _ hm
                    rw [hb] at hb'; cases hb'
                    exact hat.lt hl
                obtain ⟨hrel, hasl⟩ := argIO_rel hp (SeesX.sees hS) (ids := ids) hQ (βc := betIO β ys) has (fun j k hk => by
                  obtain ⟨_, x, hx, hxj⟩ := ioPos_spec _ _ _ _ hk
                  obtain ⟨y, hy, ⟨_, cs, d, h1, h2, _⟩ | ⟨T, l, len, _, h1, h2, _⟩⟩ := All2.get _ _ hys k x (by simpa using hx)
                  rotate_left
                  · have hM : M y.1 = some (.arr x.2.1 T l false) := (hS _ _ h2).elim id (fun h => by cases h.1)
                    obtain ⟨loc, n, hb, _⟩ := hp.mem.row _ _ hM
                    refine .inr ⟨y.1, len, ?_, loc, hb, ?_⟩
                    · rw [hxj, Nat.zero_add] at h1; exact h1
                    · simp only [betIO, hy]; exact hb
                  have hM : M y.1 = some (.box x.2.1 (some x.2.2) cs false) := (hS _ _ h2).elim id (fun h => by cases h.1)
                  obtain ⟨b, cur, hb, _⟩ := hp.mem.box hM
                  refine .inl ⟨y.1, ?_, b, _, _, _, hb, ?_⟩
                  · rw [hxj, Nat.zero_add] at h1; exact h1
                  · simp only [betIO, hy]; exact hb) (fun id hid => by rw [← hids]; exact List.mem_append_right _ hid) hargs
                have hent := io_entry (Qc := fun b _ => b < w.heap.size ∧ ¬ ownIO β ys b) hp hS hys hnd (ids := ids) (fun id hid => by rw [← hids]; exact List.mem_append_left _ hid) hdis
                have hBB : ∀ w', Bel ⟨w.heap.size, ownIO β ys⟩ w w' → Bel B w w' := fun w' hb => ⟨hb.os, hb.tape, hb.output, hb.size, fun k hk hn => hb.block k (Nat.lt_of_lt_of_le hk hp.bh) (fun ho => ((hown k ho).1).elim (fun h => absurd hk (by omega)) hn)⟩
                rw [← hasl] at hIO
                simp only [List.take_left, List.drop_left] at hIO
                refine (hIO w _ _ (betIO β ys) (ownIO β ys) cargs (fun w' hb => hG w' (hBB w' hb)) hpF.st (fun _ _ h => h) ?_ ?_ ?_ hent hrel).mono fun e w' => ?_
                · rintro b ⟨k, y, loc, hy, hb, hl⟩
                  refine ⟨k, loc, ?_, by simp only [betIO, hy]; exact hb, hl⟩
                  rw [← hly]; exact (List.getElem?_eq_some_iff.1 hy).1
                · intro k hk
                  have : ys[k]? = none := List.getElem?_eq_none (by omega)
                  simp only [betIO, this]
                · intro k hk
                  have hk2 : ys[k]? = some ys[k] := List.getElem?_eq_getElem (by omega)
                  obtain ⟨x, hx, ⟨_, cs, d, h1, h2, _⟩ | ⟨T, l, len, _, h1, h2, _⟩⟩ := All2.get' _ _ hys k _ hk2
                  · have hM : M (ys[k]).1 = some (.box x.2.1 (some x.2.2) cs false) := (hS _ _ h2).elim id (fun h => by cases h.1)
                    obtain ⟨loc, n, hb, _⟩ := hp.mem.row _ _ hM
                    exact ⟨_, by simp only [betIO, hk2]; exact hb⟩
                  · have hM : M (ys[k]).1 = some (.arr x.2.1 T l false) := (hS _ _ h2).elim id (fun h => by cases h.1)
                    obtain ⟨loc, n, hb, _⟩ := hp.mem.row _ _ hM
                    exact ⟨_, by simp only [betIO, hk2]; exact hb⟩
                rintro ⟨cs, obs, St1, os', rfl, hbel, hsub, hnewst, hst1, hrvs, hdist, hos', hosl', hM'⟩
                have hoo : os' = os := by
                  rw [hos] at hos'
                  exact ((List.map_inj_right (f := RV.d) (fun a b h => by cases h; rfl)).1 hos').symm
                rw [hoo] at hM'
                obtain ⟨hB, hK, hM2, hex⟩ := io_exit hp hS hys hdis hbel hsub hnewst hM' ho
                have hobs := rvs_obs _ _ _ hrvs
                obtain ⟨β', hall, hadd⟩ := ret_sound (St0 := St1) (St := St1) (fun b h => h.elim (fun h => .inl (Nat.le_trans hp.bh h)) False.elim) sg.rts d β _ new cs _ obs hM2 (fun j hj => hp.bn j (by omega)) (fun id r0 l b h hl hlb hin => by
                  obtain ⟨q, hq⟩ := hex _ _ h
                  obtain ⟨loc, n, hb, hat, _⟩ := hpF.mem.row _ _ hq
                  rw [hl] at hb; cases hb
                  have := hat.lt hlb
                  have := (hobs b hin).1
                  omega) (fun b o hin => (hobs b hin).2 o) hdist (fun _ _ _ _ _ _ h => h) hrvs hd
                refine ⟨_, St1, β', rfl, hB, ?_, wrap_rel hall, ?_, hst1, fun b o h => ?_, fun id hid => ?_⟩
                · exact (frz_keep w St Q β M ids).trans (hK.trans ⟨fun _ _ h => ⟨h, rfl⟩, fun _ _ _ => rfl, hadd.bet⟩)
                · have hm := hadd.mem
                  rw [addRows_eq] at hm
                  refine (congrArg (MemRel w' St1 Q β' B) ?_).mp hm
                  funext id
                  simp only [appM]
                  by_cases hin : new ≤ id ∧ id < new + (retF new sg.rts d).2.length
                  · rw [if_pos hin, if_pos hin]
                  · rw [if_neg hin, if_neg hin]
                    cases hl : lookU (upsOf ys sg.ios (retF 0 ((sg.ios.map fun x => x.2.2).map RT.d) o).1) id with
                    | none => rfl
                    | some r0 =>
                      obtain ⟨k, y, hy, rfl, _⟩ := lookU_some _ _ _ _ _ hl
                      have hn : y.1 ∉ ids := fun hin => hdis _ hin (List.mem_map.2 ⟨y, List.mem_of_getElem? hy, rfl⟩)
                      simp only [if_neg hn]
                · rcases hnewst b o h with h | h
                  · exact frz_new hp.mem _ b o h
                  · exact .inr (.inl (by have := hp.bh; omega))
                · have := hadd.bnew id hid; omega
      · cases h
  · cases h

theorem MemRel.off {w w' : World} {St St' Q : Stb} {β : Bet} {B : Base} {M : Nat → Option Row} (hM : MemRel w St Q β B M) {id : Nat} {r0 : Row} {loc : Loc} (hr : M id = some r0) (hβ : β id = some loc)
    (hh : ∀ b, b < w.heap.size → loc.b ≠ some b → w'.heap[b]? = w.heap[b]?) (hk : Keep w St β Q w' St' β) (hS : ∀ b o, St' b o → St b o ∨ w.heap.size ≤ b) : MemRel w' St' Q β B (fun i => if i = id then none else M i) := by
  refine ⟨fun i r h => ?_, fun i i' r r' l l' b h h' hne hl hl' hb => ?_⟩
  · by_cases he : i = id
    · simp [he] at h
    · simp only [if_neg he] at h
      obtain ⟨l, n, hb, hat, hst⟩ := hM.row _ _ h
      refine ⟨l, n, hb, hat.mono hk (fun b hb' => hh b (hat.lt hb') (hM.dist i id _ _ _ _ b h hr he hb hβ hb')), fun b hb' => ?_⟩
      obtain ⟨h1, h2, h3⟩ := hst b hb'
      refine ⟨h1, fun o ho => ?_, fun hf o ho => (hk.ext b o (h3 hf o ho)).1⟩
      rcases hS b o ho with h | h
      · exact h2 o h
      · have := hat.lt hb'; omega
  · by_cases he : i = id
    · simp [he] at h
    · by_cases he' : i' = id
      · simp [he'] at h'
      · simp only [if_neg he] at h
        simp only [if_neg he'] at h'
        exact hM.dist i i' r r' l l' b h h' hne hl hl' hb

theorem bel_own {w w' : World} {B : Base} {own : Nat → Prop} (hbh : B.n ≤ w.heap.size) (hown : ∀ b, own b → B.may b) (h : Bel ⟨w.heap.size, own⟩ w w') : Bel B w w' :=
  ⟨h.os, h.tape, h.output, h.size, fun k hk hn => h.block k (Nat.lt_of_lt_of_le hk hbh) (fun ho => (hown k ho).elim (fun h => by omega) hn)⟩

/-- The answer of a call that takes a slice: a row of its own. -/
theorem eat_end {w w' : World} {St St' Q : Stb} {β : Bet} {B : Base} {new : Nat} {M M0 : Nat → Option Row} (hp : Pre w St Q β B M new) {own : Nat → Prop} {ob' : Option Nat} {c : Value} {e : TypeId} {T : Ty} {ys : List T.den}
    (hM0 : MemRel w' St' Q β B M0) (hbel : Bel ⟨w.heap.size, own⟩ w w') (hown : ∀ b, own b → B.may b) (hk : Keep w St β Q w' St' β) (hnw : ∀ b o, St' b o → St b o ∨ B.may b) (hst : StOK w' St')
    (hrv : RelRV w' St' ⟨w.heap.size, own⟩ c (.own e T ys) ob') (hd : ∀ b, ob' = some b → ∀ i r0 l, M0 i = some r0 → β i = some l → l.b ≠ some b) :
    ∃ β', Good w St Q β B new c w' St' β' (.a (.c (.ow new ys.length))) (fun i => if i = new then some (.arr e T ys false) else M0 i) := by
  have hnew : β new = none := by simpa using hp.bn 0 (by omega)
  have hbet : ∀ (loc : Loc) id l, β id = some l → (fun i => if i = new then some loc else β i) id = some l := fun loc id l hl => by
    by_cases he : id = new
    · subst he; rw [hnew] at hl; cases hl
    · simp [he, hl]
  have hbnew : ∀ (loc : Loc) id, (fun i => if i = new then some loc else β i) id ≠ β id → new ≤ id ∧ id < new + 4 := fun loc id hid => by
    by_cases he : id = new
    · omega
    · exact absurd (by simp [he]) hid
  have fin : ∀ (loc : Loc), RelF w' St' Q (fun i => if i = new then some loc else β i) c (.a (.c (.ow new ys.length))) → RowAt w' St' Q (fun i => if i = new then some loc else β i) loc (.arr e T ys false) (Row.arr e T ys false).n →
      (∀ b, loc.b = some b → B.may b ∧ (∀ o, ¬ St' b o) ∧ ∀ i r0 l, M0 i = some r0 → β i = some l → l.b ≠ some b) →
      Good w St Q β B new c w' St' (fun i => if i = new then some loc else β i) (.a (.c (.ow new ys.length))) (fun i => if i = new then some (.arr e T ys false) else M0 i) := fun loc h1 h2 h3 =>
    ⟨bel_own hp.bh hown hbel, hk.trans ⟨fun _ _ h => ⟨h, rfl⟩, fun _ _ _ => rfl, hbet loc⟩, h1, hM0.addw hnew h2 h3 rfl, hst, hnw, hbnew loc⟩
  cases ob' with
  | none =>
    obtain ⟨rfl, rfl⟩ := hrv
    exact ⟨_, fin ⟨none, 0, T.w, 0⟩ ⟨_, if_pos rfl, .inl ⟨rfl, rfl, rfl⟩⟩ (rowNil e T false 0) (fun b hb => by cases hb)⟩
  | some b =>
    obtain ⟨cap, cur, rfl, hb, hh, hs, hx, hm, hrel, hno⟩ := hrv
    exact ⟨_, fin ⟨some b, cap, T.w, ys.length⟩ ⟨_, if_pos rfl, .inr ⟨b, rfl, rfl, Nat.le_refl _⟩⟩ (.arr e T ys false b cap cur rfl hh hs hx hm hrel)
      (fun b' hb' => by cases hb'; exact ⟨hb.elim (fun h => .inl (Nat.le_trans hp.bh h)) (hown b), hno, hd b rfl⟩)⟩

theorem prj_own {e : TypeId} {T : Ty} {ys : List T.den} : ∀ {rvs : List RV}, prjRs [.own e T] rvs = some ys → rvs = [.own e T ys]
  | [.own e' T' xs], h => by
    simp only [prjRs, prjR] at h
    split at h
    · rename_i he
      split at h
      · rename_i hT
        subst he; subst hT
        cases h
        rfl
      · cases h
    · cases h
  | [], h => by simp [prjRs] at h
  | [.d _], h => by simp [prjRs, prjR] at h
  | _ :: _ :: _, h => by simp [prjRs] at h

theorem fresh_of {w : World} {St Q : Stb} {β : Bet} {B : Base} {M m : Nat → Option Row} (hM : MemRel w St Q β B M) (hS : Sees m M) : ∀ (fs : List F) (cs : List Value), fs.all (freshA m) = true → All2 (RelF w St Q β) cs fs → ∀ c ∈ cs, Fresh w c
  | [], [], _, _, c, hc => by cases hc
  | f :: fs, c0 :: cs, h, ⟨h1, h2⟩, c, hc => by
    simp only [List.all_cons, Bool.and_eq_true] at h
    rcases List.mem_cons.1 hc with rfl | hc
    · intro b o s n cap he
      cases f with
      | tp xs => simp [freshA] at h
      | a x =>
        cases x with
        | ag l => obtain ⟨arr, e, _⟩ := (show RelA w St Q β c (.ag l) from h1); rw [e] at he; cases he
        | c x =>
          cases x with
          | sl T xs => simp [freshA] at h
          | em => simp [freshA] at h
          | jk => simp [freshA] at h
          | sc v => obtain ⟨e, hp⟩ := (show RelC w St Q β c (.sc v) from h1); rw [← e, he] at hp; cases hp
          | nl => rw [show c = _ from h1] at he; cases he
          | pt p =>
            cases p with
            | own id i j => obtain ⟨_, _, _, _, _, e⟩ := (show RelP w St Q β c (.own id i j) from h1); rw [e] at he; cases he
            | sh T d j => obtain ⟨_, _, _, e, _⟩ := (show RelP w St Q β c (.sh T d j) from h1); rw [e] at he; cases he
          | cl g ps => obtain ⟨arr, e, _⟩ := (show RelC w St Q β c (.cl g ps) from h1); rw [e] at he; cases he
          | nan k => obtain ⟨b, e, _⟩ := (show RelC w St Q β c (.nan k) from h1); rw [e] at he; cases he
          | ow id len =>
            have h3 := h.1
            simp only [freshA] at h3
            split at h3
            · rename_i e T xs fz hm
              obtain ⟨fz', hM'⟩ := hS.arr hm
              obtain ⟨loc, hb, hl⟩ := (show RelC w St Q β c (.ow id len) from h1)
              rcases hl with ⟨_, _, e2⟩ | ⟨b', hlb, e2, _⟩
              · rw [e2] at he; cases he
              · obtain ⟨cap0, ⟨hb0, _⟩ | ⟨b2, cur, hb0, hh, _⟩⟩ := hM.arr hM'
                · rw [hb] at hb0; cases hb0; cases hlb
                · rw [hb] at hb0; cases hb0
                  cases hlb
                  rw [e2] at he
                  cases he
                  exact ⟨cur, e, hh⟩
            · cases h3
    · exact fresh_of hM hS fs cs h.2 h2 c hc
  | [], _ :: _, _, h, _, _ => h.elim
  | _ :: _, [], _, h, _, _ => h.elim

theorem callEat_sound {G : World → Prop} {m : Nat → Option Row} {new : Nat} {f : FuncId} {sg : Sig} {args : List F} {K : OutM → Option R} (heat : sg.eat = true) (hcall : ∀ args rvs, E.call f args = some rvs → CallAny E.P G f sg args rvs) (h : eatK E m new f sg args K = some r) :
    ∃ out : OutM, K out = some r ∧ out.rows.length ≤ 4 ∧ (∀ id x, out.upd = some (id, x) → (m id).isSome = true) ∧ out.ups = [] ∧ (∃ as_ rvs, E.call f as_ = some rvs) ∧ ∀ (w : World) (St Q : Stb) (β : Bet) (B : Base) (M : Nat → Option Row), (∀ w', Bel B w w' → G w') → Pre w St Q β B M new → SeesX (!out.ups.isEmpty || out.upd.isSome) m M →
      ∀ (cargs : Array Value), All2 (RelF w St Q β) cargs.toList args →
        Calls E.P f cargs w fun e w' => ∃ v St' β', e = .returned v ∧ Good w St Q β B new v w' St' β' out.v (appM M new out) := by
  unfold eatK at h
  split at h
  · rename_i T0 Ts x xs e T _ _
    split at h
    · rename_i as_ has0
      have hfr : xs.all (freshA m) = true ∧ argK m Ts xs = some as_ := by
        cases hb : xs.all (freshA m) with
        | false => rw [hb] at has0; cases has0
        | true => rw [hb] at has0; exact ⟨rfl, has0⟩
      obtain ⟨hfr, has⟩ := hfr
      split at h
      · -- nil
        simp only [callT] at h
        cases hc : E.call f (inj (.sl T) [] :: as_) with
        | none => rw [hc] at h; cases h
        | some rvs =>
          rw [hc] at h
          simp only [Option.bind_some] at h
          cases hd : prjRs [.own e T] rvs with
          | none => rw [hd] at h; cases h
          | some ys =>
            rw [hd] at h
            simp only [Option.bind_some] at h
            have hrvs := prj_own hd
            refine ⟨_, h, by simp, (fun _ _ hx => by cases hx), rfl, ⟨_, _, hc⟩, fun w St Q β B M hG hp hS cargs hargs => ?_⟩
            obtain ⟨l⟩ := cargs
            cases l with
            | nil => exact hargs.elim
            | cons c0 cs =>
              have hC := hcall _ _ hc
              unfold CallAny at hC
              rw [heat] at hC
              have hrel := argK_rel hp hS.sees (QcOK.all hp (argIds m xs)) has (fun _ h => h) hargs.2
              have hpF := frz_pre hp (argIds m xs)
              have hnil : c0 = .slice none 0 0 := hargs.1
              refine (hC e T [] ys as_ rfl hrvs w _ _ none (fun _ => False) c0 cs (fun b => ⟨False.elim, fun h => by cases h⟩) (fun w' hb => hG w' (bel_own hp.bh (fun _ h => h.elim) hb)) hpF.st (fun b o h => ⟨h, fun h => h⟩) ⟨hnil, rfl⟩ (fresh_of hp.mem hS.sees _ _ hfr hargs.2) hrel).mono fun en w' => ?_
              rintro ⟨c, ob', St1, rfl, hbel, hsub, hnewst, hst1, hrv⟩
              have hcell : ∀ b o, b < w.heap.size → w'.cell? ⟨b, o, none⟩ = w.cell? ⟨b, o, none⟩ := fun b o hb => World.cell?_of_block (w := w) (hbel.block b hb (fun h => h))
              have hk1 : Keep w (stF β M St (argIds m xs)) β Q w' St1 β := ⟨fun b o h => ⟨hsub b o h, hcell b o (hpF.st b o h)⟩, fun b o h => hcell b o (Nat.lt_of_lt_of_le (hp.qb b o h).1 hp.bh), fun _ _ h => h⟩
              have hM1 := hpF.mem.mono hk1 (fun b hb => hbel.block b hb (fun h => h)) hnewst
              obtain ⟨β', hg⟩ := eat_end hp hM1 hbel (fun _ h => h.elim) ((frz_keep w St Q β M (argIds m xs)).trans hk1) (fun b o h => by
                rcases hnewst b o h with h | h
                · exact frz_new hp.mem _ b o h
                · exact .inr (.inl (by have := hp.bh; omega))) hst1 hrv (fun b hb i r0 l hi hl hlb => by
                subst hb
                obtain ⟨cap, cur, _, h1, _⟩ := hrv
                obtain ⟨l0, n, hb0, hat, _⟩ := hpF.mem.row _ _ hi
                rw [hl] at hb0; cases hb0
                have := hat.lt hlb
                exact h1.elim (fun h => by simp only at h; omega) (fun h => h.elim))
              refine ⟨_, St1, β', rfl, ?_⟩
              have e1 : appM M new { v := F.a (A.c (C.ow new ys.length)), rows := [Row.arr e T ys false], fz := argIds m xs } = fun i => if i = new then some (.arr e T ys false) else frz M (argIds m xs) i := by
                funext i
                simp only [appM, List.length_cons, List.length_nil, Nat.zero_add, frz]
                by_cases hi : i = new
                · subst hi; simp
                · rw [if_neg (by omega), if_neg hi]; simp [lookU]
              rw [e1]
              exact hg
      · rename_i id len
        split at h
        · rename_i e' T' l hm
          cases hck : (Nat.beq e' e && !(argIds m xs).any (Nat.beq id)) with
          | false => rw [hck] at h; cases h
          | true =>
            rw [hck] at h
            simp only [cond_true] at h
            simp only [Bool.and_eq_true, Bool.not_eq_true'] at hck
            obtain rfl := Nat.eq_of_beq_eq_true hck.1
            have hnin : id ∉ argIds m xs := fun hin => by
              have := hck.2
              rw [List.any_eq_false] at this
              exact absurd (Nat.beq_refl id) (by simpa using this id hin)
            split at h
            · rename_i hTT
              subst hTT
              simp only [callT] at h
              have hcast : castL (rfl : T' = T') (l.take len) = l.take len := rfl
              rw [hcast] at h
              cases hc : E.call f (inj (.sl T') (l.take len) :: as_) with
              | none => rw [hc] at h; cases h
              | some rvs =>
                rw [hc] at h
                simp only [Option.bind_some] at h
                cases hd : prjRs [.own e' T'] rvs with
                | none => rw [hd] at h; cases h
                | some ys =>
                  rw [hd] at h
                  simp only [Option.bind_some] at h
                  have hrvs := prj_own hd
                  refine ⟨_, h, by simp, (fun _ _ hx => by cases hx; rw [hm]; rfl), rfl, ⟨_, _, hc⟩, fun w St Q β B M hG hp hS cargs hargs => ?_⟩
                  obtain ⟨lc⟩ := cargs
                  cases lc with
                  | nil => exact hargs.elim
                  | cons c0 cs =>
                    have hC := hcall _ _ hc
                    unfold CallAny at hC
                    rw [heat] at hC
                    have hM' : M id = some (.arr e' T' l false) := (hS _ _ hm).elim (fun h => h) (fun h => by cases h.1)
                    have hpF := frz_pre hp (argIds m xs)
                    have hMF : frz M (argIds m xs) id = some (.arr e' T' l false) := by unfold frz; rw [if_neg hnin]; exact hM'
                    obtain ⟨loc, hlb, hcc⟩ := (show RelC w St Q β c0 (.ow id len) from hargs.1)
                    obtain ⟨loc2, n2, hb2, hat2, hst2⟩ := hpF.mem.row _ _ hMF
                    rw [hlb] at hb2; cases hb2
                    have hmay : ∀ b, loc.b = some b → B.may b := fun b hb => (hst2 b hb).1
                    have hsz : ∀ b, loc.b = some b → b < w.heap.size := fun b hb => hat2.lt hb
                    have hQc : QcOK St Q β M (argIds m xs) (fun b _ => b < w.heap.size ∧ ¬ loc.b = some b) := by
                      have h0 := QcOK.all hp (argIds m xs)
                      refine ⟨fun b o h => ⟨h0.q b o h, fun hb => ?_⟩, fun b o h => ⟨h0.s b o h, fun hb => ?_⟩, fun i r0 l0 b o hi hr0 hl0 hlb0 => ⟨h0.r i r0 l0 b o hi hr0 hl0 hlb0, fun hb => ?_⟩⟩
                      · have := hp.qb b o h
                        exact (hmay b hb).elim (fun h => by have := this.1; omega) this.2
                      · have := (hst2 b hb).2.1 o (.inl h)
                        cases this.1
                      · exact hp.mem.dist i id _ _ _ _ b hr0 hM' (fun e => hnin (e ▸ hi)) hl0 hlb hlb0 hb
                    have hrel := argK_rel hp hS.sees hQc has (fun _ h => h) hargs.2
                    have hrv0 : RelRV w (stF β M St (argIds m xs)) ⟨w.heap.size, fun b => loc.b = some b⟩ c0 (.own e' T' (l.take len)) loc.b := by
                      obtain ⟨cap0, hrow⟩ := hpF.mem.arr hMF
                      rcases hrow with ⟨hb0, rfl⟩ | ⟨b, cur, hb0, hh, hs, hx, hmx, hrl, hB, hst, _⟩
                      · rw [hlb] at hb0; cases hb0
                        rcases hcc with ⟨_, rfl, rfl⟩ | ⟨b, hlb', _⟩
                        · exact ⟨rfl, by simp⟩
                        · cases hlb'
                      · rw [hlb] at hb0; cases hb0
                        rcases hcc with ⟨h0, _⟩ | ⟨b', hlb', rfl, hle0⟩
                        · cases h0
                        · cases hlb'
                          simp only at hle0
                          refine ⟨cap0, cur, by rw [List.length_take, Nat.min_eq_left hle0], .inr rfl, hh, hs, by rw [List.length_take]; omega, hmx, hrl.take len, fun o ho => ?_⟩
                          cases (hst o ho).1
                    refine (hC e' T' (l.take len) ys as_ rfl hrvs w _ _ loc.b (fun b => loc.b = some b) c0 cs (fun b => Iff.rfl) (fun w' hb => hG w' (bel_own hp.bh hmay hb)) hpF.st (fun b o h => h) hrv0 (fresh_of hp.mem hS.sees _ _ hfr hargs.2) hrel).mono fun en w' => ?_
                    rintro ⟨c, ob', St1, rfl, hbel, hsub, hnewst, hst1, hrv⟩
                    have hcell : ∀ b o, b < w.heap.size → ¬ loc.b = some b → w'.cell? ⟨b, o, none⟩ = w.cell? ⟨b, o, none⟩ := fun b o hb hn => World.cell?_of_block (w := w) (hbel.block b hb hn)
                    have hk1 : Keep w (stF β M St (argIds m xs)) β Q w' St1 β := ⟨fun b o h => ⟨hsub b o h, hcell b o (hpF.st b o h) (fun hb => by
                        have := (hst2 b hb).2.1 o h
                        cases this.1)⟩, fun b o h => hcell b o (Nat.lt_of_lt_of_le (hp.qb b o h).1 hp.bh) (fun hb => by
                        have := hp.qb b o h
                        exact (hmay b hb).elim (fun h => by have := this.1; omega) this.2), fun _ _ h => h⟩
                    have hM1 := hpF.mem.off hMF hlb (fun b hb hn => hbel.block b hb hn) hk1 hnewst
                    obtain ⟨β', hg⟩ := eat_end hp hM1 hbel hmay ((frz_keep w St Q β M (argIds m xs)).trans hk1) (fun b o h => by
                      rcases hnewst b o h with h | h
                      · exact frz_new hp.mem _ b o h
                      · exact .inr (.inl (by have := hp.bh; omega))) hst1 hrv (fun b hb i r0 l0 hi hl0 hlb0 => by
                      subst hb
                      by_cases hii : i = id
                      · simp [hii] at hi
                      · simp only [if_neg hii] at hi
                        obtain ⟨cap, cur, _, h1, _⟩ := hrv
                        rcases h1 with h1 | h1
                        · obtain ⟨l1, n, hb0, hat, _⟩ := hpF.mem.row _ _ hi
                          rw [hl0] at hb0; cases hb0
                          have := hat.lt hlb0
                          simp only at h1; omega
                        · exact hpF.mem.dist i id _ _ _ _ b hi hMF hii hl0 hlb hlb0 h1)
                    refine ⟨_, St1, β', rfl, ?_⟩
                    have e1 : appM M new { v := F.a (A.c (C.ow new ys.length)), rows := [Row.arr e' T' ys false], upd := some (id, none), fz := argIds m xs } = fun i => if i = new then some (.arr e' T' ys false) else if i = id then none else frz M (argIds m xs) i := by
                      funext i
                      simp only [appM, List.length_cons, List.length_nil, Nat.zero_add, frz]
                      by_cases hi : i = new
                      · subst hi; simp
                      · rw [if_neg (by omega), if_neg hi]
                        by_cases hii : i = id
                        · subst hii; simp [lookU]
                        · simp [lookU, hii]
                    rw [e1]
                    exact hg
            · cases h
        · cases h
      · cases h
    · cases h
  · cases h

theorem callK_sound {G : World → Prop} (hcall : ∀ f s args rvs, E.sg f = some s → E.call f args = some rvs → CallAny E.P G f s args rvs) {m : Nat → Option Row} {new : Nat} {f : FuncId} {args : List F} {K : OutM → Option R} (h : callK E m new f args K = some r) :
    ∃ out : OutM, K out = some r ∧ out.rows.length ≤ 4 ∧ (∀ id x, out.upd = some (id, x) → (m id).isSome = true) ∧ (∀ x ∈ out.ups, (m x.1).isSome = true) ∧ (∃ as_ rvs, E.call f as_ = some rvs) ∧ ∀ (w : World) (St Q : Stb) (β : Bet) (B : Base) (M : Nat → Option Row), (∀ w', Bel B w w' → G w') → Pre w St Q β B M new → SeesX (!out.ups.isEmpty || out.upd.isSome) m M →
      ∀ (cargs : Array Value), All2 (RelF w St Q β) cargs.toList args →
        Calls E.P f cargs w fun e w' => ∃ v St' β', e = .returned v ∧ Good w St Q β B new v w' St' β' out.v (appM M new out) := by
  by_cases hea : ∀ s, E.sg f = some s → s.eat = false
  · by_cases hio : ∀ s, E.sg f = some s → s.ios = []
    · obtain ⟨out, h1, h2, h3, h4, h5, h6⟩ := callK0_sound (G := G) (fun f s args rvs hs hf hi hc => by
        have := hcall f s args rvs hs hc
        unfold CallAny at this
        rw [hf, hi] at this
        exact this) hio hea h
      exact ⟨out, h1, h2, (by rw [h3]; intro _ _ hx; cases hx), (by rw [h4]; intro x hx; cases hx), h5, fun w St Q β B M hG hp hS => h6 w St Q β B M (hG w (Bel.refl _ _)) hp hS.sees⟩
    · unfold callK at h
      split at h
      · rename_i sg hsg
        rw [hea sg hsg] at h
        simp only at h
        have hne : sg.ios ≠ [] := fun he => hio fun s hs => by rw [hsg] at hs; cases hs; exact he
        split at h
        · obtain ⟨out, h1, h2, h3, ⟨h4, h4'⟩, h5, h6⟩ := callIO_sound (G := G) hne (hea sg hsg) (fun args rvs hc => hcall f sg args rvs hsg hc) h
          refine ⟨out, h1, h2, (by rw [h3]; intro _ _ hx; cases hx), h4', h5, fun w St Q β B M hG hp hS => h6 w St Q β B M hG hp ?_⟩
          have he : out.ups.isEmpty = false := by cases hu : out.ups with
            | nil => exact absurd hu h4
            | cons => rfl
          rw [he] at hS
          exact SeesX.weak (b := out.upd.isSome) hS
        · rename_i he; exact absurd he hne
      · cases h
  · unfold callK at h
    split at h
    · rename_i sg hsg
      have heat : sg.eat = true := by
        cases he : sg.eat with
        | true => rfl
        | false => exact absurd (fun s hs => by rw [hsg] at hs; cases hs; exact he) hea
      rw [heat] at h
      obtain ⟨out, h1, h2, h3, h4, h5, h6⟩ := callEat_sound (G := G) heat (fun args rvs hc => hcall f sg args rvs hsg hc) h
      exact ⟨out, h1, h2, h3, (by rw [h4]; intro x hx; cases hx), h5, h6⟩
    · cases h

end
end Go.Proofs.Ytefhcmkiachphaa.Ab
end
section
/- Each operation of the machine does what Go's does: all of them. -/
set_option linter.unusedVariables false
set_option linter.unusedSimpArgs false
namespace Go.Proofs.Ytefhcmkiachphaa.Ab
open Go Go.RowKit

/-- The function has a body of Go. -/
def Enterable (P : Program) (f : FuncId) : Prop := ∃ fn, P.funcs[f]? = some fn ∧ fn.body.isNone = false ∧ (fn.name == "runtime.NumGoroutine") = false

section
variable {P : Program} {R : Type} {r : R} {E : Env} {G : World → Prop}

theorem OpOK.mem {m : Nat → Option Row} {new : Nat} {ρ : Operand → F} {o : Oper} {out : OutM}
    (h : ∀ (w : World) (St Q : Stb) (β : Bet) (B : Base) (M : Nat → Option Row) (a : Act), G w → Pre w St Q β B M new → (∀ x ∈ o.op.operands, RelF w St Q β (a.eval x) (ρ x)) → SeesX (isE2 o) m M →
      ∃ v w' St' β', (execOp a.eval o).run P w = .ok (.value v) w' ∧ Good w St Q β B new v w' St' β' out.v (appM M new out)) (hu : out.ups = [] := by rfl) : OpOK P G m new ρ o out := by
  intro w St Q β B M a hG hp hx hm K Qx hK
  rw [hu] at hm
  obtain ⟨v, w', St', β', hr, hg⟩ := h w St Q β B M a (hG w (Bel.refl _ _)) hp hx (SeesX.weak (b := false || out.upd.isSome) (by simpa using hm))
  unfold Oper.wp
  rw [hr]
  exact hK v w' St' β' hg

/-- What is shown of each operation. -/
def Sound (P : Program) (G : World → Prop) (m : Nat → Option Row) (new : Nat) (ρ : Operand → F) (o : Oper) (K : OutM → Option R) (r : R) : Prop :=
  ∃ out, K out = some r ∧ out.rows.length ≤ 4 ∧ (mayW o = false → out.upd = none) ∧ (∀ id x, out.upd = some (id, x) → (m id).isSome = true) ∧ (∀ x ∈ out.ups, (m x.1).isSome = true) ∧ (mayW o = false → out.ups = []) ∧ OpOK P G m new ρ o out

theorem Sound.pure {m : Nat → Option Row} {new : Nat} {ρ : Operand → F} {o : Oper} {K : OutM → Option R} {x : F} (hK : K { v := x } = some r)
    (h : ∀ (w : World) (St Q : Stb) (β : Bet) (B : Base) (M : Nat → Option Row) (a : Act), Pre w St Q β B M new → (∀ x ∈ o.op.operands, RelF w St Q β (a.eval x) (ρ x)) → Sees m M →
      ∃ v, (execOp a.eval o).run P w = .ok (.value v) w ∧ RelF w St Q β v x) : Sound P G m new ρ o K r :=
  ⟨_, hK, by simp, fun _ => rfl, (fun _ _ h => by cases h), (fun _ h => by cases h), (fun _ => rfl), OpOK.pure h⟩

theorem all2_map {w : World} {St Q : Stb} {β : Bet} {ev : Operand → Value} {ρ : Operand → F} : ∀ (l : List Operand), (∀ x ∈ l, RelF w St Q β (ev x) (ρ x)) → All2 (RelF w St Q β) (l.map ev) (l.map ρ)
  | [], _ => trivial
  | x :: l, h => ⟨h x (List.mem_cons_self ..), all2_map l (fun y hy => h y (List.mem_cons_of_mem _ hy))⟩

theorem caps_rel {w : World} {St Q : Stb} {β : Bet} {ρ : Operand → F} {ev : Operand → Value} : ∀ (l : List Operand) (ps : List Pt), capsF (l.map ρ) = some ps →
    (∀ x ∈ l, RelF w St Q β (ev x) (ρ x)) → All2 (RelP w St Q β) (l.map ev) ps
  | [], ps, h, _ => by simp only [List.map_nil, capsF, Option.some.injEq] at h; subst h; trivial
  | x :: l, ps, h, hx => by
    have hx0 := hx x (List.mem_cons_self ..)
    simp only [List.map_cons] at h
    unfold capsF at h
    split at h
    · rename_i heq; cases heq
    · rename_i p r0 heq
      simp only [List.cons.injEq] at heq
      obtain ⟨e1, e2⟩ := heq
      subst e2
      split at h
      · rename_i ps' h2
        cases h
        rw [e1] at hx0
        exact ⟨hx0, caps_rel l ps' h2 (fun y hy => hx y (List.mem_cons_of_mem _ hy))⟩
      · cases h
    · cases h

theorem relO_map {w : World} {St Q : Stb} {β : Bet} {ev : Operand → Value} {ρ : Operand → F} (x : Option Operand) (h : ∀ y, x = some y → RelF w St Q β (ev y) (ρ y)) : RelO w St Q β (x.map ev) (x.map ρ) := by
  cases x with
  | none => trivial
  | some y => exact h y rfl

theorem rel_caps {w : World} {St Q : Stb} {β : Bet} : ∀ (l : List Value) (ps : List Pt), All2 (RelP w St Q β) l ps → All2 (RelF w St Q β) l (ps.map fun p => F.a (.c (.pt p)))
  | [], [], _ => trivial
  | _ :: l, _ :: ps, ⟨h1, h2⟩ => ⟨h1, rel_caps l ps h2⟩
  | [], _ :: _, h => h.elim
  | _ :: _, [], h => h.elim

theorem eqf_step {P : Program} {d : Nat} {xs ys : Array Value} {f : Field} {fs : List Field} {a b : Value} {r s : Bool} {w : World} (hn : (f.name != "_") = true) (ha : (part f.type xs f.offset).run P w = .ok a w) (hb : (part f.type ys f.offset).run P w = .ok b w) (he : (Op.equalIn d f.type a b).run P w = .ok r w) (hr : (Op.eqFields d xs ys fs).run P w = .ok s w) : (Op.eqFields d xs ys (f :: fs)).run P w = .ok (r && s) w := by
  have hn' : f.name ≠ "_" := by simpa using hn
  rw [Op.eqFields]
  simp only [if_pos hn', Sem.run_bind, ha, hb, he, Result.andThen_ok]
  cases r
  · simp
  · simpa using hr
/-- The value that lies in these cells. -/
def valOf (i : TI) (l : List Value) (c : Value) : Prop := if isAggD i.desc then c = .agg l.toArray else l = [c]
theorem valOf_ex (i : TI) (l : List Value) (h : isAggD i.desc = false → ∃ c, l = [c]) : ∃ c, valOf i l c := by
  unfold valOf
  cases ha : isAggD i.desc with
  | true => exact ⟨_, rfl⟩
  | false => obtain ⟨c, hc⟩ := h ha; exact ⟨c, by simpa using hc⟩
def EqOK (E : Env) (g : TypeId → List C → List C → Option Bool) (d : Nat) : Prop :=
  ∀ (t : TypeId) (xs ys : List C) (b : Bool), g t xs ys = some b → ∃ i, E.ti t = some i ∧ (isAggD i.desc = false → xs.length = 1 ∧ ys.length = 1) ∧ ∀ (w0 : World) (St Q : Stb) (β : Bet) (lx ly : List Value) (cx cy : Value), All2 (RelC w0 St Q β) lx xs → All2 (RelC w0 St Q β) ly ys → valOf i lx cx → valOf i ly cy →
    ∀ (D : Nat) (w : World), d ≤ D → (Op.equalIn D t cx cy).run E.P w = .ok b w
theorem all2_len {α β : Type} {R : α → β → Prop} : ∀ (l : List α) (m : List β), All2 R l m → l.length = m.length
  | [], [], _ => rfl
  | _ :: l, _ :: m, h => by rw [List.length_cons, List.length_cons, all2_len l m h.2]
  | [], _ :: _, h => h.elim
  | _ :: _, [], h => h.elim
theorem all2_drop {α β : Type} {R : α → β → Prop} : ∀ (n : Nat) (l : List α) (m : List β), All2 R l m → All2 R (l.drop n) (m.drop n)
  | 0, l, m, h => h
  | n + 1, [], [], _ => trivial
  | n + 1, _ :: l, _ :: m, h => all2_drop n l m h.2
  | _ + 1, [], _ :: _, h => h.elim
  | _ + 1, _ :: _, [], h => h.elim
theorem all2_take {α β : Type} {R : α → β → Prop} : ∀ (n : Nat) (l : List α) (m : List β), All2 R l m → All2 R (l.take n) (m.take n)
  | 0, l, m, h => trivial
  | n + 1, [], [], _ => trivial
  | n + 1, _ :: l, _ :: m, h => ⟨h.1, all2_take n l m h.2⟩
  | _ + 1, [], _ :: _, h => h.elim
  | _ + 1, _ :: _, [], h => h.elim
theorem eqFs_run {E : Env} (hti : ∀ t i, E.ti t = some i → TIok E.P t i) {g : TypeId → List C → List C → Option Bool} {d : Nat} (hg : EqOK E g d) : ∀ (fa : List Field) (xs ys : List C) (b : Bool), eqFs E g (fa.map fun f => (f.offset, f.type)) xs ys = some b → (∀ f ∈ fa, (f.name != "_") = true) →
    ∀ (w0 : World) (St Q : Stb) (β : Bet) (ax ay : Array Value), All2 (RelC w0 St Q β) ax.toList xs → All2 (RelC w0 St Q β) ay.toList ys → ∀ (D : Nat) (w : World), d ≤ D → (Op.eqFields D ax ay fa).run E.P w = .ok b w
  | [], xs, ys, b, h, _, w0, St, Q, β, ax, ay, _, _, D, w, _ => by
    simp only [List.map_nil, eqFs, Option.some.injEq] at h
    subst h
    simp [Op.eqFields]
  | f :: fa, xs, ys, b, h, hn, w0, St, Q, β, ax, ay, hx, hy, D, w, hD => by
    simp only [List.map_cons, eqFs] at h
    split at h
    · rename_i j hj
      cases hle : (Nat.ble (f.offset + j.size) xs.length && Nat.ble (f.offset + j.size) ys.length) with
      | false => rw [hle] at h; cases h
      | true =>
        rw [hle] at h
        simp only [cond_true] at h
        simp only [Bool.and_eq_true, Nat.ble_eq] at hle
        split at h
        · rename_i p hp
          split at h
          · rename_i q hq
            cases h
            obtain ⟨i, hi, hlen, hrun⟩ := hg _ _ _ _ hp
            have : i = j := Option.some.inj (hi.symm.trans hj)
            subst this
            have hx1 := all2_take i.size _ _ (all2_drop f.offset _ _ hx)
            have hy1 := all2_take i.size _ _ (all2_drop f.offset _ _ hy)
            have hone : ∀ (l : List Value) (cs : List C), All2 (RelC w0 St Q β) l cs → cs.length = 1 → ∃ c, l = [c] := fun l cs hr h1 => by
              have := all2_len _ _ hr
              match l, this.trans h1 with
              | [c], _ => exact ⟨c, rfl⟩
            obtain ⟨cx, hcx⟩ := valOf_ex i _ (fun ha => hone _ _ hx1 (hlen ha).1)
            obtain ⟨cy, hcy⟩ := valOf_ex i _ (fun ha => hone _ _ hy1 (hlen ha).2)
            have lx := all2_len _ _ hx
            have ly := all2_len _ _ hy
            refine eqf_step (hn f (List.mem_cons_self ..)) (run_part (hti _ _ hj) (by omega) hcx w) (run_part (hti _ _ hj) (by omega) hcy w) (hrun w0 St Q β _ _ cx cy hx1 hy1 hcx hcy D w hD) ?_
            exact eqFs_run hti hg fa xs ys q hq (fun f hf => hn f (List.mem_cons_of_mem _ hf)) w0 St Q β ax ay hx hy D w hD
          · cases h
        · cases h
    · cases h
theorem eqT_run {E : Env} (hti : ∀ t i, E.ti t = some i → TIok E.P t i) : ∀ d : Nat, EqOK E (eqT E d) d
  | 0 => fun t xs ys b h => by cases h
  | d + 1 => fun t xs ys b h => by
    unfold eqT at h
    split at h
    · rename_i i hi
      refine ⟨i, hi, ?_⟩
      obtain ⟨dd, j, h1, _, _, _, _, h6⟩ := hti _ _ hi
      split at h
      · rename_i fs hd
        cases hok : eqOkP E.P t with
        | false => rw [hok] at h; cases h
        | true =>
          rw [hok] at h
          simp only [cond_true] at h
          unfold eqOkP at hok
          simp only [Bool.and_eq_true, Bool.not_eq_true'] at hok
          obtain ⟨⟨k1, k2⟩, k3⟩ := hok
          refine ⟨fun ha => (by rw [hd] at ha; cases ha), fun w0 St Q β lx ly cx cy hx hy vx vy D w hD => ?_⟩
          unfold valOf at vx vy
          rw [hd] at vx vy h6
          simp only [isAggD, if_true] at vx vy
          subst vx vy
          obtain ⟨fa, rfl, hfa⟩ := h6
          obtain ⟨D', rfl⟩ : ∃ D', D = D' + 1 := ⟨D - 1, by omega⟩
          have hfo : E.P.fieldsOf t = fa := by simp [Program.fieldsOf, h1]
          rw [run_equalIn_agg w D' t _ _ (by rw [hfo]; exact h1) k2, hfo]
          rw [hfo] at k1
          rw [← hfa] at h
          refine eqFs_run hti (eqT_run hti d) fa.toList xs ys b h (fun f hf => ?_) w0 St Q β _ _ (by simpa using hx) (by simpa using hy) D' w (by omega)
          have := Array.all_eq_true_iff_forall_mem.1 k1 f (by simpa using hf)
          exact this
      · rename_i hd
        split at h
        · rename_i a b'
          cases h
          refine ⟨fun _ => ⟨rfl, rfl⟩, fun w0 St Q β lx ly cx cy hx hy vx vy D w hD => ?_⟩
          unfold valOf at vx vy
          rw [hd] at vx vy h6
          simp only [isAggD, Bool.false_eq_true, if_false] at vx vy
          subst vx vy
          rw [show cx = _ from hx.1.1, show cy = _ from hy.1.1]
          obtain ⟨D', rfl⟩ : ∃ D', D = D' + 1 := ⟨D - 1, by omega⟩
          rw [show dd = _ from h6] at h1
          exact run_equalIn_string w D' t a b' h1
        · cases h
      · rename_i k hd
        split at h
        · rename_i k1 a k2 b'
          split at h
          · rename_i hk
            cases h
            subst hk
            refine ⟨fun _ => ⟨rfl, rfl⟩, fun w0 St Q β lx ly cx cy hx hy vx vy D w hD => ?_⟩
            unfold valOf at vx vy
            rw [hd] at vx vy h6
            simp only [isAggD, Bool.false_eq_true, if_false] at vx vy
            subst vx vy
            rw [show cx = _ from hx.1.1, show cy = _ from hy.1.1]
            obtain ⟨D', rfl⟩ : ∃ D', D = D' + 1 := ⟨D - 1, by omega⟩
            rw [show dd = _ from h6] at h1
            exact run_equalIn_int w D' t k1 k a b' h1
          · cases h
        · cases h
      · rename_i hd
        split at h
        · rename_i a b'
          cases h
          refine ⟨fun _ => ⟨rfl, rfl⟩, fun w0 St Q β lx ly cx cy hx hy vx vy D w hD => ?_⟩
          unfold valOf at vx vy
          rw [hd] at vx vy h6
          simp only [isAggD, Bool.false_eq_true, if_false] at vx vy
          subst vx vy
          rw [show cx = _ from hx.1.1, show cy = _ from hy.1.1]
          obtain ⟨D', rfl⟩ : ∃ D', D = D' + 1 := ⟨D - 1, by omega⟩
          rw [show dd = _ from h6] at h1
          exact run_equalIn_bool' w D' t a b' h1
        · cases h
      · cases h
    · cases h
theorem eqK_sound {E : Env} {R : Type} {r : R} (hti : ∀ t i, E.ti t = some i → TIok E.P t i) {op : BinOp} {t : TypeId} {xs ys : List C} {K : Out → Option R} (h : eqK E op t xs ys K = some r) :
    ∃ v, K (outV v) = some r ∧ plain v = true ∧ ∀ (xo yo : Operand) (cx cy : Value) (w0 : World) (St Q : Stb) (β : Bet), RelF w0 St Q β cx (.a (.ag xs)) → RelF w0 St Q β cy (.a (.ag ys)) →
      ∀ w, ((do eqGuard op t xo yo cx cy; binOp op t cx cy) : Sem Value).run E.P w = .ok v w := by
  unfold eqK at h
  split at h
  · rename_i i hi
    cases hc : (isAggD i.desc && eqOkP E.P t) with
    | false => rw [hc] at h; cases h
    | true =>
      rw [hc] at h
      simp only [cond_true] at h
      simp only [Bool.and_eq_true] at hc
      split at h
      · rename_i b hb
        obtain ⟨i', hi', _, hrun⟩ := eqT_run hti 8 _ _ _ _ hb
        have : i' = i := Option.some.inj (hi'.symm.trans hi)
        subst this
        have key : ∀ (cx cy : Value) (w0 : World) (St Q : Stb) (β : Bet), RelF w0 St Q β cx (.a (.ag xs)) → RelF w0 St Q β cy (.a (.ag ys)) → ∃ ax ay : Array Value, cx = .agg ax ∧ cy = .agg ay ∧ ∀ w, (Op.equalIn 10000 t (.agg ax) (.agg ay)).run E.P w = .ok b w := fun cx cy w0 St Q β hx hy => by
          obtain ⟨ax, rfl, hax⟩ := hx
          obtain ⟨ay, rfl, hay⟩ := hy
          refine ⟨ax, ay, rfl, rfl, fun w => hrun w0 St Q β _ _ _ _ hax hay ?_ ?_ 10000 w (by omega)⟩
          · unfold valOf; rw [hc.1]; simp
          · unfold valOf; rw [hc.1]; simp
        have hguard : E.P.eqGuardType E.P.depth t = false := by
          have := hc.2
          unfold eqOkP at this
          simp only [Bool.and_eq_true, Bool.not_eq_true'] at this
          exact this.2
        split at h
        · refine ⟨_, h, rfl, fun xo yo cx cy w0 St Q β hx hy w => ?_⟩
          obtain ⟨ax, ay, rfl, rfl, he⟩ := key cx cy w0 St Q β hx hy
          simp only [Sem.run_bind, run_eqGuard_agg w _ t xo yo ax ay hguard, Result.andThen_ok, run_eql_struct, he]
        · refine ⟨_, h, rfl, fun xo yo cx cy w0 St Q β hx hy w => ?_⟩
          obtain ⟨ax, ay, rfl, rfl, he⟩ := key cx cy w0 St Q β hx hy
          simp only [Sem.run_bind, run_eqGuard_agg w _ t xo yo ax ay hguard, Result.andThen_ok, run_neq_struct, he]
        · cases h
      · cases h
  · cases h
/-! ### Floating-point numbers -/
theorem fltArg_rel {w : World} {St Q : Stb} {β : Bet} {c : Value} : ∀ {x : F} {a : FloatKind × Option Nat}, fltArg x = some a → RelF w St Q β c x →
    (∀ n, a.2 = some n → c = .float a.1 n) ∧ (a.2 = none → ∃ b, c = .float a.1 b ∧ ∀ y, a.1.format.order b y = none ∧ a.1.format.order y b = none)
  | x, a, h, hr => by
    unfold fltArg at h
    split at h
    · cases h
      exact ⟨fun n hn => (by cases hn), fun _ => hr⟩
    · cases h
      exact ⟨fun n hn => (by cases hn; exact (rel_sc hr).1), fun hn => (by cases hn)⟩
    · cases h
theorem fltCmp_run {P : Program} {op : BinOp} {k : FloatKind} {m n : Nat} {b : Bool} {c : Option Ordering} (hc : k.format.order m n = c) (hf : fltFn op k = none) (h : fltCmp op c = some b) (t : TypeId) (w : World) : (binOp op t (.float k m) (.float k n)).run P w = .ok (.bool b) w := by
  subst hc
  cases op <;> simp [fltCmp, fltFn] at h hf <;> subst h <;> simp [binOp, Op.floatCmp]
theorem fltCmp_fn {op : BinOp} {k : FloatKind} {b : Bool} {c : Option Ordering} (h : fltCmp op c = some b) : fltFn op k = none := by
  cases op <;> simp [fltCmp, fltFn] at h ⊢
theorem nan_read (t : Nat) : ∃ s f, FloatKind.f64.format.read (Question.cut (.nanBits .f64 0 0) t) = Ieee.Datum.nan s f := by
  have e : Question.cut (.nanBits .f64 0 0) t = (t % 2) * 2 ^ 63 + 0x7ff0000000000000 + 1 + (t / 2) % (2 ^ 52 - 1) := rfl
  rw [e]
  have h1 : Ieee.Format.signWeight FloatKind.f64.format = 9223372036854775808 := by decide
  have h2 : Ieee.Format.binade FloatKind.f64.format = 4503599627370496 := by decide
  have h3 : Ieee.Format.infRung FloatKind.f64.format = 9218868437227405312 := by decide
  generalize hw : t % 2 * 2 ^ 63 + 0x7ff0000000000000 + 1 + t / 2 % (2 ^ 52 - 1) = w
  have hr : w % 9223372036854775808 = 9218868437227405313 + t / 2 % (2 ^ 52 - 1) := by omega
  have hu : t / 2 % (2 ^ 52 - 1) < 2 ^ 52 - 1 := Nat.mod_lt _ (by decide)
  unfold Ieee.Format.read
  simp only [h1, h2, h3, hr]
  rw [if_neg (by omega), if_neg (by omega), if_neg (by omega)]
  exact ⟨_, _, rfl⟩
theorem nan_order (t : Nat) (y : Nat) : FloatKind.f64.format.order (Question.cut (.nanBits .f64 0 0) t) y = none ∧ FloatKind.f64.format.order y (Question.cut (.nanBits .f64 0 0) t) = none := by
  obtain ⟨s, f, h⟩ := nan_read t
  unfold Ieee.Format.order
  rw [h]
  refine ⟨rfl, ?_⟩
  cases FloatKind.f64.format.read y <;> rfl
theorem fltFn_run {P : Program} {op : BinOp} {g : Nat → Nat → Option Nat} {m n : Nat} (hf : fltFn op .f64 = some g) (t : TypeId) (w : World) :
    (∀ r, g m n = some r → (binOp op t (.float .f64 m) (.float .f64 n)).run P w = .ok (.float .f64 r) w) ∧
    (g m n = none → (binOp op t (.float .f64 m) (.float .f64 n)).run P w = .ok (.float .f64 (Question.cut (.nanBits .f64 0 0) (w.tape w.drawn (.nanBits .f64 m n)))) w.drew) := by
  cases op <;> simp only [fltFn, Option.some.injEq, reduceCtorEq] at hf <;> subst hf <;>
    exact ⟨fun r hr => by simp [binOp, Op.floatArith, hr], fun hr => by simp [binOp, Op.floatArith, hr, choose, Sem.run, Question.forced]; rfl⟩
theorem flt_sound {m : Nat → Option Row} {new : Nat} {ρ : Operand → F} {dst : Option Tmp} {ty : TypeId} {pos : String} {after : Array Edge} {guard : Option (Nat × Bool)} {op : BinOp} {t yt : TypeId} {x y : Operand} {a b : FloatKind × Option Nat} {K : OutM → Option R}
    (ha : fltArg (ρ x) = some a) (hb : fltArg (ρ y) = some b) (h : fltK op a b (fun o => K o.many) = some r) : Sound P G m new ρ ⟨dst, .binOp op t x y yt, ty, pos, after, guard⟩ K r := by
  have hguard : ∀ (k : FloatKind) (p q : Nat) (w : World) (v : Value) (w' : World), (binOp op t (.float k p) (.float k q)).run P w = .ok v w' → ((do eqGuard op t x y (.float k p) (.float k q); binOp op t (.float k p) (.float k q)) : Sem Value).run P w = .ok v w' := fun k p q w v w' hr => by
    rw [eqGuard_basic _ _ _ _ _ _ rfl]
    simpa using hr
  obtain ⟨k, am⟩ := a
  obtain ⟨k', bm⟩ := b
  -- an answer that is known
  have hcmp : ∀ (c : Option Ordering) (v : Bool), k = k' → fltCmp op c = some v → (∀ p q : Nat, (∀ n, am = some n → p = n) → (∀ n, bm = some n → q = n) → (am = none → ∀ z, k.format.order p z = none ∧ k.format.order z p = none) → (bm = none → ∀ z, k.format.order q z = none ∧ k.format.order z q = none) → k.format.order p q = c) →
      K (outV (.bool v)).many = some r → Sound P G m new ρ ⟨dst, .binOp op t x y yt, ty, pos, after, guard⟩ K r := fun c v hk hc ho hK => by
    subst hk
    refine Sound.pure hK fun w St Q β B M act hpre hx hS => ?_
    have h1 := fltArg_rel ha (hx x (by simp [Op.operands]))
    have h2 := fltArg_rel hb (hx y (by simp [Op.operands]))
    have g1 : ∃ p, act.eval x = .float k p ∧ (∀ n, am = some n → p = n) ∧ (am = none → ∀ z, k.format.order p z = none ∧ k.format.order z p = none) := by
      cases ham : am with
      | none => subst ham; obtain ⟨p, e, hz⟩ := h1.2 rfl; exact ⟨p, e, fun n hn => (by cases hn), fun _ => hz⟩
      | some n => subst ham; exact ⟨n, h1.1 n rfl, fun n' hn => (by cases hn; rfl), fun hn => (by cases hn)⟩
    have g2 : ∃ q, act.eval y = .float k q ∧ (∀ n, bm = some n → q = n) ∧ (bm = none → ∀ z, k.format.order q z = none ∧ k.format.order z q = none) := by
      cases hbm : bm with
      | none => subst hbm; obtain ⟨p, e, hz⟩ := h2.2 rfl; exact ⟨p, e, fun n hn => (by cases hn), fun _ => hz⟩
      | some n => subst hbm; exact ⟨n, h2.1 n rfl, fun n' hn => (by cases hn; rfl), fun hn => (by cases hn)⟩
    obtain ⟨p, e1, i1, i2⟩ := g1
    obtain ⟨q, e2, j1, j2⟩ := g2
    refine ⟨.bool v, exec_v ?_, rfl, rfl⟩
    rw [e1, e2]
    exact hguard k p q w _ _ (fltCmp_run (ho p q i1 j1 i2 j2) (fltCmp_fn hc) hc t w)
  unfold fltK at h
  simp only [ifs] at h
  split at h
  · rename_i k1 m1 k2 n1 e1 e2
    cases e1; cases e2
    split at h
    · rename_i hk
      subst hk
      split at h
      · rename_i g hg
        cases k with
        | f32 => cases h
        | f64 =>
          simp only at h
          split at h
          · rename_i hnone
            have hgn : g m1 n1 = none := by simpa using hnone
            refine ⟨_, h, by simp [nanV, Out.many], fun _ => rfl, (fun _ _ h => by cases h), (fun _ h => by cases h), (fun _ => rfl), ?_⟩
            intro w St Q β B M act hG hp hx hS K' Qx hK
            have h1 := (fltArg_rel ha (hx x (by simp [Op.operands]))).1 m1 rfl
            have h2 := (fltArg_rel hb (hx y (by simp [Op.operands]))).1 n1 rfl
            have hrun := (fltFn_run (P := P) hg t w).2 hgn
            unfold Oper.wp
            have he : (execOp act.eval ⟨dst, .binOp op t x y yt, ty, pos, after, guard⟩).run P w = .ok (.value (.float .f64 (Question.cut (.nanBits .f64 0 0) (w.tape w.drawn (.nanBits .f64 m1 n1))))) w.drew := by
              refine exec_v ?_
              rw [h1, h2]
              exact hguard .f64 m1 n1 w _ _ hrun
            rw [he]
            refine hK _ w.drew St β ?_
            rw [show appM M new (nanV FloatKind.f64).many = M from appM_same M new _]
            have hk : Keep w St β Q w.drew St β := ⟨fun _ _ h => ⟨h, rfl⟩, fun _ _ _ => rfl, fun _ _ h => h⟩
            exact ⟨(Bel.refl _ _).drew, hk, ⟨_, rfl, fun z => nan_order _ z⟩, hp.mem.mono hk (fun _ _ => rfl) (fun _ _ h => .inl h), hp.st, fun _ _ h => .inl h, fun id h => absurd rfl h⟩
          · rename_i hsome
            cases hgr : g m1 n1 with
            | none => rw [hgr] at h; cases h
            | some q =>
              rw [hgr] at h
              refine Sound.pure h fun w St Q β B M act hpre hx hS => ?_
              have h1 := (fltArg_rel ha (hx x (by simp [Op.operands]))).1 m1 rfl
              have h2 := (fltArg_rel hb (hx y (by simp [Op.operands]))).1 n1 rfl
              refine ⟨.float .f64 q, exec_v ?_, rfl, rfl⟩
              rw [h1, h2]
              exact hguard .f64 m1 n1 w _ _ ((fltFn_run (P := P) hg t w).1 q hgr)
      · split at h
        · rename_i v hv
          exact hcmp _ v rfl hv (fun p q hp hq _ _ => by rw [hp m1 rfl, hq n1 rfl]) h
        · cases h
    · cases h
  · rename_i k1 am1 k2 bm1 hne e1 e2
    cases e1; cases e2
    split at h
    · rename_i hk
      split at h
      · rename_i v hv
        refine hcmp none v hk hv (fun p q _ _ hp hq => ?_) h
        cases am with
        | none => exact (hp rfl q).1
        | some p' => cases bm with
          | none => exact (hq rfl p).2
          | some q' => exact (hne _ _ rfl rfl).elim
      · cases h
    · cases h
theorem scsF_run {w : World} {St Q : Stb} {β : Bet} : ∀ (xs : List F) (l vs : List Value), scsF xs = some vs → All2 (RelF w St Q β) l xs → l = vs
  | [], l, vs, h, hr => by
    cases l with
    | nil => cases h; rfl
    | cons x r => exact hr.elim
  | x :: xs, l, vs, h, hr => by
    unfold scsF at h
    split at h
    · cases h; cases l with
      | nil => rfl
      | cons y r => rename_i e; cases e
    · rename_i v r e
      cases e
      split at h
      · rename_i us hu
        cases h
        cases l with
        | nil => exact hr.elim
        | cons y r =>
          rw [scsF_run _ _ _ hu hr.2]
          have : y = v := (show RelF w St Q β y (.a (.c (.sc v))) from hr.1).1
          rw [this]
      · cases h
    · cases h
theorem extV_some {P : Program} {f : FuncId} {xs : List F} {v : Value} (h : extV P f xs = some v) : ∃ vs, scsF xs = some vs ∧ free P (callFunc f vs.toArray) = some (.value v) ∧ plain v = true := by
  unfold extV at h
  split at h
  · rename_i vs hvs
    split at h
    · rename_i u hu
      cases hp : plain u with
      | false => rw [hp] at h; cases h
      | true => rw [hp] at h; cases h; exact ⟨vs, hvs, hu, hp⟩
    · cases h
  · cases h

theorem arr1 {ρ : Operand → F} {a : Array Operand} {x : F} (h : a.toList.map ρ = [x]) : ∃ y, a = #[y] ∧ ρ y = x := by
  obtain ⟨l⟩ := a
  match l, h with
  | [y], h => exact ⟨y, rfl, by simpa using h⟩
theorem list1 {a : Array TypeId} {t : TypeId} (h : a.toList = [t]) : a = #[t] := by
  obtain ⟨l⟩ := a; simp at h; rw [h]
theorem arr2 {ρ : Operand → F} {a : Array Operand} {x z : F} (h : a.toList.map ρ = [x, z]) : ∃ y u, a = #[y, u] ∧ ρ y = x ∧ ρ u = z := by
  obtain ⟨l⟩ := a
  match l, h with
  | [y, u], h => simp at h; exact ⟨y, u, rfl, h.1, h.2⟩
theorem list2 {a : Array TypeId} {t u : TypeId} (h : a.toList = [t, u]) : a = #[t, u] := by
  obtain ⟨l⟩ := a; simp at h; rw [h]
theorem cons1 {ρ : Operand → F} {a : Array Operand} {x : F} {r : List F} (h : a.toList.map ρ = x :: r) : ∃ y l, a.toList = y :: l ∧ ρ y = x ∧ l.map ρ = r := by
  obtain ⟨l⟩ := a
  match l, h with
  | y :: l, h => simp at h; exact ⟨y, l, rfl, h.1, h.2⟩

theorem aop_sound (hti : ∀ t i, E.ti t = some i → TIok E.P t i) (hcall : ∀ f s args rvs, E.sg f = some s → E.call f args = some rvs → CallAny E.P G f s args rvs) (hent : ∀ f args rvs, E.call f args = some rvs → Enterable E.P f)
    {m : Nat → Option Row} {new : Nat} {ρ : Operand → F} {o : Oper} {K : OutM → Option R} (h : aopK E m new ρ o.op K = some r) : Sound E.P G m new ρ o K r := by
  obtain ⟨dst, op, ty, pos, after, guard⟩ := o
  simp only at h
  cases op with
  | move x => exact Sound.pure h fun w St Q β B M a hp hx hS => ⟨_, rfl, hx x (by simp [Op.operands])⟩
  | assign x => exact Sound.pure h fun w St Q β B M a hp hx hS => ⟨_, rfl, hx x (by simp [Op.operands])⟩
  | pick c x y =>
    simp only [aopK, ifs] at h
    split at h
    · rename_i t hc
      split at h
      · rename_i ht
        subst ht
        refine Sound.pure h fun w St Q β B M a hp hx hS => ⟨_, ?_, hx x (by simp [Op.operands])⟩
        have := hx c (by simp [Op.operands])
        rw [hc] at this
        obtain ⟨e, _⟩ := rel_sc this
        simp [execOp, e, asBool]
      · rename_i ht
        obtain rfl : t = false := by simpa using ht
        refine Sound.pure h fun w St Q β B M a hp hx hS => ⟨_, ?_, hx y (by simp [Op.operands])⟩
        have := hx c (by simp [Op.operands])
        rw [hc] at this
        obtain ⟨e, _⟩ := rel_sc this
        simp [execOp, e, asBool]
    · cases h
  | alloc t =>
    simp only [aopK] at h
    split at h
    · rename_i i hi
      cases hb : cellsOk (zeroCs i) with
      | false => rw [hb] at h; cases h
      | true =>
        rw [hb] at h
        refine ⟨_, h, by simp, fun _ => rfl, (fun _ _ h => by cases h), (fun _ h => by cases h), (fun _ => rfl), OpOK.mem fun w St Q β B M a hG hp hx hS => ?_⟩
        obtain ⟨St', β', hg⟩ := good_box hp (t := t) i.ty (cur := i.zero.cells) (absC_all w St Q β _) (cells_ok (absC_all w St Q β _) hb)
        rw [appM_row]
        refine ⟨_, _, St', β', exec_v ?_, hg⟩
        simp [Instr.alloc, run_zero (hti _ _ hi), run_newVar]
    · cases h
  | box t x =>
    simp only [aopK] at h
    split at h
    · rename_i i y hi hy
      cases hb : (Nat.beq y.cells.length i.size && cellsOk y.cells) with
      | false => rw [hb] at h; cases h
      | true =>
        rw [hb] at h
        simp only [Bool.and_eq_true] at hb
        refine ⟨_, h, by simp, fun _ => rfl, (fun _ _ h => by cases h), (fun _ h => by cases h), (fun _ => rfl), OpOK.mem fun w St Q β B M a hG hp hx hS => ?_⟩
        have hv := hx x (by simp [Op.operands])
        rw [hy] at hv
        have hv : RelA w St Q β (a.eval x) y := hv
        have hcv := rel_cells hv
        have hce := vcells_eq hv hb.2
        obtain ⟨St', β', hg⟩ := good_box hp (t := t) i.ty (cur := (a.eval x).cells) (cs := y.cells) (by rw [hce]; exact hcv) (by rw [hce]; exact cells_ok hcv hb.2)
        rw [appM_row]
        refine ⟨_, _, St', β', exec_v ?_, hg⟩
        simp [Instr.box, run_newVar]
    · cases h
  | build t parts =>
    simp only [aopK] at h
    split at h
    · rename_i i hi
      split at h
      · rename_i fs hd
        split at h
        · rename_i pl hpl
          split at h
          · rename_i cs hcs
            refine Sound.pure h fun w St Q β B M a hp hx hS => ?_
            have hr := relParts_of (w := w) (St := St) (Q := Q) (β := β) (ev := a.eval) (ρ := ρ) parts.toList (fun p hp => hx p.2 (by simp only [Op.operands]; simp; exact ⟨p.1, by simpa using hp⟩))
            obtain ⟨v, hv, hrel⟩ := build_sound hti hi hd hpl hcs (parts.map fun p => (p.1, a.eval p.2)) (by rw [Array.toList_map]; exact hr)
            exact ⟨v, exec_v hv, hrel⟩
          · cases h
        · cases h
      · cases h
    · cases h
  | buildSlice t len parts =>
    simp only [aopK] at h
    split at h
    · rename_i i hi
      split at h
      · rename_i e hd
        split at h
        · rename_i ie hie
          split at h
          · rename_i T hT
            cases hb : (Nat.beq ie.size T.w && Nat.ble (len * ie.size) 16777216 && Nat.ble len 16777216 && Nat.beq parts.toList.length len) with
            | false => rw [hb] at h; cases h
            | true =>
              rw [hb] at h
              simp only [Bool.and_eq_true] at hb
              simp only [cond_true] at h
              split at h
              · rename_i xs hxs
                refine ⟨_, h, by simp, fun _ => rfl, (fun _ _ h => by cases h), (fun _ h => by cases h), (fun _ => rfl), OpOK.mem fun w St Q β B M a hG hp hx hS => ?_⟩
                have hr := relParts_of (w := w) (St := St) (Q := Q) (β := β) (ev := a.eval) (ρ := ρ) parts.toList (fun p hp => hx p.2 (by simp only [Op.operands]; simp; exact ⟨p.1, by simpa using hp⟩))
                obtain ⟨v, w', St', β', hv, hg⟩ := buildSlice_sound hti hi hd hie (Nat.eq_of_beq_eq_true hb.1.1.1) (Nat.le_of_ble_eq_true hb.1.1.2) (Nat.le_of_ble_eq_true hb.1.2) (by rw [List.length_map]; exact Nat.eq_of_beq_eq_true hb.2) hxs hp hS.sees
                  (parts.map fun p => (p.1, a.eval p.2)) (by rw [Array.toList_map]; exact hr)
                exact ⟨v, w', St', β', exec_v hv, hg⟩
              · cases h
          · cases h
        · cases h
      · cases h
    · cases h
  | load t x =>
    simp only [aopK] at h
    split at h
    · rename_i i p hi hp0
      obtain ⟨y, hy, hl⟩ := loadK_sound h
      refine Sound.pure hy fun w St Q β B M a hp hx hS => ?_
      have hv := hx x (by simp [Op.operands])
      rw [hp0] at hv
      obtain ⟨v, hv1, hv2⟩ := hl w St Q β B M hp.mem hS t (hti _ _ hi) _ hv
      exact ⟨v, exec_v hv1, hv2⟩
    · cases h
  | store t x y =>
    simp only [aopK] at h
    split at h
    · rename_i i p z hi hp0 hz
      obtain ⟨out, hy, hv0, hr0, hup, hl⟩ := storeK_sound hti h
      refine ⟨_, hy, by simp [Out.many, hr0], fun he => by simp [mayW, isE2] at he, hup, (fun _ h => by cases h), (fun _ => rfl), ?_⟩
      intro w St Q β B M a hG hp hx hm K' Qx hK
      have hv := hx x (by simp [Op.operands])
      rw [hp0] at hv
      have hv2 := hx y (by simp [Op.operands])
      rw [hz] at hv2
      obtain ⟨w', St', β', hrun, hg⟩ := hl w St Q β B new M hp hm t (hti _ _ hi) _ _ hv hv2
      unfold Oper.wp
      have : (execOp a.eval ⟨dst, .store t x y, ty, pos, after, guard⟩).run E.P w = .ok .skip w' := by
        simp only [execOp, Sem.run_bind, hrun, Result.andThen_ok, Sem.run_pure]
      rw [this]
      rw [Oper.upon_skip]
      refine hK undef w' St' β' ?_
      rw [show out.many.v = F.jk from hv0]
      exact hg
    · cases h
  | nilCheck x =>
    simp only [aopK] at h
    split at h
    · rename_i p hp0
      refine Sound.pure h fun w St Q β B M a hp hx hS => ?_
      have hv := hx x (by simp [Op.operands])
      rw [hp0] at hv
      obtain ⟨b, o, e, _⟩ := rel_move (show RelP w St Q β (a.eval x) p from hv)
      exact ⟨a.eval x, by simp [execOp, e], hv⟩
    · cases h
  | binOp op t x y yt =>
    simp only [aopK] at h
    split at h
    · rename_i xs ys hx0 hy0
      obtain ⟨v, hv, hp, hr⟩ := eqK_sound hti h
      exact Sound.pure hv fun w St Q β B M a hpre hx hS => ⟨v, exec_v (hr x y _ _ w St Q β (by have := hx x (by simp [Op.operands]); rwa [hx0] at this) (by have := hx y (by simp [Op.operands]); rwa [hy0] at this) w), rfl, hp⟩
    split at h
    · rename_i a0 b0 ha0 hb0
      exact flt_sound ha0 hb0 h
    · obtain ⟨v, hv, hp, hr⟩ := binK_sound hti h
      exact Sound.pure hv fun w St Q β B M a hpre hx hS => ⟨v, exec_v (hr x y _ _ w St Q β (hx x (by simp [Op.operands])) (hx y (by simp [Op.operands])) w), rfl, hp⟩
  | unOp op t x =>
    simp only [aopK] at h
    obtain ⟨v, hv, hp, hr⟩ := unK_sound h
    exact Sound.pure hv fun w St Q β B M a hpre hx hS => ⟨v, exec_v (hr _ w St Q β (hx x (by simp [Op.operands])) w), rfl, hp⟩
  | convert src dt x =>
    simp only [aopK] at h
    obtain ⟨v, hv, hp, hr⟩ := convK_sound hti h
    exact Sound.pure hv fun w St Q β B M a hpre hx hS => ⟨v, exec_v (hr _ w St Q β (hx x (by simp [Op.operands])) w), rfl, hp⟩
  | makeFunc fn first caps =>
    cases fn with
    | func f =>
      simp only [aopK] at h
      cases hb : first.isEmpty with
      | false => rw [hb] at h; cases h
      | true =>
        rw [hb] at h
        simp only [cond_true] at h
        split at h
        · rename_i ps hps
          refine Sound.pure h fun w St Q β B M a hp hx hS => ?_
          have hc := caps_rel caps.toList ps hps (fun x hxm => hx x (by simp only [Op.operands]; simp; exact .inr (by simpa using hxm)))
          have hf : first = #[] := by simpa using hb
          refine ⟨_, rfl, caps.map a.eval, by simp [hf], by rw [Array.toList_map]; exact hc⟩
        · cases h
    | _ => cases h
  | makeSlice t l c =>
    simp only [aopK] at h
    obtain ⟨out, hv, hu, hr⟩ := makeSliceK_sound hti h
    refine ⟨_, hv, ?_, fun _ => hu, (fun _ _ h => by rw [show out.many.upd = none from hu] at h; cases h), (fun _ h => by cases h), (fun _ => rfl), OpOK.mem fun w St Q β B M a hG hp hx hS => ?_⟩
    · cases ho : out.row <;> simp [Out.many, ho]
    · obtain ⟨v, w', St', β', h1, h2⟩ := hr w St Q β B M hp _ _ (hx l (by simp [Op.operands])) (hx c (by simp [Op.operands]))
      exact ⟨v, w', St', β', exec_v h1, h2⟩
  | slice t x lo hi mx =>
    simp only [aopK] at h
    obtain ⟨out, hv, hmx, hu, hr⟩ := sliceK_sound hti h
    refine ⟨_, hv, ?_, fun _ => hu, (fun _ _ h => by rw [show out.many.upd = none from hu] at h; cases h), (fun _ h => by cases h), (fun _ => rfl), OpOK.mem fun w St Q β B M a hG hp hx hS => ?_⟩
    · cases ho : out.row <;> simp [Out.many, ho]
    · have hm0 : mx = none := by simpa using hmx
      subst hm0
      obtain ⟨v, St', β', h1, h2⟩ := hr w St Q β B new M hp hS.sees (a.eval x) (lo.map a.eval) (hi.map a.eval) (hx x (by simp [Op.operands])) (relO_map lo (fun y hy => hx y (by simp [Op.operands, hy]))) (relO_map hi (fun y hy => hx y (by simp [Op.operands, hy])))
      exact ⟨v, w, St', β', exec_v h1, h2⟩
  | fieldAddr s x f =>
    simp only [aopK] at h
    obtain ⟨y, hy, hr⟩ := fieldAddrK_sound hti h
    refine Sound.pure hy fun w St Q β B M a hp hx hS => ?_
    obtain ⟨v, h1, h2⟩ := hr w St Q β _ (hx x (by simp [Op.operands]))
    exact ⟨v, exec_v h1, h2⟩
  | field t x f =>
    simp only [aopK] at h
    obtain ⟨y, hy, hr⟩ := fieldK_sound hti h
    refine Sound.pure hy fun w St Q β B M a hp hx hS => ?_
    obtain ⟨v, h1, h2⟩ := hr w St Q β _ (hx x (by simp [Op.operands]))
    exact ⟨v, exec_v h1, h2⟩
  | indexAddr t x ix =>
    simp only [aopK] at h
    obtain ⟨y, hy, hr⟩ := indexAddrK_sound hti h
    refine Sound.pure hy fun w St Q β B M a hp hx hS => ?_
    obtain ⟨v, h1, h2⟩ := hr w St Q β B M hp.mem hS _ _ (hx x (by simp [Op.operands])) (hx ix (by simp [Op.operands]))
    exact ⟨v, exec_v h1, h2⟩
  | index t x ix =>
    simp only [aopK] at h
    obtain ⟨y, hy, hr⟩ := indexK_sound hti h
    refine Sound.pure hy fun w St Q β B M a hp hx hS => ?_
    obtain ⟨v, h1, h2⟩ := hr w St Q β _ _ (hx x (by simp [Op.operands])) (hx ix (by simp [Op.operands]))
    exact ⟨v, exec_v h1, h2⟩
  | extract t ix =>
    simp only [aopK] at h
    split at h
    · rename_i xs hxs
      split at h
      · rename_i x hix
        refine Sound.pure h fun w St Q β B M a hp hx hS => ?_
        have hv := hx t (by simp [Op.operands])
        rw [hxs] at hv
        obtain ⟨arr, e, hall⟩ := hv
        obtain ⟨c, hc, hr⟩ := All2.get _ _ hall ix x hix
        refine ⟨c, exec_v ?_, hr⟩
        have : arr[ix]? = some c := by simpa using hc
        simp [Instr.extract, e, this]
      · cases h
    · cases h
  | call c =>
    obtain ⟨callee, args, argTypes⟩ := c
    simp only [aopK] at h
    cases callee with
    | invoke g meth => cases h
    | builtin b =>
      simp only at h
      split at h
      · rename_i x t hargs ht
        obtain ⟨xo, rfl, rfl⟩ := arr1 hargs
        obtain rfl := list1 ht
        obtain ⟨n, hn, hr⟩ := lenK_sound hti h
        exact Sound.pure hn fun w St Q β B M a hp hx hS => ⟨_, by
          have := hr w St Q β (a.eval xo) ty (hx xo (by simp [Op.operands, Call.operands]))
          simp [execOp, resolve, invoke, builtin, this], rfl, rfl⟩
      · rename_i x y t t2 hargs ht
        obtain ⟨xo, yo, rfl, rfl, rfl⟩ := arr2 hargs
        obtain rfl := list2 ht
        obtain ⟨out, hv, rfl, hup, hr⟩ := appendK_sound hti h
        refine ⟨_, hv, ?_, fun he => by simp [mayW, isE2] at he, hup, (fun _ h => by cases h), (fun _ => rfl), OpOK.mem fun w St Q β B M a hG hp hx hS => ?_⟩
        · cases ho : out.row <;> simp [Out.many, ho]
        · obtain ⟨v, w', St', β', h1, h2⟩ := hr w St Q β B M hp hS _ _ ty (hx xo (by simp [Op.operands, Call.operands])) (hx yo (by simp [Op.operands, Call.operands]))
          refine ⟨v, w', St', β', ?_, h2⟩
          simp [execOp, resolve, invoke, builtin, h1]
      · rename_i a0 rest hargs
        obtain ⟨xo, ro, e1, e2, e3⟩ := cons1 hargs
        split at h
        · rename_i v hv
          refine Sound.pure (x := .a (.c (.sc v))) h fun w St Q β B M a hp hx hS => ?_
          have hmem : ∀ y, y ∈ args.toList → RelF w St Q β (a.eval y) (ρ y) := fun y hy => hx y (by simp only [Op.operands, Call.operands]; simpa using hy)
          have hx0 := hmem xo (by rw [e1]; exact List.mem_cons_self ..)
          rw [e2] at hx0
          obtain ⟨e, hpl⟩ := rel_sc hx0
          have hall := all2_map (w := w) (St := St) (Q := Q) (β := β) (ev := a.eval) (ρ := ρ) ro (fun y hy => hmem y (by rw [e1]; exact List.mem_cons_of_mem _ hy))
          rw [e3] at hall
          obtain ⟨h1, h2⟩ := foldV_run (P := E.P) (fun a b v h w => maxV_run h w) rest _ a0 v hpl hall hv w
          refine ⟨v, ?_, rfl, h2⟩
          simp [execOp, resolve, invoke, builtin, Builtin.max_, e1, e, h1]
        · cases h
      · rename_i a0 rest hargs
        obtain ⟨xo, ro, e1, e2, e3⟩ := cons1 hargs
        split at h
        · rename_i v hv
          refine Sound.pure (x := .a (.c (.sc v))) h fun w St Q β B M a hp hx hS => ?_
          have hmem : ∀ y, y ∈ args.toList → RelF w St Q β (a.eval y) (ρ y) := fun y hy => hx y (by simp only [Op.operands, Call.operands]; simpa using hy)
          have hx0 := hmem xo (by rw [e1]; exact List.mem_cons_self ..)
          rw [e2] at hx0
          obtain ⟨e, hpl⟩ := rel_sc hx0
          have hall := all2_map (w := w) (St := St) (Q := Q) (β := β) (ev := a.eval) (ρ := ρ) ro (fun y hy => hmem y (by rw [e1]; exact List.mem_cons_of_mem _ hy))
          rw [e3] at hall
          obtain ⟨h1, h2⟩ := foldV_run (P := E.P) (fun a b v h w => minV_run h w) rest _ a0 v hpl hall hv w
          refine ⟨v, ?_, rfl, h2⟩
          simp [execOp, resolve, invoke, builtin, Builtin.min_, e1, e, h1]
        · cases h
      · cases h
    | value g =>
      simp only at h
      split at h
      · rename_i f ps hg
        split at h
        · rename_i hsg
          have hps : ps = [] := by
            cases ps with
            | nil => rfl
            | cons x r => cases h
          subst hps
          simp only [List.isEmpty_nil, cond_true] at h
          split at h
          · rename_i v hv
            obtain ⟨vs, hvs, hfr, hpl⟩ := extV_some hv
            refine Sound.pure (x := .a (.c (.sc v))) h fun w St Q β B M a hp hx hS => ?_
            have hg0 := hx g (by simp [Op.operands, Call.operands])
            rw [hg] at hg0
            obtain ⟨arr, e, hcaps⟩ := hg0
            have hall := all2_map (w := w) (St := St) (Q := Q) (β := β) (ev := a.eval) (ρ := ρ) args.toList (fun y hy => hx y (by simp [Op.operands, Call.operands]; exact .inr (by simpa using hy)))
            have hvs' := scsF_run _ _ _ hvs hall
            have harr : arr = #[] := by
              obtain ⟨l⟩ := arr
              cases l with
              | nil => rfl
              | cons x r => exact hcaps.elim
            have hargs : args.map a.eval = vs.toArray := by
              rw [← hvs', ← Array.toList_map]
            have hrun := free_run _ hfr w
            refine ⟨v, ?_, rfl, hpl⟩
            simp [execOp, resolve, Deferred.ofValue, e, invoke, harr, hargs, hrun]
          · cases h
        obtain ⟨out, hv, hlen, hu, hups, ⟨as_, rvs, hc⟩, hr⟩ := callK_sound hcall h
        refine ⟨out, hv, hlen, (fun he => by simp [mayW, isE2, isCallV] at he), hu, hups, (fun he => by simp [mayW, isE2, isCallV] at he), ?_⟩
        intro w St Q β B M a hG hp hx hS K' Qx hK
        have hg0 := hx g (by simp [Op.operands, Call.operands])
        rw [hg] at hg0
        obtain ⟨arr, e, hcaps⟩ := hg0
        have hall := all2_map (w := w) (St := St) (Q := Q) (β := β) (ev := a.eval) (ρ := ρ) args.toList (fun y hy => hx y (by simp [Op.operands, Call.operands]; exact .inr (by simpa using hy)))
        have hargs : All2 (RelF w St Q β) (args.map a.eval ++ arr).toList (args.toList.map ρ ++ ps.map fun p => .a (.c (.pt p))) := by
          rw [Array.toList_append, Array.toList_map]
          exact All2.append _ _ _ _ hall (rel_caps _ _ hcaps)
        have hcal := hr w St Q β B M hG hp (by simpa [isE2] using hS) _ hargs
        obtain ⟨fn, hf, hbody, hname⟩ := hent _ _ _ hc
        unfold Oper.wp
        have hrun : (execOp a.eval ⟨dst, .call ⟨.value g, args, argTypes⟩, ty, pos, after, guard⟩).run E.P w = .ok (.enter f (args.map a.eval ++ arr)) w := by
          have n1 : ¬ fn.name = "runtime.NumGoroutine" := by simpa using hname
          have n2 : ¬ fn.body = none := fun h0 => by rw [h0] at hbody; cases hbody
          simp [execOp, resolve, Deferred.ofValue, e, invoke, callFunc, hf, n1, n2]
        rw [hrun, Oper.upon_enter]
        refine hcal.mono fun e w' => ?_
        rintro ⟨v, St', β', rfl, hgood⟩
        exact hK v w' St' β' hgood
      · cases h
  | _ => cases h

end
end Go.Proofs.Ytefhcmkiachphaa.Ab
end
section
/- Statements of the machine: one operation behind the other, in the text's order. -/
set_option linter.unusedVariables false
set_option linter.unusedSimpArgs false
namespace Go.Proofs.Ytefhcmkiachphaa.Ab
open Go Go.RowKit

theorem getM_setM : ∀ (m : List (Option Row)) (id : Nat) (r : Option Row) (i : Nat), getM (setM m id r) i = if i = id then r else getM m i
  | [], 0, r, 0 => rfl
  | [], 0, r, i + 1 => by simp [setM, getM]
  | [], id + 1, r, 0 => by simp [setM, getM]
  | [], id + 1, r, i + 1 => by
    have := getM_setM [] id r i
    simp only [setM, getM, this]
    by_cases h : i = id <;> simp [h, getM]
  | _ :: m, 0, r, 0 => rfl
  | _ :: m, 0, r, i + 1 => by simp [setM, getM]
  | _ :: m, id + 1, r, 0 => by simp [setM, getM]
  | _ :: m, id + 1, r, i + 1 => by
    have := getM_setM m id r i
    simp only [setM, getM, this]
    by_cases h : i = id <;> simp [h]

theorem getM_freeze : ∀ (ids : List Nat) (m : List (Option Row)) (i : Nat), getM (freezeM m ids) i = if i ∈ ids then (getM m i).map Row.freeze else getM m i
  | [], m, i => by simp [freezeM]
  | id :: ids, m, i => by
    rw [freezeM, getM_freeze ids, getM_setM]
    by_cases h : i = id
    · subst h
      by_cases h2 : i ∈ ids
      · simp only [h2, if_true, List.mem_cons, true_or]
        cases getM m i <;> simp [Row.freeze_freeze]
      · simp [h2]
    · simp [h]

theorem getM_put : ∀ (rs : List Row) (m : List (Option Row)) (n : Nat), getM (putRows m n rs) = addRows (getM m) n rs
  | [], m, n => rfl
  | r :: rs, m, n => by
    rw [putRows, getM_put rs, addRows]
    congr 1
    funext i
    exact getM_setM m n (some r) i

theorem getM_setUps (m : List (Option Row)) : ∀ (l : List (Nat × Row)) (i : Nat), getM (setUps m l) i = match lookU l i with | some r => some r | none => getM m i
  | [], i => rfl
  | (j, r) :: l, i => by
    rw [setUps, getM_setM, getM_setUps m l i]
    simp only [lookU]
    by_cases h : i = j
    · subst h; simp
    · rw [if_neg h]
      have : Nat.beq j i = false := by
        cases hb : Nat.beq j i with
        | false => rfl
        | true => exact absurd (Nat.eq_of_beq_eq_true hb).symm h
      rw [this]; rfl

theorem getM_apply (s : S) (dst : Option Nat) (new : Nat) (o : OutM) : getM (applyOut s dst new o).mem = appM (getM s.mem) new o := by
  simp only [applyOut]
  rw [getM_put, addRows_eq]
  funext id
  unfold appM
  split
  · rfl
  · rw [getM_freeze, getM_setUps]
    cases o.upd with
    | none => rfl
    | some x => obtain ⟨i, r⟩ := x; simp only [getM_setM]; cases lookU o.ups id <;> rfl

/-- The machine's state and Go's. -/
structure SRel (w0 : Ent) (St0 Q : Stb) (nt : Nat) (w : World) (St : Stb) (β : Bet) (a : Act) (s : S) : Prop where
  below : Bel w0.base w0.toWorld w
  keep : Keep w0.toWorld St0 w0.bet Q w St β
  stn : ∀ b o, St b o → St0 b o ∨ w0.base.may b
  st : StOK w St
  mem : MemRel w St Q β w0.base (getM s.mem)
  fr : ∀ t, RelF w St Q β (a.tmps.getD t undef) (getF s.fr t)
  sz : nt ≤ a.tmps.size
  df : a.defers = []

theorem RelF.un {w : World} {St Q : Stb} {β : Bet} : RelF w St Q β undef F.un := ⟨#[], rfl, trivial⟩

section
variable {P : Program} {R : Type} {r : R} {E : Env} {G : World → Prop} {w0 : Ent} {St0 Q : Stb} {nt : Nat}

theorem SRel.eval {w : World} {St : Stb} {β : Bet} {a : Act} {s : S} (h : SRel w0 St0 Q nt w St β a s) (x : Operand) : RelF w St Q β (a.eval x) (evalF s.fr x) := by
  cases x with
  | tmp t => exact h.fr t
  | const v => exact absA_rel w St Q β v
  | global g => trivial
  | func f => exact ⟨#[], rfl, trivial⟩

theorem SRel.pre {w : World} {St : Stb} {β : Bet} {a : Act} {s : S} (hqb : ∀ b o, Q b o → b < w0.heap.size ∧ ¬ w0.own b) (h : SRel w0 St0 Q nt w St β a s) {new : Nat} (hn : ∀ j, j < 4 → β (new + j) = none) :
    Pre w St Q β w0.base (getM s.mem) new :=
  ⟨h.st, hqb, h.below.size, h.mem, hn⟩

theorem put_getD {a : Act} {d t : Nat} {v : Value} (hd : d < a.tmps.size) : (a.put (some d) v).tmps.getD t undef = if d = t then v else a.tmps.getD t undef := by
  simp only [Act.put, Array.getD_eq_getD_getElem?, Array.getElem?_setIfInBounds]
  by_cases h : d = t
  · subst h; simp [hd]
  · simp [h]

/-- The frame behind a write. -/
theorem fr_put {w : World} {St : Stb} {β : Bet} {a : Act} {fr : List (Nat × F)} (h : ∀ t, RelF w St Q β (a.tmps.getD t undef) (getF fr t)) {dst : Option Nat} (hd : dstOk nt dst = true) (hsz : nt ≤ a.tmps.size) {v : Value} {x : F}
    (hv : RelF w St Q β v x) : ∀ t, RelF w St Q β ((a.put dst v).tmps.getD t undef) (getF (putF dst x fr) t) := by
  intro t
  cases dst with
  | none => exact h t
  | some d =>
    have hlt : d < a.tmps.size := Nat.lt_of_lt_of_le (Nat.le_of_ble_eq_true hd) hsz
    rw [put_getD hlt]
    simp only [putF, getF]
    by_cases e : d = t
    · subst e; simp; exact hv
    · have : Nat.beq d t = false := by
        cases hb : Nat.beq d t with
        | false => rfl
        | true => exact absurd (Nat.eq_of_beq_eq_true hb) e
      simp only [e, if_false, this, cond_false]; exact h t

theorem put_size (a : Act) (dst : Option Nat) (v : Value) : (a.put dst v).tmps.size = a.tmps.size := by
  cases dst <;> simp [Act.put]

theorem put_defers (a : Act) (dst : Option Nat) (v : Value) : (a.put dst v).defers = a.defers := by
  cases dst <;> rfl

/-- The state behind an operation. -/
theorem SRel.good {w : World} {St : Stb} {β : Bet} {a : Act} {s : S} (h : SRel w0 St0 Q nt w St β a s) {dst : Option Nat} (hd : dstOk nt dst = true) {new : Nat} {out : OutM} {v : Value} {w' : World} {St' : Stb} {β' : Bet}
    (hg : Good w St Q β w0.base new v w' St' β' out.v (appM (getM s.mem) new out)) : SRel w0 St0 Q nt w' St' β' (a.put dst v) (applyOut s dst new out) := by
  refine ⟨h.below.trans hg.below, h.keep.trans hg.keep, fun b o ho => (hg.stn b o ho).elim (fun h' => h.stn b o h') .inr, hg.st, ?_, ?_, by rw [put_size]; exact h.sz, by rw [put_defers]; exact h.df⟩
  · rw [getM_apply]; exact hg.mem
  · exact fr_put (fun t => RelF.mono hg.keep (h.fr t)) hd h.sz hg.rel

/-- The state behind an operation that was not wanted. -/
theorem SRel.skip {w : World} {St : Stb} {β : Bet} {a : Act} {s : S} (h : SRel w0 St0 Q nt w St β a s) {dst : Option Nat} (hd : dstOk nt dst = true) (new : Nat) : SRel w0 St0 Q nt w St β (a.put dst undef) (applyOut s dst new { v := F.un }) := by
  refine ⟨h.below, h.keep, h.stn, h.st, ?_, fr_put h.fr hd h.sz RelF.un, by rw [put_size]; exact h.sz, by rw [put_defers]; exact h.df⟩
  rw [getM_apply, appM_same]; exact h.mem

theorem wanted_of {w : World} {St : Stb} {β : Bet} {ops : Array Oper} {a : Act} {fr : List (Nat × F)} {o : Oper} {j : Nat} {want b : Bool} {oj : Oper} {d : Nat} (hg : o.guard = some (j, want)) (hj : ops[j]? = some oj) (hd : oj.dst = some d)
    (hf : RelF w St Q β (a.tmps.getD d undef) (getF fr d)) (hb : getF fr d = .a (.c (.sc (.bool b)))) : Region.wanted o (yielded ops a.tmps) = decide (b = want) := by
  rw [hb] at hf
  obtain ⟨e, _⟩ := rel_sc hf
  have ht : a.tmps[d]? = some (.bool b) := by
    rw [Array.getD_eq_getD_getElem?] at e
    cases hx : a.tmps[d]? with
    | none => rw [hx] at e; cases e
    | some v => rw [hx] at e; simp at e; rw [e]
  simp only [Region.wanted, hg, yielded, hj, Option.bind_some, hd, ht]
  cases b <;> cases want <;> rfl

theorem unwanted_of {w : World} {St : Stb} {β : Bet} {ops : Array Oper} {a : Act} {fr : List (Nat × F)} {o : Oper} {j : Nat} {want : Bool} {oj : Oper} {d : Nat} (hg : o.guard = some (j, want)) (hj : ops[j]? = some oj) (hd : oj.dst = some d)
    (hf : RelF w St Q β (a.tmps.getD d undef) (getF fr d)) (hb : getF fr d = .tp []) : Region.wanted o (yielded ops a.tmps) = false := by
  rw [hb] at hf
  obtain ⟨arr, e, hl⟩ := hf
  rw [Array.getD_eq_getD_getElem?] at e
  have hy : yielded ops a.tmps j = none := by
    simp only [yielded, hj, Option.bind_some, hd]
    cases hx : a.tmps[d]? with
    | none => rfl
    | some v => rw [hx] at e; simp at e; rw [e]
  simp only [Region.wanted, hg, hy]
  rfl

theorem rangeL_eq : ∀ (n i : Nat), rangeL i n = List.range' i n
  | 0, i => rfl
  | n + 1, i => by rw [rangeL, List.range'_succ, rangeL_eq n (i + 1)]

/-- A region in the text's order. -/
theorem seq_sound (hti : ∀ t i, E.ti t = some i → TIok E.P t i) (hcall : ∀ f s args rvs, E.sg f = some s → E.call f args = some rvs → CallAny E.P G f s args rvs) (hent : ∀ f args rvs, E.call f args = some rvs → Enterable E.P f)
    (hG : ∀ w, Bel w0.base w0.toWorld w → G w) (hqb : ∀ b o, Q b o → b < w0.heap.size ∧ ¬ w0.own b) {ck : Nat → List (Option Row) → OutM → Bool} {base : Nat} {ops : Array Oper} {K : S → Option R} : ∀ (n i : Nat) (s : S) (w : World) (St : Stb) (β : Bet) (a : Act),
    SRel w0 St0 Q nt w St β a s → (∀ id, base + 4 * i ≤ id → β id = none) → opsK E ck nt base ops (fun _ mem => getM mem) (rangeL i n) s K = some r →
    wpOps E.P ops (fun e a' w' => e = .normal ∧ ∃ s' St' β', SRel w0 St0 Q nt w' St' β' a' s' ∧ K s' = some r ∧ ∀ id, base + 4 * (i + n) ≤ id → β' id = none) (List.range' i n) a w
  | 0, i, s, w, St, β, a, hs, hn, h => ⟨rfl, s, St, β, hs, h, hn⟩
  | n + 1, i, s, w, St, β, a, hs, hn, h => by
    rw [List.range'_succ, wpOps_cons]
    simp only [rangeL, opsK, ifs] at h
    split at h
    · cases h
    · rename_i o ho
      cases hd : dstOk nt o.dst with
      | false => rw [hd] at h; cases h
      | true =>
        rw [hd] at h
        simp only [cond_true] at h
        -- the operation is wanted
        have go : ∀ (hgo : aopK E (getM s.mem) (base + 4 * i) (evalF s.fr) o.op (fun out => bif ck i s.mem out then none else opsK E ck nt base ops (fun _ mem => getM mem) (rangeL (i + 1) n) (applyOut s o.dst (base + 4 * i) out) K) = some r),
            o.wp E.P a w (wpOps E.P ops (fun e a' w' => e = .normal ∧ ∃ s' St' β', SRel w0 St0 Q nt w' St' β' a' s' ∧ K s' = some r ∧ ∀ id, base + 4 * (i + (n + 1)) ≤ id → β' id = none) (List.range' (i + 1) n))
              (fun e a' w' => e = .normal ∧ ∃ s' St' β', SRel w0 St0 Q nt w' St' β' a' s' ∧ K s' = some r ∧ ∀ id, base + 4 * (i + (n + 1)) ≤ id → β' id = none) := by
          intro hgo
          obtain ⟨out, hK, _, _, _, _, _, hok⟩ := aop_sound (o := o) hti hcall hent hgo
          replace hK : (bif ck i s.mem out then none else opsK E ck nt base ops (fun _ mem => getM mem) (rangeL (i + 1) n) (applyOut s o.dst (base + 4 * i) out) K) = some r := hK
          have hK : opsK E ck nt base ops (fun _ mem => getM mem) (rangeL (i + 1) n) (applyOut s o.dst (base + 4 * i) out) K = some r := by
            cases hz : (ck i s.mem out) with
            | true => rw [hz] at hK; cases hK
            | false => rw [hz] at hK; exact hK
          refine hok w St Q β w0.base (getM s.mem) a (fun w' hb => hG w' (hs.below.trans hb)) (hs.pre hqb (fun j hj => hn _ (by omega))) (fun x _ => hs.eval x) (SeesX.same _ _) _ _ fun v w' St' β' hg => ?_
          have := seq_sound hti hcall hent hG hqb n (i + 1) _ w' St' β' _ (hs.good hd hg) (fun id hid => by
            by_cases e : β' id = β id
            · rw [e]; exact hn id (by omega)
            · have := hg.bnew id e; omega) hK
          rw [show i + (n + 1) = i + 1 + n by omega]
          exact this
        have skip : ∀ (hk : opsK E ck nt base ops (fun _ mem => getM mem) (rangeL (i + 1) n) (applyOut s o.dst (base + 4 * i) { v := F.un }) K = some r),
            wpOps E.P ops (fun e a' w' => e = .normal ∧ ∃ s' St' β', SRel w0 St0 Q nt w' St' β' a' s' ∧ K s' = some r ∧ ∀ id, base + 4 * (i + (n + 1)) ≤ id → β' id = none) (List.range' (i + 1) n) (a.put o.dst undef) w := by
          intro hk
          have := seq_sound hti hcall hent hG hqb n (i + 1) _ w St β _ (hs.skip hd (base + 4 * i)) (fun id hid => hn id (by omega)) hk
          rw [show i + (n + 1) = i + 1 + n by omega]
          exact this
        unfold wpOp
        simp only [ho]
        split at h
        · rename_i hgd
          have : Region.wanted o (yielded ops a.tmps) = true := by simp [Region.wanted, hgd]
          rw [if_pos this]
          exact .inl (go h)
        · rename_i j want hgd
          split at h
          · rename_i oj hoj
            split at h
            · rename_i d hdj
              split at h
              · rename_i b hb
                have hw := wanted_of hgd hoj hdj (hs.fr d) hb
                rw [hw]
                split at h
                · rename_i hbw
                  rw [if_pos (by simp [hbw])]
                  exact .inl (go h)
                · rename_i hbw
                  rw [if_neg (by simp [hbw])]
                  exact skip h
              · rename_i hb
                rw [if_neg (by rw [unwanted_of hgd hoj hdj (hs.fr d) hb]; simp)]
                exact skip h
              · cases h
            · cases h
          · cases h

end
end Go.Proofs.Ytefhcmkiachphaa.Ab
end
section
/- Statements of the machine whose order is drawn: whatever order comes up, the end is the text's. -/
set_option linter.unusedVariables false
set_option linter.unusedSimpArgs false
namespace Go.Proofs.Ytefhcmkiachphaa.Ab
open Go Go.RowKit

/-! ### Who is ahead of whom -/
theorem maskOf_spec : ∀ (l : List Go.Edge) (acc : List Nat) (i : Nat), (maskOf l acc).testBit i = true → ∃ e ∈ l, Region.binds .any e = true ∧ (e.on = i ∨ (acc.getD e.on 0).testBit i = true)
  | [], acc, i, h => by simp [maskOf] at h
  | e :: l, acc, i, h => by
    simp only [maskOf, Nat.testBit_or, Bool.or_eq_true] at h
    rcases h with h | h
    · cases hb : Region.binds .any e with
      | false => rw [hb] at h; simp at h
      | true =>
        rw [hb] at h
        simp only [cond_true, Nat.testBit_or, Bool.or_eq_true] at h
        refine ⟨e, List.mem_cons_self .., hb, ?_⟩
        rcases h with h | h
        · rw [Nat.testBit_two_pow] at h; exact .inl (by simpa using h)
        · exact .inr h
    · obtain ⟨e', he', h1, h2⟩ := maskOf_spec l acc i h
      exact ⟨e', List.mem_cons_of_mem _ he', h1, h2⟩

theorem masks_prefix : ∀ (l : List Oper) (acc : List Nat), ∃ r, masks l acc = acc ++ r
  | [], acc => ⟨[], by simp [masks]⟩
  | o :: l, acc => by
    obtain ⟨r, h⟩ := masks_prefix l (acc ++ [maskOf o.after.toList acc])
    exact ⟨[maskOf o.after.toList acc] ++ r, by rw [masks, h, List.append_assoc]⟩

theorem masks_get : ∀ (l : List Oper) (acc : List Nat) (q : Nat) (o : Oper), l[q]? = some o → ∃ pre, (∃ r, masks l acc = pre ++ r) ∧ (masks l acc).getD (acc.length + q) 0 = maskOf o.after.toList pre
  | o :: l, acc, 0, o', h => by
    simp only [List.getElem?_cons_zero, Option.some.injEq] at h
    subst h
    obtain ⟨r, hr⟩ := masks_prefix l (acc ++ [maskOf o.after.toList acc])
    refine ⟨acc, masks_prefix (o :: l) acc, ?_⟩
    rw [masks, hr]
    simp
  | o :: l, acc, q + 1, o', h => by
    obtain ⟨pre, h1, h2⟩ := masks_get l (acc ++ [maskOf o.after.toList acc]) q o' (by simpa using h)
    refine ⟨pre, by rw [masks]; exact h1, ?_⟩
    rw [masks]
    rw [List.length_append, List.length_singleton] at h2
    rw [show acc.length + (q + 1) = acc.length + 1 + q by omega]
    exact h2
  | [], _, _, _, h => by simp at h

theorem masks_spec {ops : Array Oper} {j i : Nat} {o : Oper} (ho : ops[j]? = some o) (h : ((masks ops.toList []).getD j 0).testBit i = true) :
    ∃ e ∈ o.after.toList, Region.binds .any e = true ∧ (e.on = i ∨ ((masks ops.toList []).getD e.on 0).testBit i = true) := by
  obtain ⟨pre, ⟨r, h1⟩, h2⟩ := masks_get ops.toList [] j o (by simpa using ho)
  simp only [List.length_nil, Nat.zero_add] at h2
  rw [h2] at h
  obtain ⟨e, he, hb, hx⟩ := maskOf_spec _ _ _ h
  refine ⟨e, he, hb, hx.imp (fun x => x) fun h => ?_⟩
  rw [h1]
  by_cases hl : e.on < pre.length
  · rw [List.getD_eq_getElem?_getD, List.getElem?_append_left hl, ← List.getD_eq_getElem?_getD]; exact h
  · rw [List.getD_eq_getElem?_getD, List.getElem?_eq_none (by omega)] at h
    simp at h

theorem allOk_get {ops : Array Oper} {M : List Nat} : ∀ (l : List Oper) (i q : Nat) (o : Oper), allOk ops M i l = true → l[q]? = some o → opOk (i + q) o = true ∧ pairOk ops M o (i + q) 0 ops.toList = true
  | o :: l, i, 0, o', h, hq => by
    simp only [List.getElem?_cons_zero, Option.some.injEq] at hq
    subst hq
    simp only [allOk, Bool.and_eq_true] at h
    exact h.1
  | o :: l, i, q + 1, o', h, hq => by
    simp only [allOk, Bool.and_eq_true] at h
    have := allOk_get l (i + 1) q o' h.2 (by simpa using hq)
    rwa [show i + 1 + q = i + (q + 1) by omega] at this
  | [], _, _, _, _, h => by simp at h

theorem pairOk_get {ops : Array Oper} {M : List Nat} {o : Oper} {i : Nat} : ∀ (l : List Oper) (j q : Nat) (o' : Oper), pairOk ops M o i j l = true → l[q]? = some o' → i = j + q ∨ ordered M i (j + q) = true ∨ o.apart ops o' = true
  | o1 :: l, j, 0, o', h, hq => by
    simp only [List.getElem?_cons_zero, Option.some.injEq] at hq
    subst hq
    simp only [pairOk, Bool.and_eq_true, Bool.or_eq_true] at h
    rcases h.1 with (h | h) | h
    · exact .inl (Nat.eq_of_beq_eq_true h)
    · exact .inr (.inl h)
    · exact .inr (.inr h)
  | o1 :: l, j, q + 1, o', h, hq => by
    simp only [pairOk, Bool.and_eq_true] at h
    have := pairOk_get l (j + 1) q o' h.2 (by simpa using hq)
    rwa [show j + 1 + q = j + (q + 1) by omega] at this
  | [], _, _, _, _, h => by simp at h

theorem beside_get {M : List Nat} {wl : List (Option (List Nat))} {i : Nat} : ∀ (l : List Oper) (j q : Nat) (o : Oper), beside M wl i j l = false → l[q]? = some o → wrB wl (j + q) o = true → i = j + q ∨ ordered M i (j + q) = true
  | o1 :: l, j, 0, o, h, hq, he => by
    simp only [List.getElem?_cons_zero, Option.some.injEq] at hq
    subst hq
    simp only [beside, Bool.or_eq_false_iff] at h
    have h1 := h.1
    rw [Nat.add_zero] at he
    rw [he] at h1
    simp only [Bool.true_and, Bool.and_eq_false_iff, Bool.not_eq_false'] at h1
    rcases h1 with h1 | h1
    · exact .inl (Nat.eq_of_beq_eq_true h1)
    · exact .inr h1
  | o1 :: l, j, q + 1, o, h, hq, he => by
    simp only [beside, Bool.or_eq_false_iff] at h
    have := beside_get l (j + 1) q o h.2 (by simpa using hq) (by rw [show j + 1 + q = j + (q + 1) by omega]; exact he)
    rwa [show j + 1 + q = j + (q + 1) by omega] at this
  | [], _, _, _, _, h, _ => by simp at h

theorem besideW_get {M : List Nat} {wl : List (Option (List Nat))} {i id : Nat} : ∀ (l : List Oper) (j q : Nat) (o : Oper), besideW M wl i id j l = false → l[q]? = some o → mayW o = true → i = j + q ∨ ordered M i (j + q) = true ∨ wHit wl (j + q) id = false
  | o1 :: l, j, 0, o, h, hq, he => by
    simp only [List.getElem?_cons_zero, Option.some.injEq] at hq
    subst hq
    simp only [besideW, Bool.or_eq_false_iff] at h
    have h1 := h.1
    rw [he] at h1
    simp only [Bool.true_and, Bool.and_eq_false_iff, Bool.not_eq_false'] at h1
    rcases h1 with (h1 | h1) | h1
    · exact .inl (Nat.eq_of_beq_eq_true h1)
    · exact .inr (.inl h1)
    · exact .inr (.inr h1)
  | o1 :: l, j, q + 1, o, h, hq, he => by
    simp only [besideW, Bool.or_eq_false_iff] at h
    have := besideW_get l (j + 1) q o h.2 (by simpa using hq) he
    rwa [show j + 1 + q = j + (q + 1) by omega] at this
  | [], _, _, _, _, h, _ => by simp at h

/-- What is ahead, of who may come up, has come up. -/
theorem anc_in {ops : Array Oper} (hok : drawOk ops (masks ops.toList []) = true) {D : Nat → Prop} (hcl : ∀ (i : Nat) (o : Oper), D i → ops[i]? = some o → ∀ e ∈ o.after.toList, Region.binds .any e = true → D e.on) :
    ∀ (j : Nat) (o : Oper), ops[j]? = some o → (∀ e ∈ o.after.toList, Region.binds .any e = true → D e.on) → ∀ i, ((masks ops.toList []).getD j 0).testBit i = true → D i ∧ i < j := by
  intro j
  induction j using Nat.strongRecOn with
  | _ j ih =>
    intro o ho hp i hi
    obtain ⟨e, he, hb, hx⟩ := masks_spec ho hi
    have hlt : e.on < j := by
      have := (allOk_get ops.toList 0 j o hok (by simpa using ho)).1
      simp only [opOk, Nat.zero_add, Bool.and_eq_true, List.all_eq_true] at this
      have := this.2 e he
      rw [hb] at this
      simp only [Bool.not_true, Bool.false_or] at this
      exact Nat.le_of_ble_eq_true this
    rcases hx with rfl | hx
    · exact ⟨hp e he hb, hlt⟩
    · have hD := hp e he hb
      have : e.on < ops.size := Nat.lt_trans hlt (Array.getElem?_eq_some_iff.1 ho).1
      have ho' : ops[e.on]? = some ops[e.on] := Array.getElem?_eq_getElem this
      obtain ⟨h1, h2⟩ := ih e.on hlt _ ho' (hcl e.on _ hD ho') i hx
      exact ⟨h1, by omega⟩

/-! ### The states that subsets of a region come to -/
section
variable (ops : Array Oper) (base : Nat) (s0 : S) (tr : Nat → OutM)

def dstAt (i : Nat) : Option Nat := (ops[i]?).bind (·.dst)

open Classical in
noncomputable def stD (D : Nat → Prop) : Nat → S
  | 0 => s0
  | i + 1 => if D i then applyOut (stD D i) (dstAt ops i) (base + 4 * i) (tr i) else stD D i

/-- It writes this row. -/
def Wr (o : OutM) (id : Nat) : Prop := (∃ x, o.upd = some (id, x)) ∨ ∃ x, (id, x) ∈ o.ups
theorem lookU_mem : ∀ (l : List (Nat × Row)) (id : Nat), (∀ x, (id, x) ∉ l) → lookU l id = none
  | [], _, _ => rfl
  | (j, r) :: l, id, h => by
    simp only [lookU]
    cases hb : Nat.beq j id with
    | true => exact absurd (List.mem_cons_self ..) (Nat.eq_of_beq_eq_true hb ▸ h r)
    | false => exact lookU_mem l id fun x hx => h x (List.mem_cons_of_mem _ hx)

def Touch (i id : Nat) : Prop := Wr (tr i) id ∨ (base + 4 * i ≤ id ∧ id < base + 4 * i + (tr i).rows.length)

variable {ops base s0 tr}

theorem stD_pos {D : Nat → Prop} {i : Nat} (h : D i) : stD ops base s0 tr D (i + 1) = applyOut (stD ops base s0 tr D i) (dstAt ops i) (base + 4 * i) (tr i) := by
  rw [stD, if_pos h]
theorem stD_neg {D : Nat → Prop} {i : Nat} (h : ¬ D i) : stD ops base s0 tr D (i + 1) = stD ops base s0 tr D i := by
  rw [stD, if_neg h]

theorem appM_fz {M : Nat → Option Row} {i id : Nat} (h : ¬ Touch base tr i id) : appM M (base + 4 * i) (tr i) id = if id ∈ (tr i).fz then (M id).map Row.freeze else M id := by
  unfold Touch at h
  unfold appM
  rw [if_neg (fun x => h (.inr x)), lookU_mem _ _ (fun x hx => h (.inl (.inr ⟨x, hx⟩)))]
  cases hu : (tr i).upd with
  | none => rfl
  | some x =>
    obtain ⟨q, y⟩ := x
    have hq : id ≠ q := fun e => h (.inl (.inl ⟨y, by rw [hu, e]⟩))
    simp only [hq, if_false]

theorem appM_off {M : Nat → Option Row} {i id : Nat} (hf : id ∉ (tr i).fz) (h : ¬ Touch base tr i id) : appM M (base + 4 * i) (tr i) id = M id := by
  rw [appM_fz h, if_neg hf]

/-- Two rows, up to freezing. -/
def FzEq (x y : Option Row) : Prop := x.map Row.freeze = y.map Row.freeze

theorem FzEq.frz {x y : Option Row} (h : FzEq x y) : FzEq (x.map Row.freeze) (y.map Row.freeze) := by
  unfold FzEq at h ⊢; rw [h]
theorem frz_frz (x : Option Row) : (x.map Row.freeze).map Row.freeze = x.map Row.freeze := by cases x <;> simp [Row.freeze_freeze]
theorem FzEq.left {x y : Option Row} (h : FzEq x y) : FzEq (x.map Row.freeze) y := by unfold FzEq at h ⊢; rw [frz_frz, h]
theorem FzEq.right {x y : Option Row} (h : FzEq x y) : FzEq x (y.map Row.freeze) := by unfold FzEq at h ⊢; rw [frz_frz, h]

theorem appM_congr {M M' : Nat → Option Row} {new id : Nat} {o : OutM} (h : M id = M' id) : appM M new o id = appM M' new o id := by
  unfold appM
  simp only [h]

theorem fr_agree {D D' : Nat → Prop} {t : Nat} : ∀ k, (∀ i, i < k → dstAt ops i = some t → (D i ↔ D' i)) → getF (stD ops base s0 tr D k).fr t = getF (stD ops base s0 tr D' k).fr t
  | 0, _ => rfl
  | k + 1, h => by
    have ih := fr_agree (D := D) (D' := D') (t := t) k (fun i hi => h i (by omega))
    have off : ∀ (s : S), dstAt ops k ≠ some t → getF (applyOut s (dstAt ops k) (base + 4 * k) (tr k)).fr t = getF s.fr t := fun s hne => by
      simp only [applyOut, putF]
      cases hd : dstAt ops k with
      | none => rfl
      | some d =>
        simp only [getF]
        have : Nat.beq d t = false := by
          cases hb : Nat.beq d t with
          | false => rfl
          | true => exact absurd (by rw [hd, Nat.eq_of_beq_eq_true hb]) hne
        rw [this]; rfl
    simp only [stD]
    by_cases ht : dstAt ops k = some t
    · have hk := h k (by omega) ht
      by_cases hD : D k
      · rw [if_pos hD, if_pos (hk.1 hD)]
        simp only [applyOut, putF, ht, getF]
        simp
      · rw [if_neg hD, if_neg (fun x => hD (hk.2 x))]; exact ih
    · split <;> split
      · rw [off _ ht, off _ ht]; exact ih
      · rw [off _ ht]; exact ih
      · rw [off _ ht]; exact ih
      · exact ih

theorem mem_agree {D D' : Nat → Prop} {id : Nat} : ∀ k, (∀ i, i < k → Touch base tr i id ∨ id ∈ (tr i).fz → (D i ↔ D' i)) → getM (stD ops base s0 tr D k).mem id = getM (stD ops base s0 tr D' k).mem id
  | 0, _ => rfl
  | k + 1, h => by
    have ih := mem_agree (D := D) (D' := D') (id := id) k (fun i hi => h i (by omega))
    simp only [stD]
    by_cases ht : Touch base tr k id ∨ id ∈ (tr k).fz
    · have hk := h k (by omega) ht
      by_cases hD : D k
      · rw [if_pos hD, if_pos (hk.1 hD), getM_apply, getM_apply]; exact appM_congr ih
      · rw [if_neg hD, if_neg (fun x => hD (hk.2 x))]; exact ih
    · have h1 : ¬ Touch base tr k id := fun x => ht (.inl x)
      have h2 : id ∉ (tr k).fz := fun x => ht (.inr x)
      split <;> split
      · rw [getM_apply, getM_apply, appM_off h2 h1, appM_off h2 h1]; exact ih
      · rw [getM_apply, appM_off h2 h1]; exact ih
      · rw [getM_apply, appM_off h2 h1]; exact ih
      · exact ih

theorem appM_fzEq {M M' : Nat → Option Row} {new id : Nat} {o : OutM} (h : FzEq (M id) (M' id)) : FzEq (appM M new o id) (appM M' new o id) := by
  obtain ⟨v, rows, upd, ups, fz⟩ := o
  unfold appM
  simp only
  split
  · rfl
  · cases lookU ups id with
    | some r => rfl
    | none => cases upd with
      | none =>
        simp only
        split
        · exact h.frz
        · exact h
      | some x =>
        obtain ⟨q, y⟩ := x
        simp only
        by_cases e : id = q
        · simp only [e, if_true]; rfl
        · simp only [e, if_false]
          split
          · exact h.frz
          · exact h

theorem mem_agree_fz {D D' : Nat → Prop} {id : Nat} : ∀ k, (∀ i, i < k → Touch base tr i id → (D i ↔ D' i)) → FzEq (getM (stD ops base s0 tr D k).mem id) (getM (stD ops base s0 tr D' k).mem id)
  | 0, _ => rfl
  | k + 1, h => by
    have ih := mem_agree_fz (D := D) (D' := D') (id := id) k (fun i hi => h i (by omega))
    simp only [stD]
    by_cases ht : Touch base tr k id
    · have hk := h k (by omega) ht
      by_cases hD : D k
      · rw [if_pos hD, if_pos (hk.1 hD), getM_apply, getM_apply]; exact appM_fzEq ih
      · rw [if_neg hD, if_neg (fun x => hD (hk.2 x))]; exact ih
    · split <;> split
      · rw [getM_apply, getM_apply]; exact appM_fzEq ih
      · rw [getM_apply, appM_fz ht]; split
        · exact ih.left
        · exact ih
      · rw [getM_apply, appM_fz ht]; split
        · exact ih.right
        · exact ih
      · exact ih

theorem stD_congr {D D' : Nat → Prop} : ∀ k, (∀ i, i < k → (D i ↔ D' i)) → stD ops base s0 tr D k = stD ops base s0 tr D' k
  | 0, _ => rfl
  | k + 1, h => by
    have ih := stD_congr (D := D) (D' := D') k (fun i hi => h i (by omega))
    simp only [stD, ih]
    by_cases hD : D k
    · rw [if_pos hD, if_pos ((h k (by omega)).1 hD)]
    · rw [if_neg hD, if_neg (fun x => hD ((h k (by omega)).2 x))]

/-- The text's state at j is the state of those ahead of j. -/
theorem stD_lt (j : Nat) : ∀ k, stD ops base s0 tr (fun i => i < j) (j + k) = stD ops base s0 tr (fun _ => True) j
  | 0 => stD_congr j (fun i hi => ⟨fun _ => trivial, fun _ => hi⟩)
  | k + 1 => by
    rw [← stD_lt j k]
    exact stD_neg (D := fun i => i < j) (i := j + k) (by omega)

/-- One more: the rows. -/
theorem mem_more {D : Nat → Prop} {j : Nat} (hj : ¬ D j) {id : Nat} : ∀ k, (∀ i, j < i → i < j + 1 + k → D i → ¬ (Touch base tr i id ∧ Touch base tr j id) ∧ ¬ (Touch base tr i id ∧ id ∈ (tr j).fz) ∧ ¬ (id ∈ (tr i).fz ∧ Touch base tr j id)) →
    getM (stD ops base s0 tr (fun i => D i ∨ i = j) (j + 1 + k)).mem id = appM (getM (stD ops base s0 tr D (j + 1 + k)).mem) (base + 4 * j) (tr j) id
  | 0, _ => by
    simp only [Nat.add_zero, stD]
    rw [if_pos (.inr rfl), if_neg hj, getM_apply]
    refine appM_congr ?_
    rw [stD_congr (D' := D) j (fun i hi => ⟨fun h => h.resolve_right (by omega), .inl⟩)]
  | k + 1, h => by
    have ih := mem_more hj (id := id) k (fun i h1 h2 => h i h1 (by omega))
    rw [show j + 1 + (k + 1) = (j + 1 + k) + 1 by omega]
    by_cases hD : D (j + 1 + k)
    · rw [stD_pos (D := fun i => D i ∨ i = j) (i := j + 1 + k) (.inl hD), stD_pos hD]
      obtain ⟨n1, n2, n3⟩ := h (j + 1 + k) (by omega) (by omega) hD
      rw [getM_apply]
      by_cases h1 : Touch base tr (j + 1 + k) id
      · have h2 : ¬ Touch base tr j id := fun x => n1 ⟨h1, x⟩
        have h3 : id ∉ (tr j).fz := fun x => n2 ⟨h1, x⟩
        rw [appM_off h3 h2, getM_apply]
        refine appM_congr ?_
        rw [ih, appM_off h3 h2]
      · rw [appM_fz h1, ih]
        by_cases h4 : id ∈ (tr (j + 1 + k)).fz
        · have h2 : ¬ Touch base tr j id := fun x => n3 ⟨h4, x⟩
          rw [if_pos h4, appM_fz h2, appM_fz h2, getM_apply, appM_fz h1, if_pos h4]
          split <;> rfl
        · rw [if_neg h4]
          refine appM_congr ?_
          rw [getM_apply, appM_fz h1, if_neg h4]
    · rw [stD_neg (D := fun i => D i ∨ i = j) (i := j + 1 + k) (fun x => x.elim hD (fun e => by omega)), stD_neg hD]; exact ih

/-- One more: the frame. -/
theorem fr_more {D : Nat → Prop} {j : Nat} (hj : ¬ D j) {t : Nat} : ∀ k, (∀ i, j < i → i < j + 1 + k → D i → ∀ d, dstAt ops i = some d → dstAt ops j ≠ some d) →
    getF (stD ops base s0 tr (fun i => D i ∨ i = j) (j + 1 + k)).fr t = getF (putF (dstAt ops j) (tr j).v (stD ops base s0 tr D (j + 1 + k)).fr) t
  | 0, _ => by
    simp only [Nat.add_zero, stD]
    rw [if_pos (.inr rfl), if_neg hj, stD_congr (D' := D) j (fun i hi => ⟨fun h => h.resolve_right (by omega), .inl⟩)]
    rfl
  | k + 1, h => by
    have ih := fr_more hj (t := t) k (fun i h1 h2 => h i h1 (by omega))
    rw [show j + 1 + (k + 1) = (j + 1 + k) + 1 by omega]
    by_cases hD : D (j + 1 + k)
    · rw [stD_pos (D := fun i => D i ∨ i = j) (i := j + 1 + k) (.inl hD), stD_pos hD]
      have hne := h (j + 1 + k) (by omega) (by omega) hD
      simp only [applyOut]
      cases hd : dstAt ops (j + 1 + k) with
      | none => simp only [putF]; exact ih
      | some d =>
        have hne := hne d hd
        simp only [putF, getF]
        cases hdj : dstAt ops j with
        | none =>
          rw [hdj] at ih
          simp only [putF] at ih
          simp only [getF, ih]
        | some dj =>
          rw [hdj] at ih
          simp only [putF, getF] at ih
          simp only [getF]
          rw [ih]
          have hdd : dj ≠ d := fun e => hne (by rw [hdj, e])
          cases h1 : Nat.beq d t with
          | false => rfl
          | true =>
            have e1 := Nat.eq_of_beq_eq_true h1
            cases h2 : Nat.beq dj t with
            | false => rfl
            | true => exact absurd ((Nat.eq_of_beq_eq_true h2).trans e1.symm) hdd
    · rw [stD_neg (D := fun i => D i ∨ i = j) (i := j + 1 + k) (fun x => x.elim hD (fun e => by omega)), stD_neg hD]; exact ih
end

end Go.Proofs.Ytefhcmkiachphaa.Ab
end
section
/- Statements of the machine whose order is drawn: whatever order comes up, the end is the text's. -/
set_option linter.unusedVariables false
set_option linter.unusedSimpArgs false
namespace Go.Proofs.Ytefhcmkiachphaa.Ab
open Go Go.RowKit

def guardF (ops : Array Oper) (o : Oper) (fr : List (Nat × F)) : Option Bool :=
  match o.guard with
  | none => some true
  | some (j, want) => match dstAt ops j with
    | some d => match getF fr d with
      | .a (.c (.sc (.bool b))) => some (decide (b = want))
      | .tp [] => some false
      | _ => none
    | none => none

/-- One operation of the text's run. -/
structure TrOK (P : Program) (G : World → Prop) (nt base : Nat) (ops : Array Oper) (M : List Nat) (wl : List (Option (List Nat))) (s : S) (i : Nat) (o : Oper) (out : OutM) : Prop where
  dst : dstOk nt o.dst = true
  fz : ∀ id ∈ out.fz, (vwD0 base ops M wl i s.mem id).isSome = true
  row : out.rows.length ≤ 4
  e2 : mayW o = false → out.upd = none ∧ out.ups = []
  up : ∀ id, Wr out id → (vwD base ops M wl i s.mem id).isSome = true
  wh : ∀ id, Wr out id → wHit wl i id = true
  eu : out.upd ≠ none → isE2 o = true
  how : (guardF ops o s.fr = some true ∧ OpOK P G (vwD base ops M wl i s.mem) (base + 4 * i) (evalF s.fr) o out) ∨ (guardF ops o s.fr = some false ∧ out = { v := F.un })

theorem TrOK.wr {P : Program} {G : World → Prop} {nt base : Nat} {ops : Array Oper} {M : List Nat} {wl : List (Option (List Nat))} {s : S} {i : Nat} {o : Oper} {out : OutM} (h : TrOK P G nt base ops M wl s i o out) {id : Nat} (hw : Wr out id) : mayW o = true ∧ wrB wl i o = true := by
  have h1 : mayW o = true := by
    cases hm : mayW o with
    | true => rfl
    | false =>
      obtain ⟨e1, e2⟩ := h.e2 hm
      rcases hw with ⟨x, hx⟩ | ⟨x, hx⟩
      · rw [e1] at hx; cases hx
      · rw [e2] at hx; cases hx
  refine ⟨h1, ?_⟩
  have hh := h.wh id hw
  have hn : wNone wl i = false := by
    unfold wHit at hh
    unfold wNone
    split
    · rename_i e; rw [e] at hh; simp at hh
    · rfl
  unfold mayW at h1
  unfold wrB
  rw [hn]
  simpa using h1

theorem Wr.un {id : Nat} (h : Wr { v := F.un } id) : False := by
  rcases h with ⟨x, hx⟩ | ⟨x, hx⟩ <;> cases hx

def stF' (ops : Array Oper) (base : Nat) (tr : Nat → OutM) : Nat → S → Nat → S
  | _, s, 0 => s
  | i, s, q + 1 => stF' ops base tr (i + 1) (applyOut s (dstAt ops i) (base + 4 * i) (tr i)) q

theorem stF'_last (ops : Array Oper) (base : Nat) (tr : Nat → OutM) : ∀ (q i : Nat) (s : S), stF' ops base tr i s (q + 1) = applyOut (stF' ops base tr i s q) (dstAt ops (i + q)) (base + 4 * (i + q)) (tr (i + q))
  | 0, i, s => rfl
  | q + 1, i, s => by
    rw [stF', stF'_last ops base tr q (i + 1), stF']
    rw [show i + 1 + q = i + (q + 1) by omega]

theorem stF'_stD (ops : Array Oper) (base : Nat) (tr : Nat → OutM) (s : S) : ∀ q, stF' ops base tr 0 s q = stD ops base s tr (fun _ => True) q
  | 0 => rfl
  | q + 1 => by rw [stF'_last, stF'_stD ops base tr s q, stD_pos trivial, Nat.zero_add]

theorem stF'_congr (ops : Array Oper) (base : Nat) {tr tr' : Nat → OutM} : ∀ (q i : Nat) (s : S), (∀ k, i ≤ k → tr k = tr' k) → stF' ops base tr i s q = stF' ops base tr' i s q
  | 0, _, _, _ => rfl
  | q + 1, i, s, h => by rw [stF', stF', h i (Nat.le_refl _), stF'_congr ops base q (i + 1) _ (fun k hk => h k (by omega))]

section
variable {R : Type} {r : R} {E : Env} {G : World → Prop} {w0 : Ent} {St0 Q : Stb} {nt : Nat}

/-- The text's run, taken apart. -/
theorem trace (hti : ∀ t i, E.ti t = some i → TIok E.P t i) (hcall : ∀ f s args rvs, E.sg f = some s → E.call f args = some rvs → CallAny E.P G f s args rvs) (hent : ∀ f args rvs, E.call f args = some rvs → Enterable E.P f)
    {base : Nat} {ops : Array Oper} {M : List Nat} {wl : List (Option (List Nat))} {K : S → Option R} : ∀ (n i : Nat) (s : S), opsK E (ckD base ops M wl) nt base ops (vwD base ops M wl) (rangeL i n) s K = some r →
    ∃ tr : Nat → OutM, (∀ q, q < n → ∃ o, ops[i + q]? = some o ∧ TrOK E.P G nt base ops M wl (stF' ops base tr i s q) (i + q) o (tr (i + q))) ∧ K (stF' ops base tr i s n) = some r
  | 0, i, s, h => ⟨fun _ => { v := F.jk }, fun q hq => by omega, h⟩
  | n + 1, i, s, h => by
    simp only [rangeL, opsK, ifs] at h
    split at h
    · cases h
    · rename_i o ho
      cases hd : dstOk nt o.dst with
      | false => rw [hd] at h; cases h
      | true =>
        rw [hd] at h
        simp only [cond_true] at h
        have hda : dstAt ops i = o.dst := by simp [dstAt, ho]
        have fin : ∀ (out : OutM), TrOK E.P G nt base ops M wl s i o out → opsK E (ckD base ops M wl) nt base ops (vwD base ops M wl) (rangeL (i + 1) n) (applyOut s o.dst (base + 4 * i) out) K = some r →
            ∃ tr : Nat → OutM, (∀ q, q < n + 1 → ∃ o, ops[i + q]? = some o ∧ TrOK E.P G nt base ops M wl (stF' ops base tr i s q) (i + q) o (tr (i + q))) ∧ K (stF' ops base tr i s (n + 1)) = some r := by
          intro out hok hrest
          obtain ⟨tr, h1, h2⟩ := trace hti hcall hent n (i + 1) _ hrest
          have hag : ∀ k, i + 1 ≤ k → tr k = (fun q => if q = i then out else tr q) k := fun k hk => by simp only; rw [if_neg (by omega)]
          refine ⟨fun q => if q = i then out else tr q, fun q hq => ?_, ?_⟩
          · cases q with
            | zero => exact ⟨o, ho, by simpa [stF'] using hok⟩
            | succ q =>
              obtain ⟨o', ho', hok'⟩ := h1 q (by omega)
              refine ⟨o', by rw [show i + (q + 1) = i + 1 + q by omega]; exact ho', ?_⟩
              rw [show i + (q + 1) = i + 1 + q by omega, stF']
              simp only [if_true, if_neg (show ¬ i + 1 + q = i by omega)]
              rw [hda, ← stF'_congr ops base q (i + 1) _ hag]
              exact hok'
          · rw [stF']
            simp only [if_true]
            rw [hda, ← stF'_congr ops base n (i + 1) _ hag]
            exact h2
        have go : ∀ (hg : guardF ops o s.fr = some true) (hgo : aopK E (vwD base ops M wl i s.mem) (base + 4 * i) (evalF s.fr) o.op (fun out => bif ckD base ops M wl i s.mem out then none else opsK E (ckD base ops M wl) nt base ops (vwD base ops M wl) (rangeL (i + 1) n) (applyOut s o.dst (base + 4 * i) out) K) = some r),
            ∃ tr : Nat → OutM, (∀ q, q < n + 1 → ∃ o, ops[i + q]? = some o ∧ TrOK E.P G nt base ops M wl (stF' ops base tr i s q) (i + q) o (tr (i + q))) ∧ K (stF' ops base tr i s (n + 1)) = some r := by
          intro hg hgo
          obtain ⟨out, hK, hrow, he2, hup, hups, hm0, hok⟩ := aop_sound (o := o) hti hcall hent hgo
          replace hK : (bif ckD base ops M wl i s.mem out then none else opsK E (ckD base ops M wl) nt base ops (vwD base ops M wl) (rangeL (i + 1) n) (applyOut s o.dst (base + 4 * i) out) K) = some r := hK
          cases hz : ckD base ops M wl i s.mem out with
          | true => rw [hz] at hK; cases hK
          | false =>
            rw [hz] at hK
            simp only [ckD, Bool.or_eq_false_iff] at hz
            have hwr : ∀ id, Wr out id → (vwD base ops M wl i s.mem id).isSome = true ∧ wHit wl i id = true := by
              rintro id (⟨x, hx⟩ | ⟨x, hx⟩)
              · refine ⟨hup id x hx, ?_⟩
                have := hz.1.2; rw [hx] at this; simp only [Bool.or_eq_false_iff, Bool.not_eq_false'] at this; exact this.1
              · refine ⟨hups (id, x) hx, ?_⟩
                have := hz.2
                rw [List.any_eq_false] at this
                simpa using this (id, x) hx
            exact fin out ⟨hd, by simpa using hz.1.1, hrow, fun hm => ⟨he2 hm, hm0 hm⟩, fun id h => (hwr id h).1, fun id h => (hwr id h).2, fun hne => by
              cases he : isE2 o with
              | true => rfl
              | false =>
                exfalso
                cases hu : out.upd with
                | none => exact hne hu
                | some y =>
                  obtain ⟨id, x⟩ := y
                  have := hz.1.2
                  rw [hu, ho] at this
                  simp [he] at this, .inl ⟨hg, hok⟩⟩ hK
        split at h
        · rename_i hgd
          exact go (by simp [guardF, hgd]) h
        · rename_i j want hgd
          split at h
          · rename_i oj hoj
            split at h
            · rename_i d hdj
              split at h
              · rename_i b hb
                have hgf : guardF ops o s.fr = some (decide (b = want)) := by simp [guardF, hgd, dstAt, hoj, hdj, hb]
                split at h
                · rename_i hbw
                  exact go (by rw [hgf]; simp [hbw]) h
                · rename_i hbw
                  exact fin _ ⟨hd, fun _ h => (by cases h), by simp, fun _ => ⟨rfl, rfl⟩, (fun _ h => h.un.elim), (fun _ h => h.un.elim), (fun h => absurd rfl h), .inr ⟨by rw [hgf]; simp [hbw], rfl⟩⟩ h
              · rename_i hb
                have hgf : guardF ops o s.fr = some false := by simp [guardF, hgd, dstAt, hoj, hdj, hb]
                exact fin _ ⟨hd, fun _ h => (by cases h), by simp, fun _ => ⟨rfl, rfl⟩, (fun _ h => h.un.elim), (fun _ h => h.un.elim), (fun h => absurd rfl h), .inr ⟨hgf, rfl⟩⟩ h
              · cases h
            · cases h
          · cases h

theorem SRel.congr {w : World} {St : Stb} {β : Bet} {a : Act} {s s' : S} (h : SRel w0 St0 Q nt w St β a s) (hm : ∀ id, getM s'.mem id = getM s.mem id) (hf : ∀ t, getF s'.fr t = getF s.fr t) : SRel w0 St0 Q nt w St β a s' := by
  refine ⟨h.below, h.keep, h.stn, h.st, ?_, fun t => by rw [hf]; exact h.fr t, h.sz, h.df⟩
  rw [show getM s'.mem = getM s.mem from funext hm]; exact h.mem

theorem guard_want {w : World} {St : Stb} {β : Bet} {ops : Array Oper} {a : Act} {fr : List (Nat × F)} {o : Oper} {b : Bool} (hf : ∀ t, RelF w St Q β (a.tmps.getD t undef) (getF fr t)) (h : guardF ops o fr = some b) :
    Region.wanted o (yielded ops a.tmps) = b := by
  unfold guardF at h
  split at h
  · rename_i hg; cases h; simp [Region.wanted, hg]
  · rename_i j want hg
    split at h
    · rename_i d hd
      split at h
      · rename_i b' hb'
        cases h
        unfold dstAt at hd
        cases ho : ops[j]? with
        | none => rw [ho] at hd; cases hd
        | some oj =>
          rw [ho] at hd
          exact wanted_of hg ho hd (hf d) hb'
      · rename_i hb'
        cases h
        unfold dstAt at hd
        cases ho : ops[j]? with
        | none => rw [ho] at hd; cases hd
        | some oj =>
          rw [ho] at hd
          exact unwanted_of hg ho hd (hf d) hb'
      · cases h
    · cases h

theorem countP_lt {p p' : Nat → Bool} (h : ∀ x, p' x = true → p x = true) : ∀ (l : List Nat), l.countP p' ≤ l.countP p ∧ (∀ a ∈ l, p a = true → p' a = false → l.countP p' < l.countP p)
  | [] => ⟨Nat.le_refl _, fun a ha => by cases ha⟩
  | x :: l => by
    obtain ⟨h1, h2⟩ := countP_lt h l
    simp only [List.countP_cons]
    constructor
    · cases hx : p' x with
      | true => rw [h x hx]; omega
      | false => cases p x <;> simp <;> omega
    · intro a ha hp hp'
      rcases List.mem_cons.1 ha with rfl | ha
      · rw [hp, hp']; simp; omega
      · have := h2 a ha hp hp'
        cases hx : p' x with
        | true => rw [h x hx]; omega
        | false => cases p x <;> simp <;> omega

/-- What an operation sees, nobody touches that stands in no order with it. -/
theorem visNo {P : Program} {base : Nat} {ops : Array Oper} {M : List Nat} {wl : List (Option (List Nat))} {s' : S} {tr : Nat → OutM} {i j id : Nat} {oi : Oper} {mem : List (Option Row)} (hvis : (vwD0 base ops M wl j mem id).isSome = true) (hoi : ops[i]? = some oi)
    (hTi : TrOK P G nt base ops M wl s' i oi (tr i)) (ht : Touch base tr i id) (hne : i ≠ j) (hbit : (M.getD j 0).testBit i = false) (hno : ordered M j i = false) : False := by
  have hr4 := hTi.row
  unfold vwD0 at hvis
  cases hbs : beside M wl j 0 ops.toList with
  | true => rw [hbs] at hvis; cases hvis
  | false =>
    rcases ht with hu | ⟨g1, g2⟩
    · have he := (hTi.wr hu).2
      have := beside_get ops.toList 0 i oi hbs (by simpa using hoi) (by simpa using he)
      simp only [Nat.zero_add] at this
      rcases this with h | h
      · exact hne h.symm
      · rw [hno] at h; cases h
    · rw [hbs] at hvis
      simp only [cond_false] at hvis
      cases hbl : Nat.blt id base with
      | true => have := Nat.le_of_ble_eq_true hbl; omega
      | false =>
        rw [hbl] at hvis
        have : (id - base) / 4 = i := by omega
        simp only [cond_false, this, hbit] at hvis
        cases hvis

theorem draw_any (hG : ∀ w, Bel w0.base w0.toWorld w → G w) (hqb : ∀ b o, Q b o → b < w0.heap.size ∧ ¬ w0.own b) {base : Nat} {ops : Array Oper} (hok : drawOk ops (masks ops.toList []) = true) {s0 : S} {wl : List (Option (List Nat))} {tr : Nat → OutM} {K : S → Option R}
    (htr : ∀ i, i < ops.size → ∃ o, ops[i]? = some o ∧ TrOK E.P G nt base ops (masks ops.toList []) wl (stD ops base s0 tr (fun _ => True) i) i o (tr i)) (hK : K (stD ops base s0 tr (fun _ => True) ops.size) = some r) :
    ∀ (fuel : Nat) (listed : Array Bool) (a : Act) (w : World) (St : Stb) (β : Bet), listed.size = ops.size →
      (∀ (i : Nat) (o : Oper), listed.getD i true = true → ops[i]? = some o → ∀ e ∈ o.after.toList, Region.binds .any e = true → listed.getD e.on true = true) →
      SRel w0 St0 Q nt w St β a (stD ops base s0 tr (fun i => listed.getD i true = true) ops.size) →
      (∀ id, base ≤ id → β id ≠ none → ∃ i, i < ops.size ∧ listed.getD i true = true ∧ base + 4 * i ≤ id ∧ id < base + 4 * i + 4) →
      (List.range ops.size).countP (fun i => !listed.getD i true) ≤ fuel →
      wpAny E.P .any ops (fun e a' w' => e = .normal ∧ ∃ s' St' β', SRel w0 St0 Q nt w' St' β' a' s' ∧ K s' = some r ∧ ∀ id, base + 4 * ops.size ≤ id → β' id = none) fuel listed a w := by
  intro fuel
  have hlt : ∀ {i e : Nat} {o : Oper}, ops[i]? = some o → ∀ ed ∈ o.after.toList, Region.binds .any ed = true → ed.on < i := fun {i e o} ho ed he hb => by
    have := (allOk_get ops.toList 0 i o hok (by simpa using ho)).1
    simp only [opOk, Nat.zero_add, Bool.and_eq_true, List.all_eq_true] at this
    have := this.2 ed he
    rw [hb] at this
    simp only [Bool.not_true, Bool.false_or] at this
    exact Nat.le_of_ble_eq_true this
  -- nobody may come up: all have
  have done : ∀ (listed : Array Bool) (a : Act) (w : World) (St : Stb) (β : Bet), listed.size = ops.size → SRel w0 St0 Q nt w St β a (stD ops base s0 tr (fun i => listed.getD i true = true) ops.size) →
      (∀ id, base ≤ id → β id ≠ none → ∃ i, i < ops.size ∧ listed.getD i true = true ∧ base + 4 * i ≤ id ∧ id < base + 4 * i + 4) → Region.ready .any ops listed = [] →
      (∃ s' St' β', SRel w0 St0 Q nt w St' β' a s' ∧ K s' = some r ∧ ∀ id, base + 4 * ops.size ≤ id → β' id = none) := by
    intro listed a w St β hls hs hfr hr
    have all : ∀ i, i < ops.size → listed.getD i true = true := by
      intro i
      induction i using Nat.strongRecOn with
      | _ i ih =>
        intro hi
        have ho : ops[i]? = some ops[i] := Array.getElem?_eq_getElem hi
        cases hx : listed.getD i true with
        | true => rfl
        | false =>
          exfalso
          have : i ∈ Region.ready .any ops listed := mem_ready.2 ⟨hx, _, ho, fun e he hb => by
            have h1 := hlt (e := 0) ho e (by simpa using he) hb
            have h2 := ih e.on h1 (by omega)
            rw [Array.getD_eq_getD_getElem?] at h2 ⊢
            have h3 : e.on < listed.size := by omega
            rw [Array.getElem?_eq_getElem h3] at h2 ⊢
            exact h2⟩
          rw [hr] at this; cases this
    have e : stD ops base s0 tr (fun i => listed.getD i true = true) ops.size = stD ops base s0 tr (fun _ => True) ops.size := stD_congr _ (fun i hi => ⟨fun _ => trivial, fun _ => all i hi⟩)
    refine ⟨_, St, β, hs, by rw [e]; exact hK, fun id hid => ?_⟩
    cases hb : β id with
    | none => rfl
    | some l =>
      obtain ⟨i, h1, _, h2, h3⟩ := hfr id (by omega) (by rw [hb]; simp)
      omega
  induction fuel with
  | zero =>
    intro listed a w St β hls hcl hs hfr hcnt
    have hr : Region.ready .any ops listed = [] := by
      cases hq : Region.ready .any ops listed with
      | nil => rfl
      | cons j js =>
        have hj : j ∈ Region.ready .any ops listed := by rw [hq]; exact List.mem_cons_self ..
        obtain ⟨hx, o, ho, _⟩ := mem_ready.1 hj
        have hlt' := (Array.getElem?_eq_some_iff.1 ho).1
        have : 0 < (List.range ops.size).countP (fun i => !listed.getD i true) := List.countP_pos_iff.2 ⟨j, List.mem_range.2 hlt', by rw [hx]; rfl⟩
        omega
    exact ⟨hr, rfl, done listed a w St β hls hs hfr hr⟩
  | succ fuel ih =>
    intro listed a w St β hls hcl hs hfr hcnt
    refine ⟨fun hr => ⟨rfl, done listed a w St β hls hs hfr hr⟩, fun j hj => ?_⟩
    obtain ⟨hx, o, ho, hall⟩ := mem_ready.1 hj
    have hjn := (Array.getElem?_eq_some_iff.1 ho).1
    have hjD : ¬ (listed.getD j true = true) := by rw [hx]; simp
    obtain ⟨o', ho', hT⟩ := htr j hjn
    rw [ho] at ho'; cases ho'
    have hpre : ∀ e ∈ o.after.toList, Region.binds .any e = true → listed.getD e.on true = true := fun e he hb => by
      have h1 := hall e (by simpa using he) hb
      have h2 := hlt (e := 0) ho e he hb
      have h3 : e.on < listed.size := by omega
      rw [Array.getD_eq_getD_getElem?] at h1 ⊢
      rw [Array.getElem?_eq_getElem h3] at h1 ⊢
      exact h1
    have hA : ∀ i, ((masks ops.toList []).getD j 0).testBit i = true → listed.getD i true = true ∧ i < j := anc_in hok (D := fun i => listed.getD i true = true) (fun i o h1 h2 => hcl i o h1 h2) j o ho hpre
    have hB : ∀ i, i < ops.size → listed.getD i true = true → ((masks ops.toList []).getD i 0).testBit j = true → False := fun i hi hD ht =>
      hjD (anc_in hok (D := fun i => listed.getD i true = true) (fun i o h1 h2 => hcl i o h1 h2) i _ (Array.getElem?_eq_getElem hi) (hcl i _ hD (Array.getElem?_eq_getElem hi)) j ht).1
    have hLt : ∀ i k, k < ops.size → ((masks ops.toList []).getD k 0).testBit i = true → i < k := fun i k hk ht =>
      (anc_in hok (D := fun _ => True) (fun _ _ _ _ _ _ _ => trivial) k _ (Array.getElem?_eq_getElem hk) (fun _ _ _ => trivial) i ht).2
    -- ordered: both agree on who is ahead
    have hOrd : ∀ i, i < ops.size → ordered (masks ops.toList []) j i = true → (listed.getD i true = true ↔ i < j) := fun i hi h => by
      simp only [ordered, Bool.or_eq_true] at h
      rcases h with h | h
      · have := hLt j i hi h
        exact ⟨fun hD => (hB i hi hD h).elim, fun hlt => by omega⟩
      · have := hA i h
        exact ⟨fun _ => this.2, fun _ => this.1⟩
    have hApart : ∀ i oi, ops[i]? = some oi → i ≠ j → ordered (masks ops.toList []) j i = false → o.apart ops oi = true := fun i oi hoi hne hno => by
      have := pairOk_get ops.toList 0 i oi (allOk_get ops.toList 0 j o hok (by simpa using ho)).2 (by simpa using hoi)
      simp only [Nat.zero_add] at this
      rcases this with h | h | h
      · exact absurd h.symm hne
      · rw [hno] at h; cases h
      · exact h
    -- the text's state ahead of j, as_ a subset's state
    have hTj : stD ops base s0 tr (fun _ => True) j = stD ops base s0 tr (fun i => i < j) ops.size := by
      rw [show ops.size = j + (ops.size - j) by omega, stD_lt]
    have hlook : ∀ t, t ∈ o.looksAt ops → getF (stD ops base s0 tr (fun i => listed.getD i true = true) ops.size).fr t = getF (stD ops base s0 tr (fun _ => True) j).fr t := fun t ht => by
      rw [hTj]
      refine fr_agree _ fun i hi hd => ?_
      by_cases hij : i = j
      · subst hij; exact ⟨fun h => (hjD h).elim, fun h => by omega⟩
      · cases hno : ordered (masks ops.toList []) j i with
        | true => exact hOrd i hi hno
        | false =>
          exfalso
          have hoi : ops[i]? = some ops[i] := Array.getElem?_eq_getElem hi
          have hd' : ops[i].dst = some t := by simpa [dstAt, hoi] using hd
          exact (Oper.apart_spec (hApart i _ hoi hij hno)).2.2 t hd' ht
    have hguard : guardF ops o (stD ops base s0 tr (fun i => listed.getD i true = true) ops.size).fr = guardF ops o (stD ops base s0 tr (fun _ => True) j).fr := by
      unfold guardF
      cases hg : o.guard with
      | none => rfl
      | some x =>
        obtain ⟨q, want⟩ := x
        simp only
        cases hd : dstAt ops q with
        | none => rfl
        | some d =>
          simp only
          rw [hlook d (by unfold Oper.looksAt; rw [hg]; refine List.mem_append_right _ ?_; unfold dstAt at hd; simp [hd])]
    have hsees : SeesX (isE2 o || !(tr j).ups.isEmpty) (vwD base ops (masks ops.toList []) wl j (stD ops base s0 tr (fun _ => True) j).mem) (getM (stD ops base s0 tr (fun i => listed.getD i true = true) ops.size).mem) := fun id rw_ h => by
      unfold vwD at h
      cases hbs : besideW (masks ops.toList []) wl j id 0 ops.toList with
      | true => rw [hbs] at h; cases h
      | false =>
        rw [hbs] at h
        simp only [cond_false] at h
        have hto : ∀ i, i < ops.size → Touch base tr i id → (listed.getD i true = true ↔ i < j) := fun i hi ht => by
          obtain ⟨oi, hoi, hTi⟩ := htr i hi
          rcases ht with hu | ⟨h1, h2⟩
          · have he := (hTi.wr hu).1
            have := besideW_get ops.toList 0 i oi hbs (by simpa using hoi) he
            simp only [Nat.zero_add] at this
            rcases this with rfl | h3 | h3
            · exact ⟨fun h => (hjD h).elim, fun h => by omega⟩
            · exact hOrd i hi h3
            · rw [hTi.wh _ hu] at h3; cases h3
          · have hr4 := hTi.row
            cases hbl : Nat.blt id base with
            | true => have := Nat.le_of_ble_eq_true hbl; omega
            | false =>
              rw [hbl] at h
              simp only [cond_false] at h
              have : (id - base) / 4 = i := by omega
              rw [this] at h
              cases htb : ((masks ops.toList []).getD j 0).testBit i with
              | false => rw [htb] at h; cases h
              | true => have := hA i htb; exact ⟨fun _ => this.2, fun _ => this.1⟩
        have hview : getM (stD ops base s0 tr (fun _ => True) j).mem id = some rw_ := by
          cases hbl : Nat.blt id base with
          | true => rw [hbl] at h; exact h
          | false =>
            rw [hbl] at h
            simp only [cond_false] at h
            cases htb : ((masks ops.toList []).getD j 0).testBit ((id - base) / 4) with
            | false => rw [htb] at h; cases h
            | true => rw [htb] at h; exact h
        rw [hTj] at hview
        cases he2 : (isE2 o || !(tr j).ups.isEmpty) with
        | false =>
          have hag := mem_agree_fz (ops := ops) (base := base) (s0 := s0) (tr := tr) (D := fun i => listed.getD i true = true) (D' := fun i => i < j) (id := id) ops.size hto
          unfold FzEq at hag
          rw [hview] at hag
          cases hact : getM (stD ops base s0 tr (fun i => listed.getD i true = true) ops.size).mem id with
          | none => rw [hact] at hag; cases hag
          | some r' => rw [hact] at hag; exact .inr ⟨rfl, r', rfl, by simpa using hag⟩
        | true =>
          have hag := mem_agree (ops := ops) (base := base) (s0 := s0) (tr := tr) (D := fun i => listed.getD i true = true) (D' := fun i => i < j) (id := id) ops.size (fun i hi ht => by
            rcases ht with ht | hz
            · exact hto i hi ht
            · by_cases hij : i = j
              · subst hij; exact ⟨fun h => (hjD h).elim, fun h => by omega⟩
              · obtain ⟨oi, hoi, hTi⟩ := htr i hi
                have hvis := hTi.fz _ hz
                unfold vwD0 at hvis
                cases hbi : beside (masks ops.toList []) wl i 0 ops.toList with
                | true => rw [hbi] at hvis; cases hvis
                | false =>
                  have hwb : wrB wl j o = true := by
                    simp only [Bool.or_eq_true, Bool.not_eq_true'] at he2
                    rcases he2 with he2 | he2
                    · simp [wrB, he2]
                    · cases hu : (tr j).ups with
                      | nil => rw [hu] at he2; cases he2
                      | cons x l => exact (hT.wr (id := x.1) (.inr ⟨x.2, by rw [hu]; exact List.mem_cons_self ..⟩)).2
                  have := beside_get ops.toList 0 j o hbi (by simpa using ho) (by simpa using hwb)
                  simp only [Nat.zero_add] at this
                  rcases this with h3 | h3
                  · exact absurd h3 hij
                  · exact hOrd i hi (by simp only [ordered, Bool.or_eq_true] at h3 ⊢; exact h3.symm))
          exact .inl (hag.trans hview)
    -- behind it
    have hda : dstAt ops j = o.dst := by simp [dstAt, ho]
    have hsz : ops.size = j + 1 + (ops.size - (j + 1)) := by omega
    have hset : ∀ i, ((listed.setIfInBounds j true).getD i true = true) ↔ (listed.getD i true = true ∨ i = j) := fun i => by
      by_cases hij : j = i
      · subst hij
        have : j < listed.size := by omega
        simp [Array.getElem?_setIfInBounds, this]
      · rw [getD_set_ne true hij]
        exact ⟨.inl, fun h => h.resolve_right (fun e => hij e.symm)⟩
    have hst' : stD ops base s0 tr (fun i => (listed.setIfInBounds j true).getD i true = true) ops.size = stD ops base s0 tr (fun i => listed.getD i true = true ∨ i = j) ops.size := stD_congr _ (fun i _ => hset i)
    have hun : ∀ i, j < i → i < ops.size → listed.getD i true = true → ordered (masks ops.toList []) j i = false := fun i h1 h2 hD => by
      cases hno : ordered (masks ops.toList []) j i with
      | false => rfl
      | true => have := (hOrd i h2 hno).1 hD; omega
    have hmm : ∀ id, getM (stD ops base s0 tr (fun i => (listed.setIfInBounds j true).getD i true = true) ops.size).mem id = getM (applyOut (stD ops base s0 tr (fun i => listed.getD i true = true) ops.size) o.dst (base + 4 * j) (tr j)).mem id := fun id => by
      rw [hst', getM_apply, hsz]
      refine mem_more (D := fun i => listed.getD i true = true) hjD _ fun i h1 h2 hD => ?_
      have hi : i < ops.size := by omega
      obtain ⟨oi, hoi, hTi⟩ := htr i hi
      have hno := hun i h1 hi hD
      have hno2 : ordered (masks ops.toList []) i j = false := by simp only [ordered, Bool.or_eq_false_iff] at hno ⊢; exact ⟨hno.2, hno.1⟩
      simp only [ordered, Bool.or_eq_false_iff] at hno
      refine ⟨?_, ?_, ?_⟩
      rotate_left
      · rintro ⟨ht, hz⟩
        have hvis := hT.fz _ hz
        exact visNo hvis hoi hTi ht (by omega) hno.2 (by simpa [ordered, Bool.or_eq_false_iff] using hno)
      · rintro ⟨hz, ht⟩
        have hvis := hTi.fz _ hz
        exact visNo hvis ho hT ht (by omega) hno.1 (by simpa [ordered, Bool.or_eq_false_iff] using ⟨hno.2, hno.1⟩)
      rintro ⟨hu | ⟨g1, g2⟩, hv | ⟨g3, g4⟩⟩
      · have hvis := hTi.up _ hu
        have he := (hT.wr hv).1
        unfold vwD at hvis
        cases hbs : besideW (masks ops.toList []) wl i id 0 ops.toList with
        | true => rw [hbs] at hvis; cases hvis
        | false =>
          have := besideW_get ops.toList 0 j o hbs (by simpa using ho) he
          simp only [Nat.zero_add] at this
          rcases this with h | h | h
          · omega
          · rw [hno2] at h; cases h
          · rw [hT.wh _ hv] at h; cases h
      · have hvis := hTi.up _ hu
        have hr4 := hT.row
        unfold vwD at hvis
        cases hbs : besideW (masks ops.toList []) wl i id 0 ops.toList with
        | true => rw [hbs] at hvis; cases hvis
        | false =>
          rw [hbs] at hvis
          simp only [cond_false] at hvis
          cases hbl : Nat.blt id base with
          | true => have := Nat.le_of_ble_eq_true hbl; omega
          | false =>
            rw [hbl] at hvis
            have : (id - base) / 4 = j := by omega
            simp only [cond_false, this, hno.1] at hvis
            cases hvis
      · have hvis := hT.up _ hv
        have hr4 := hTi.row
        unfold vwD at hvis
        cases hbs : besideW (masks ops.toList []) wl j id 0 ops.toList with
        | true => rw [hbs] at hvis; cases hvis
        | false =>
          rw [hbs] at hvis
          simp only [cond_false] at hvis
          cases hbl : Nat.blt id base with
          | true => have := Nat.le_of_ble_eq_true hbl; omega
          | false =>
            rw [hbl] at hvis
            have : (id - base) / 4 = i := by omega
            simp only [cond_false, this, hno.2] at hvis
            cases hvis
      · have := hT.row; have := hTi.row; omega
    have hff : ∀ t, getF (stD ops base s0 tr (fun i => (listed.setIfInBounds j true).getD i true = true) ops.size).fr t = getF (applyOut (stD ops base s0 tr (fun i => listed.getD i true = true) ops.size) o.dst (base + 4 * j) (tr j)).fr t := fun t => by
      rw [hst']
      show _ = getF (putF o.dst (tr j).v _) t
      rw [hsz, ← hda]
      refine fr_more (D := fun i => listed.getD i true = true) hjD _ fun i h1 h2 hD d hd hjd => ?_
      have hi : i < ops.size := by omega
      have hoi : ops[i]? = some ops[i] := Array.getElem?_eq_getElem hi
      have hno := hun i h1 hi hD
      have hap := hApart i _ hoi (by omega) hno
      rw [hda] at hjd
      have hd' : ops[i].dst = some d := by simpa [dstAt, hoi] using hd
      exact (Oper.apart_spec hap).2.1 d hjd hd'
    have hcl' : ∀ (i : Nat) (o : Oper), (listed.setIfInBounds j true).getD i true = true → ops[i]? = some o → ∀ e ∈ o.after.toList, Region.binds .any e = true → (listed.setIfInBounds j true).getD e.on true = true := fun i oi hi hoi e he hb => by
      rw [hset] at hi ⊢
      rcases hi with hi | rfl
      · exact .inl (hcl i oi hi hoi e he hb)
      · rw [ho] at hoi; cases hoi
        exact .inl (hpre e he hb)
    have hcnt' : (List.range ops.size).countP (fun i => !(listed.setIfInBounds j true).getD i true) ≤ fuel := by
      have := (countP_lt (p := fun i => !listed.getD i true) (p' := fun i => !(listed.setIfInBounds j true).getD i true) (fun i hi => by
        cases hq : listed.getD i true with
        | false => rfl
        | true =>
          have := (hset i).2 (.inl hq)
          simp only [this, Bool.not_true] at hi
          cases hi) (List.range ops.size)).2 j (List.mem_range.2 hjn) (by simp only [hx]; rfl) (by have := (hset j).2 (.inr rfl); simp only [this]; rfl)
      omega
    have hsz' : (listed.setIfInBounds j true).size = ops.size := by simpa using hls
    unfold wpOp
    simp only [ho]
    rcases hT.how with ⟨hg, hok'⟩ | ⟨hg, hout⟩
    · rw [guard_want hs.fr (hguard.trans hg), if_pos rfl]
      refine .inl ?_
      refine hok' w St Q β w0.base (getM (stD ops base s0 tr (fun i => listed.getD i true = true) ops.size).mem) a (fun w' hb => hG w' (hs.below.trans hb)) (hs.pre hqb fun q hq => ?_) (fun x hxo => ?_) (by
        have hfl : (isE2 o || !(tr j).ups.isEmpty || (tr j).upd.isSome) = (isE2 o || !(tr j).ups.isEmpty) := by
          cases hu : (tr j).upd with
          | none => simp
          | some y => rw [hT.eu (by rw [hu]; simp)]; simp
        rw [hfl]; exact hsees) _ _ fun v w' St' β' hgood => ?_
      · cases hb : β (base + 4 * j + q) with
        | none => rfl
        | some l =>
          obtain ⟨i, h1, h2, h3, h4⟩ := hfr (base + 4 * j + q) (by omega) (by rw [hb]; simp)
          have : i = j := by omega
          subst this
          exact (hjD h2).elim
      · have := hs.eval x
        cases x with
        | tmp t =>
          have hl := hlook t (by unfold Oper.looksAt; refine List.mem_append_left _ ?_; exact List.mem_filterMap.2 ⟨.tmp t, by simpa using hxo, rfl⟩)
          simp only [evalF] at this ⊢
          rw [← hl]; exact this
        | _ => exact this
      · refine ih _ _ w' St' β' hsz' hcl' ((hs.good hT.dst hgood).congr hmm hff) (fun id hid hne => ?_) hcnt'
        by_cases he : β' id = β id
        · rw [he] at hne
          obtain ⟨i, h1, h2, h3⟩ := hfr id hid hne
          exact ⟨i, h1, (hset i).2 (.inl h2), h3⟩
        · have := hgood.bnew id he
          exact ⟨j, hjn, (hset j).2 (.inr rfl), this⟩
    · rw [guard_want hs.fr (hguard.trans hg), if_neg (by simp)]
      have hsk := hs.skip (dst := o.dst) hT.dst (base + 4 * j)
      rw [← hout] at hsk
      refine ih _ _ w St β hsz' hcl' (hsk.congr hmm hff) (fun id hid hne => ?_) hcnt'
      obtain ⟨i, h1, h2, h3⟩ := hfr id hid hne
      exact ⟨i, h1, (hset i).2 (.inl h2), h3⟩

end
end Go.Proofs.Ytefhcmkiachphaa.Ab
end
section
/- The end of a function: what it hands back, in Go's memory. -/
set_option linter.unusedVariables false
set_option linter.unusedSimpArgs false
namespace Go.Proofs.Ytefhcmkiachphaa.Ab
open Go Go.RowKit

section
variable {R : Type} {r : R} {E : Env} {G : World → Prop} {w0 : Ent} {St0 Q : Stb} {nt : Nat}

def resIds (E : Env) (s : S) (v : ResultVar) : List Nat := match resA E s v with | some x => owCs x | none => []

def dIds (E : Env) (s : S) : List ResultVar → List RT → List Nat
  | v :: vs, .d _ :: rs => resIds E s v ++ dIds E s vs rs
  | _ :: vs, .own .. :: rs => dIds E s vs rs
  | _, _ => []

def oIds (E : Env) (s : S) : List ResultVar → List RT → List Nat
  | v :: vs, .own .. :: rs => resIds E s v ++ oIds E s vs rs
  | _ :: vs, .d _ :: rs => oIds E s vs rs
  | _, _ => []

theorem any_false {l m : List Nat} (h : (l.any fun i => m.any (Nat.beq i)) = false) : ∀ i ∈ l, i ∉ m := fun i hi hm => by
  rw [List.any_eq_false] at h
  have := h i hi
  simp only [List.any_eq_true, not_exists, not_and] at this
  exact this i hm (by simp)

theorem finOne_nodup {m : Nat → Option Row} {e : TypeId} {T : Ty} {x : A} {y : RV} (h : finOne m (.own e T) x = some y) : (owCs x).Nodup := by
  cases x with
  | ag cs => simp [finOne] at h
  | c x => cases x <;> simp [owCs, owIds, A.cells]

theorem finR_step {E : Env} {s : S} {v : ResultVar} {vs : List ResultVar} {rt : RT} {rs : List RT} {out seen : List Nat} {ys : List RV} (h : finR E s (v :: vs) (rt :: rs) out seen = some ys) :
    ∃ x y ys' out' seen', resA E s v = some x ∧ finOne (getM s.mem) rt x = some y ∧ finR E s vs rs out' seen' = some ys' ∧ ys = y :: ys' := by
  simp only [finR] at h
  cases hx : resA E s v with
  | none => rw [hx] at h; cases h
  | some x =>
    rw [hx] at h
    simp only at h
    cases rt with
    | d T =>
      simp only [Bool.or_false] at h
      cases ha : ((owCs x).any fun i => out.any (Nat.beq i)) with
      | true => rw [ha] at h; cases h
      | false =>
        rw [ha] at h
        simp only [cond_false] at h
        cases hy : finOne (getM s.mem) (.d T) x with
        | none => rw [hy] at h; cases h
        | some y =>
          rw [hy] at h
          simp only at h
          split at h
          · rename_i ys' hys
            cases h
            exact ⟨x, y, ys', _, _, rfl, hy, hys, rfl⟩
          · cases h
    | own e T =>
      simp only at h
      cases ha : (((owCs x).any fun i => out.any (Nat.beq i)) || ((owCs x).any fun i => seen.any (Nat.beq i))) with
      | true => rw [ha] at h; cases h
      | false =>
        rw [ha] at h
        simp only [cond_false] at h
        cases hy : finOne (getM s.mem) (.own e T) x with
        | none => rw [hy] at h; cases h
        | some y =>
          rw [hy] at h
          simp only at h
          split at h
          · rename_i ys' hys
            cases h
            exact ⟨x, y, ys', _, _, rfl, hy, hys, rfl⟩
          · cases h

theorem finR_ids (E : Env) (s : S) : ∀ (vs : List ResultVar) (rs : List RT) (out seen : List Nat) (ys : List RV), finR E s vs rs out seen = some ys →
    (∀ id ∈ out, id ∉ dIds E s vs rs ∧ id ∉ oIds E s vs rs) ∧ (∀ id ∈ seen, id ∉ oIds E s vs rs) ∧ (∀ id ∈ oIds E s vs rs, id ∉ dIds E s vs rs) ∧ (oIds E s vs rs).Nodup
  | [], [], _, _, _, _ => ⟨fun _ _ => ⟨fun h => by simp [dIds] at h, fun h => by simp [oIds] at h⟩, fun _ _ h => by simp [oIds] at h, fun _ h => by simp [oIds] at h, by simp [oIds]⟩
  | [], _ :: _, _, _, _, h => by simp [finR] at h
  | _ :: _, [], _, _, _, h => by simp [finR] at h
  | v :: vs, .d T :: rs, out, seen, ys, h => by
    simp only [finR] at h
    split at h
    · rename_i x hx
      simp only [Bool.or_false] at h
      cases ha : ((owCs x).any fun i => out.any (Nat.beq i)) with
      | true => rw [ha] at h; cases h
      | false =>
        rw [ha] at h
        simp only [cond_false] at h
        split at h
        · split at h
          · rename_i ys' hys
            obtain ⟨h1, h2, h3, h4⟩ := finR_ids E s vs rs out (owCs x ++ seen) ys' hys
            have hr : resIds E s v = owCs x := by simp [resIds, hx]
            have hno := any_false ha
            simp only [dIds, oIds, hr]
            refine ⟨fun id hid => ⟨fun hm => ?_, (h1 id hid).2⟩, fun id hid => h2 id (List.mem_append_right _ hid), fun id hid hm => ?_, h4⟩
            · rcases List.mem_append.1 hm with hm | hm
              · exact hno id hm hid
              · exact (h1 id hid).1 hm
            · rcases List.mem_append.1 hm with hm | hm
              · exact h2 id (List.mem_append_left _ hm) hid
              · exact h3 id hid hm
          · cases h
        · cases h
    · cases h
  | v :: vs, .own e T :: rs, out, seen, ys, h => by
    simp only [finR] at h
    split at h
    · rename_i x hx
      cases ha : (((owCs x).any fun i => out.any (Nat.beq i)) || ((owCs x).any fun i => seen.any (Nat.beq i))) with
      | true => rw [ha] at h; cases h
      | false =>
        rw [ha] at h
        simp only [cond_false] at h
        simp only [Bool.or_eq_false_iff] at ha
        split at h
        · rename_i y hy
          split at h
          · rename_i ys' hys
            obtain ⟨h1, h2, h3, h4⟩ := finR_ids E s vs rs (owCs x ++ out) (owCs x ++ seen) ys' hys
            have hr : resIds E s v = owCs x := by simp [resIds, hx]
            have hno := any_false ha.1
            have hno2 := any_false ha.2
            simp only [dIds, oIds, hr]
            have hnd : (owCs x).Nodup := finOne_nodup hy
            refine ⟨fun id hid => ⟨(h1 id (List.mem_append_right _ hid)).1, fun hm => ?_⟩, fun id hid hm => ?_, fun id hid hm => ?_, List.nodup_append.2 ⟨hnd, h4, fun a ha b hb e => ?_⟩⟩
            · rcases List.mem_append.1 hm with hm | hm
              · exact hno id hm hid
              · exact (h1 id (List.mem_append_right _ hid)).2 hm
            · rcases List.mem_append.1 hm with hm | hm
              · exact hno2 id hm hid
              · exact h2 id (List.mem_append_right _ hid) hm
            · rcases List.mem_append.1 hid with hid | hid
              · exact (h1 id (List.mem_append_left _ hid)).1 hm
              · exact h3 id hid hm
            · subst e; exact (h1 a (List.mem_append_left _ ha)).2 hb
          · cases h
        · cases h
    · cases h

theorem RelA.nob {w : World} {St : Stb} {T : Ty} {c : Value} {l : List Value} {d : T.den} (h : RelT w St T l d) (hc : if T.agg then c = .agg l.toArray else l = [c]) : RelA w St noQ noBet c (inj T d) := rel_injA h hc

theorem resA_run (hti : ∀ t i, E.ti t = some i → TIok E.P t i) {w : World} {St : Stb} {β : Bet} {a : Act} {s : S} (h : SRel w0 St0 Q nt w St β a s) {v : ResultVar} {x : A} (hx : resA E s v = some x) :
    ∃ c, ((match v with | .tmp t => pure (a.tmps.getD t undef) | .cell q t => do loadVar t (← asAddr (a.tmps.getD q undef)) : Sem Value)).run E.P w = .ok c w ∧ RelA w St Q β c x := by
  cases v with
  | tmp t =>
    simp only [resA] at hx
    split at hx
    · rename_i y hy
      cases hx
      have := h.fr t
      rw [hy] at this
      exact ⟨_, rfl, this⟩
    · cases hx
  | cell q t =>
    simp only [resA] at hx
    split at hx
    · rename_i p i hp hi
      obtain ⟨y, hy, hl⟩ := loadK_sound hx
      simp only [Option.some.injEq] at hy
      subst hy
      have hr := h.fr q
      rw [hp] at hr
      obtain ⟨c, h1, h2⟩ := hl w St Q β w0.base (getM s.mem) h.mem (Sees.same _) t (hti _ _ hi) _ hr
      refine ⟨c, ?_, h2⟩
      obtain ⟨b, o, e, _⟩ := rel_move (show RelP w St Q β _ p from hr)
      simp only [e] at h1 ⊢
      simpa [Instr.loadAt, Instr.sureAddr, asAddr] using h1
    · cases hx

theorem finOne_rel {w : World} {St : Stb} {β : Bet} {a : Act} {s : S} (hs : SRel w0 St0 Q nt w St β a s) {ids : List Nat} {rt : RT} {x : A} {y : RV} (h : finOne (getM s.mem) rt x = some y) {c : Value} (hc : RelA w St Q β c x)
    (hd : ∀ T, rt = .d T → ∀ id ∈ owCs x, id ∈ ids) (ho : ∀ e T, rt = .own e T → ∀ id ∈ owCs x, id ∉ ids) :
    ∃ ob, RelRV w (stF β (getM s.mem) St ids) w0.base c y ob ∧ ∀ b, ob = some b → ∃ id, (∃ e T, rt = .own e T) ∧ id ∈ owCs x ∧ ∃ loc rr, getM s.mem id = some rr ∧ β id = some loc ∧ loc.b = some b := by
  cases rt with
  | d T =>
    simp only [finOne] at h
    cases hsh : shapeOk T x with
    | false => rw [hsh] at h; cases h
    | true =>
      rw [hsh] at h
      simp only [cond_true] at h
      split at h
      · rename_i d hpd
        cases h
        have hT := rel_prj (reC0_all (m := getM s.mem) hs.mem (Sees.same _) (ids := ids) (fun id len hm => hd T rfl id (owIds_mem hm)) (rel_cells hc)) hpd
        exact ⟨none, ⟨rfl, RelA.nob hT (shape_val hsh hc)⟩, fun b hb => by cases hb⟩
      · cases h
  | own e T =>
    cases x with
    | ag cs => simp [finOne] at h
    | c x => cases x with
      | nl =>
        simp only [finOne, Option.some.injEq] at h
        subst h
        exact ⟨none, ⟨hc, rfl⟩, fun b hb => by cases hb⟩
      | ow id len =>
        simp only [finOne] at h
        split at h
        · rename_i e' T' xs hm
          cases hbe : Nat.beq e' e with
          | false => rw [hbe] at h; cases h
          | true =>
            rw [hbe] at h
            simp only [cond_true] at h
            obtain rfl := Nat.eq_of_beq_eq_true hbe
            split at h
            · rename_i hT
              subst hT
              cases h
              obtain ⟨loc, hlb, hcc⟩ := (show RelC w St Q β c (.ow id len) from hc)
              obtain ⟨cap, ⟨hb', rfl⟩ | ⟨b, cur, hb', hh, hsz, hx, hmx, hrel, hB, hst, _⟩⟩ := hs.mem.arr hm
              · rw [hlb] at hb'; cases hb'
                rcases hcc with ⟨_, rfl, rfl⟩ | ⟨b, h0, _⟩
                · exact ⟨none, ⟨rfl, by simp [castL]⟩, fun b hb => by cases hb⟩
                · cases h0
              · rw [hlb] at hb'; cases hb'
                rcases hcc with ⟨h0, _⟩ | ⟨b', h0, rfl, hle⟩
                · cases h0
                · cases h0
                  simp only at hle
                  have hlen : (xs.take len).length = len := by rw [List.length_take]; omega
                  have hrel' : RelL w (stF β (getM s.mem) St ids) T' cur.toList (xs.take len) := (hrel.take len).mono (frz_keep w St Q β (getM s.mem) ids).ext
                  refine ⟨some b, ⟨cap, cur, by show Value.slice _ _ _ = Value.slice _ (xs.take len).length _; rw [hlen], hB, hh, hsz, by show (xs.take len).length ≤ cap; omega, hmx, hrel', fun o hso => ?_⟩, fun b' hb' => by
                    cases hb'; exact ⟨id, ⟨_, _, rfl⟩, by simp [owCs, owIds, A.cells], _, _, hm, hlb, rfl⟩⟩
                  rcases hso with hso | ⟨id', hin, r', loc', hm', hb', hlb', _⟩
                  · have := (hst o hso).1; cases this
                  · by_cases he : id = id'
                    · subst he; exact ho _ _ rfl id (by simp [owCs, owIds, A.cells]) hin
                    · exact hs.mem.dist id id' _ _ _ _ b hm hm' he hlb hb' rfl hlb'
            · cases h
        · cases h
      | _ => simp [finOne] at h

theorem finR_rel (hti : ∀ t i, E.ti t = some i → TIok E.P t i) {w : World} {St : Stb} {β : Bet} {a : Act} {s : S} (hs : SRel w0 St0 Q nt w St β a s) {ids : List Nat} : ∀ (vs : List ResultVar) (rs : List RT) (out seen : List Nat) (ys : List RV),
    finR E s vs rs out seen = some ys → (∀ id ∈ dIds E s vs rs, id ∈ ids) → (∀ id ∈ oIds E s vs rs, id ∉ ids) → (oIds E s vs rs).Nodup →
    ∃ (cs : List Value) (obs : List (Option Nat)), (vs.mapM (fun v => (match v with | .tmp t => pure (a.tmps.getD t undef) | .cell q t => do loadVar t (← asAddr (a.tmps.getD q undef)) : Sem Value))).run E.P w = .ok cs w ∧
      RelRVs w (stF β (getM s.mem) St ids) w0.base cs ys obs ∧ (∀ (i : Nat) b, obs[i]? = some (some b) → ∃ id ∈ oIds E s vs rs, ∃ loc rr, getM s.mem id = some rr ∧ β id = some loc ∧ loc.b = some b) ∧
      (∀ (i j : Nat) (b : Nat), obs[i]? = some (some b) → obs[j]? = some (some b) → i = j)
  | [], [], _, _, ys, h, _, _, _ => by
    simp only [finR, Option.some.injEq] at h
    subst h
    exact ⟨[], [], rfl, trivial, fun i b h => by simp at h, fun i j b h => by simp at h⟩
  | [], _ :: _, _, _, _, h, _, _, _ => by simp [finR] at h
  | _ :: _, [], _, _, _, h, _, _, _ => by simp [finR] at h
  | v :: vs, rt :: rs, out, seen, ys, h, hd, ho, hnd => by
    obtain ⟨x, y, ys', out', seen', hx, hy, hys, rfl⟩ := finR_step h
    have hri : resIds E s v = owCs x := by simp [resIds, hx]
    obtain ⟨c, hc1, hc2⟩ := resA_run hti hs hx
    obtain ⟨ob, hob, hob2⟩ := finOne_rel hs (ids := ids) hy hc2 (fun T e id hid => hd id (by subst e; simp only [dIds, hri]; exact List.mem_append_left _ hid))
      (fun e T e' id hid => ho id (by subst e'; simp only [oIds, hri]; exact List.mem_append_left _ hid))
    have hd' : ∀ id ∈ dIds E s vs rs, id ∈ ids := fun id hid => hd id (by cases rt <;> simp only [dIds] <;> first | exact List.mem_append_right _ hid | exact hid)
    have ho' : ∀ id ∈ oIds E s vs rs, id ∉ ids := fun id hid => ho id (by cases rt <;> simp only [oIds] <;> first | exact List.mem_append_right _ hid | exact hid)
    have hnd' : (oIds E s vs rs).Nodup := by
      cases rt with
      | d T => exact hnd
      | own e T => simp only [oIds] at hnd; exact (List.nodup_append.1 hnd).2.1
    obtain ⟨cs, obs, h1, h2, h3, h4⟩ := finR_rel hti hs vs rs _ _ ys' hys hd' ho' hnd'
    have hcross : ∀ (j : Nat) (b : Nat), ob = some b → obs[j]? = some (some b) → False := fun j b e hj => by
      obtain ⟨id, ⟨e1, T1, hrt⟩, hid, loc, rr, hm, hb, hlb⟩ := hob2 b e
      obtain ⟨id', hid', loc', rr', hm', hb', hlb'⟩ := h3 j b hj
      subst hrt
      simp only [oIds, hri] at hnd
      have hne := (List.nodup_append.1 hnd).2.2 id hid id' hid'
      exact hs.mem.dist id id' _ _ _ _ b hm hm' hne hb hb' hlb hlb'
    refine ⟨c :: cs, ob :: obs, ?_, ⟨hob, h2⟩, fun i b hi => ?_, fun i j b hi hj => ?_⟩
    · rw [List.mapM_cons, Sem.run_bind, hc1]
      simp only [Result.andThen_ok, Sem.run_bind, h1, Sem.run_pure]
    · cases i with
      | zero =>
        simp only [List.getElem?_cons_zero, Option.some.injEq] at hi
        obtain ⟨id, ⟨e1, T1, hrt⟩, hid, rest⟩ := hob2 b hi
        subst hrt
        exact ⟨id, by simp only [oIds, hri]; exact List.mem_append_left _ hid, rest⟩
      | succ i =>
        obtain ⟨id, hid, rest⟩ := h3 i b (by simpa using hi)
        exact ⟨id, by cases rt <;> simp only [oIds] <;> first | exact List.mem_append_right _ hid | exact hid, rest⟩
    · cases i with
      | zero => cases j with
        | zero => rfl
        | succ j => exact (hcross j b (by simpa using hi) (by simpa using hj)).elim
      | succ i => cases j with
        | zero => exact (hcross i b (by simpa using hj) (by simpa using hi)).elim
        | succ j => have := h4 i j b (by simpa using hi) (by simpa using hj); omega

end
end Go.Proofs.Ytefhcmkiachphaa.Ab
end
section
/- Where a run is cut the state is kept, with its rows numbered anew; and the end of a function. -/
set_option linter.unusedVariables false
set_option linter.unusedSimpArgs false
namespace Go.Proofs.Ytefhcmkiachphaa.Ab
open Go Go.RowKit

theorem posOf_get : ∀ (ids : List Nat) (id k : Nat), posOf ids id = some k → ids[k]? = some id
  | [], _, _, h => by simp [posOf] at h
  | x :: r, id, k, h => by
    simp only [posOf] at h
    cases hb : Nat.beq x id with
    | true =>
      rw [hb] at h
      simp only [cond_true, Option.some.injEq] at h
      subst h
      simp [Nat.eq_of_beq_eq_true hb]
    | false =>
      rw [hb] at h
      simp only [cond_false] at h
      split at h
      · rename_i q hq
        cases h
        simpa using posOf_get r id q hq
      · cases h

theorem posOf_none : ∀ (ids : List Nat) (id : Nat), posOf ids id = none → id ∉ ids
  | [], _, _ => by simp
  | x :: r, id, h => by
    simp only [posOf] at h
    cases hb : Nat.beq x id with
    | true => rw [hb] at h; cases h
    | false =>
      rw [hb] at h
      simp only [cond_false] at h
      split at h
      · cases h
      · rename_i hq
        intro hm
        rcases List.mem_cons.1 hm with rfl | hm
        · simp at hb
        · exact posOf_none r id hq hm

theorem addNew_nodup : ∀ (l acc : List Nat), acc.Nodup → (addNew acc l).Nodup
  | [], acc, h => h
  | x :: r, acc, h => by
    simp only [addNew]
    split
    · exact addNew_nodup r acc h
    · rename_i hn
      refine addNew_nodup r _ (List.nodup_append.2 ⟨h, by simp, fun a ha b hb e => ?_⟩)
      simp at hb
      subst hb
      subst e
      exact posOf_none _ _ hn ha

theorem closeIds_nodup (mem : List (Option Row)) : ∀ (n : Nat) (ids : List Nat), ids.Nodup → (closeIds mem n ids).Nodup
  | 0, _, h => h
  | n + 1, ids, h => closeIds_nodup mem n _ (addNew_nodup _ _ h)

theorem addNew_prefix : ∀ (l acc : List Nat), ∃ r, addNew acc l = acc ++ r
  | [], acc => ⟨[], by simp [addNew]⟩
  | x :: r, acc => by
    simp only [addNew]
    split
    · exact addNew_prefix r acc
    · obtain ⟨q, hq⟩ := addNew_prefix r (acc ++ [x])
      exact ⟨[x] ++ q, by rw [hq, List.append_assoc]⟩

theorem closeIds_prefix (mem : List (Option Row)) : ∀ (n : Nat) (ids : List Nat), ∃ r, closeIds mem n ids = ids ++ r
  | 0, ids => ⟨[], by simp [closeIds]⟩
  | n + 1, ids => by
    obtain ⟨r, hr⟩ := addNew_prefix (ids.flatMap (rowIds mem)) ids
    obtain ⟨q, hq⟩ := closeIds_prefix mem n (addNew ids (ids.flatMap (rowIds mem)))
    exact ⟨r ++ q, by rw [closeIds, hq, hr, List.append_assoc]⟩

theorem rangeL_nodup (n : Nat) : (rangeL 0 n).Nodup := by rw [rangeL_eq]; exact List.nodup_range' ..

theorem rangeL_get {n k : Nat} (h : k < n) : (rangeL 0 n)[k]? = some k := by rw [rangeL_eq]; simp [List.getElem?_range', h]

theorem getM_map (f : Nat → Option Row) : ∀ (ids : List Nat) (k : Nat), getM (ids.map f) k = match ids[k]? with | some id => f id | none => none
  | [], k => by cases k <;> simp [getM]
  | x :: r, 0 => by simp [getM]
  | x :: r, k + 1 => by simp [getM, getM_map f r k]

theorem getM_snoc (r : Row) : ∀ (m : List (Option Row)) (k : Nat), getM (m ++ [some r]) k = if k = m.length then some r else getM m k
  | [], 0 => rfl
  | [], k + 1 => by simp [getM]
  | x :: m, 0 => by simp [getM]
  | x :: m, k + 1 => by simp [getM, getM_snoc r m k]

section
variable {w : World} {St Q : Stb} {β β' : Bet} {ids : List Nat}

theorem renP_rel (hr : ∀ id k, posOf ids id = some k → ∀ l, β id = some l → β' k = some l) {c : Value} {p p' : Pt} (h : renP ids p = some p') (hc : RelP w St Q β c p) : RelP w St Q β' c p' := by
  cases p with
  | own id i j =>
    simp only [renP] at h
    split at h
    · rename_i k hk
      cases h
      obtain ⟨b, cap, kk, n, hb, hc⟩ := hc
      exact ⟨b, cap, kk, n, hr id k hk _ hb, hc⟩
    · cases h
  | sh T d j => simp only [renP, Option.some.injEq] at h; subst h; exact hc

theorem renPs_rel (hr : ∀ id k, posOf ids id = some k → ∀ l, β id = some l → β' k = some l) : ∀ {ps ps' : List Pt} {l : List Value}, renPs ids ps = some ps' → All2 (RelP w St Q β) l ps → All2 (RelP w St Q β') l ps'
  | [], ps', [], h, _ => by simp only [renPs, Option.some.injEq] at h; subst h; trivial
  | p :: ps, ps', c :: l, h, ⟨h1, h2⟩ => by
    simp only [renPs] at h
    split at h
    · rename_i p' hp'
      split at h
      · rename_i r' hr'
        cases h
        exact ⟨renP_rel hr hp' h1, renPs_rel hr hr' h2⟩
      · cases h
    · cases h
  | [], _, _ :: _, _, h => h.elim
  | _ :: _, _, [], _, h => h.elim

theorem renC_rel (hr : ∀ id k, posOf ids id = some k → ∀ l, β id = some l → β' k = some l) {c : Value} {x : C} (hc : RelC w St Q β c x) : RelC w St Q β' c (renC ids x) := by
  cases x with
  | ow id len =>
    simp only [renC]
    split
    · rename_i k hk
      obtain ⟨loc, hb, hc⟩ := hc
      exact ⟨loc, hr id k hk _ hb, hc⟩
    · trivial
  | pt p =>
    simp only [renC]
    split
    · rename_i p' hp'; exact renP_rel hr hp' hc
    · trivial
  | cl f ps =>
    simp only [renC]
    split
    · rename_i ps' hps'
      obtain ⟨arr, rfl, hc⟩ := hc
      exact ⟨arr, rfl, renPs_rel hr hps' hc⟩
    · trivial
  | _ => exact hc

theorem renA_rel (hr : ∀ id k, posOf ids id = some k → ∀ l, β id = some l → β' k = some l) {c : Value} {x : A} (hc : RelA w St Q β c x) : RelA w St Q β' c (renA ids x) := by
  cases x with
  | c x => exact renC_rel hr hc
  | ag cs => obtain ⟨arr, rfl, hc⟩ := hc; exact ⟨arr, rfl, All2.map (fun _ _ h => renC_rel hr h) _ _ hc⟩

theorem renF_rel (hr : ∀ id k, posOf ids id = some k → ∀ l, β id = some l → β' k = some l) {c : Value} {x : F} (hc : RelF w St Q β c x) : RelF w St Q β' c (renF ids x) := by
  cases x with
  | a x => exact renA_rel hr hc
  | tp xs => obtain ⟨arr, rfl, hc⟩ := hc; exact ⟨arr, rfl, All2.map (fun _ _ h => renA_rel hr h) _ _ hc⟩

theorem renRow_at (hr : ∀ id k, posOf ids id = some k → ∀ l, β id = some l → β' k = some l) {loc : Loc} {r : Row} {n : Nat} (h : RowAt w St Q β loc r n) : RowAt w St Q β' loc (renRow ids r) n := by
  cases h with
  | box t T cells fz b cur hl hg hrel ho =>
    have : RowAt w St Q β' loc (.box t T (cells.map (renC ids)) fz) (cells.map (renC ids)).length := .box t T _ fz b cur (by rw [List.length_map]; exact hl) hg (All2.map (fun _ _ h => renC_rel hr h) _ _ hrel) ho
    rw [List.length_map] at this
    exact this
  | nil e T fz cap hl => exact .nil e T fz cap hl
  | arr e T xs fz b cap cur hl hg hs hx hm hrel => exact .arr e T xs fz b cap cur hl hg hs hx hm hrel

theorem renRow_fz (r : Row) : (renRow ids r).fz = r.fz := by cases r <;> rfl

/-- Each slot of a frame holds what Go's frame holds. -/
def AllFr (w : World) (St Q : Stb) (β : Bet) (val : Nat → Value) (fr : List (Nat × F)) : Prop := ∀ p ∈ fr, RelF w St Q β (val p.1) p.2

theorem getF_rel {val : Nat → Value} : ∀ {fr : List (Nat × F)}, AllFr w St Q β val fr → ∀ t, RelF w St Q β (val t) (getF fr t)
  | [], _, _ => trivial
  | (k, v) :: fr, h, t => by
    simp only [getF]
    cases hb : Nat.beq k t with
    | true => have := h (k, v) (List.mem_cons_self ..); rw [Nat.eq_of_beq_eq_true hb] at this; exact this
    | false => exact getF_rel (fun p hp => h p (List.mem_cons_of_mem _ hp)) t

theorem nilFr_rel {B : Base} {val : Nat → Value} : ∀ (live : List (Nat × LK)) (fr : List (Nat × F)) (mem : List (Option Row)) (β : Bet), MemRel w St Q β B (getM mem) → (∀ id, mem.length ≤ id → β id = none) → AllFr w St Q β val fr →
    ∃ β', (∀ id l, β id = some l → β' id = some l) ∧ MemRel w St Q β' B (getM (nilFr live fr mem).mem) ∧ (∀ id, (nilFr live fr mem).nx ≤ id → β' id = none) ∧ AllFr w St Q β' val (nilFr live fr mem).fr
  | [], fr, mem, β, hM, hn, hf => ⟨β, fun _ _ h => h, hM, hn, hf⟩
  | _ :: _, [], mem, β, hM, hn, hf => ⟨β, fun _ _ h => h, hM, hn, hf⟩
  | (t, k) :: live, (u, x) :: fr, mem, β, hM, hn, hf => by
    have hx := hf (u, x) (List.mem_cons_self ..)
    have hf' : AllFr w St Q β val fr := fun p hp => hf p (List.mem_cons_of_mem _ hp)
    unfold nilFr
    cases ho : nilOne k x mem.length with
    | none =>
      simp only [ho]
      obtain ⟨β', h1, h2, h3, h4⟩ := nilFr_rel live fr mem β hM hn hf'
      refine ⟨β', h1, h2, h3, fun p hp => ?_⟩
      rcases List.mem_cons.1 hp with rfl | hp
      · exact RelF.mono ⟨fun _ _ h => ⟨h, rfl⟩, fun _ _ _ => rfl, h1⟩ hx
      · exact h4 p hp
    | some yr =>
      unfold nilOne at ho
      split at ho
      · rename_i e T
        cases ho
        have hnew : β mem.length = none := hn _ (Nat.le_refl _)
        have hbet : ∀ id l, β id = some l → (fun id => if id = mem.length then some (⟨none, 0, T.w, 0⟩ : Loc) else β id) id = some l := fun id l hl => by
          by_cases he : id = mem.length
          · subst he; rw [hnew] at hl; cases hl
          · simp [he, hl]
        have hM' : MemRel w St Q (fun id => if id = mem.length then some (⟨none, 0, T.w, 0⟩ : Loc) else β id) B (getM (mem ++ [some (.arr e T [] false)])) := by
          have := hM.addw hnew (rowNil e T false 0) (fun b hb => by cases hb) rfl
          rw [show getM (mem ++ [some (Row.arr e T [] false)]) = fun id => if id = mem.length then some (Row.arr e T [] false) else getM mem id from funext (getM_snoc _ mem)]
          exact this
        obtain ⟨β', h1, h2, h3, h4⟩ := nilFr_rel live fr (mem ++ [some (.arr e T [] false)]) _ hM' (fun id hid => by
          simp only [List.length_append, List.length_singleton] at hid
          show (if id = mem.length then _ else β id) = none
          rw [if_neg (by omega)]
          exact hn id (by omega)) (fun p hp => RelF.mono ⟨fun _ _ h => ⟨h, rfl⟩, fun _ _ _ => rfl, hbet⟩ (hf' p hp))
        refine ⟨β', fun id l hl => h1 id l (hbet id l hl), h2, h3, fun p hp => ?_⟩
        rcases List.mem_cons.1 hp with rfl | hp
        · exact ⟨⟨none, 0, T.w, 0⟩, h1 _ _ (if_pos rfl), .inl ⟨rfl, rfl, hx⟩⟩
        · exact h4 p hp
      · cases ho

end

section
variable {R : Type} {r : R} {E : Env} {G : World → Prop} {w0 : Ent} {St0 Q : Stb} {nt : Nat}

theorem canon0_sound {w : World} {St : Stb} {β : Bet} {a : Act} {s : S} (hs : SRel w0 St0 Q nt w St β a s) (live : List (Nat × LK)) :
    ∃ β', SRel w0 St0 Q nt w St β' a (canon0 w0.nio live s) ∧ ∀ id, (canon0 w0.nio live s).nx ≤ id → β' id = none := by
  obtain ⟨ids, hids⟩ : ∃ ids, ids = closeIds s.mem 3 (addNew (rangeL 0 w0.nio) (live.flatMap fun x => fDirIds (getF s.fr x.1))) := ⟨_, rfl⟩
  have hcan : canon0 w0.nio live s = nilFr live (live.map fun x => (x.1, renF ids (getF s.fr x.1))) (ids.map fun id => (getM s.mem id).map (renRow ids)) := by rw [hids]; rfl
  rw [hcan]
  have hnd : ids.Nodup := by rw [hids]; exact closeIds_nodup _ _ _ (addNew_nodup _ _ (rangeL_nodup _))
  have hpre : ∀ k, k < w0.nio → ids[k]? = some k := fun k hk => by
    obtain ⟨r1, h1⟩ := addNew_prefix (live.flatMap fun x => fDirIds (getF s.fr x.1)) (rangeL 0 w0.nio)
    obtain ⟨r2, h2⟩ := closeIds_prefix s.mem 3 (addNew (rangeL 0 w0.nio) (live.flatMap fun x => fDirIds (getF s.fr x.1)))
    have hl : k < (rangeL 0 w0.nio).length := by rw [rangeL_eq]; simpa using hk
    rw [hids, h2, h1, List.append_assoc, List.getElem?_append_left hl, rangeL_get hk]
  let β1 : Bet := fun k => match ids[k]? with | some id => β id | none => none
  have hr : ∀ id k, posOf ids id = some k → ∀ l, β id = some l → β1 k = some l := fun id k hk l hl => by
    show (match ids[k]? with | some id => β id | none => none) = some l
    rw [posOf_get _ _ _ hk]; exact hl
  have hM1 : MemRel w St Q β1 w0.base (getM (ids.map fun id => (getM s.mem id).map (renRow ids))) := by
    refine ⟨fun k r0 h => ?_, fun k k' r0 r0' l l' b h h' hne hl hl' hb => ?_⟩
    · rw [getM_map] at h
      cases hid : ids[k]? with
      | none => rw [hid] at h; cases h
      | some id =>
        rw [hid] at h
        simp only at h
        cases hm : getM s.mem id with
        | none => rw [hm] at h; cases h
        | some r1 =>
          rw [hm] at h
          cases h
          obtain ⟨loc, n, hb, hat, hst⟩ := hs.mem.row _ _ hm
          refine ⟨loc, n, ?_, renRow_at hr hat, fun b hb' => by rw [renRow_fz]; exact hst b hb'⟩
          show (match ids[k]? with | some id => β id | none => none) = some loc
          rw [hid]; exact hb
    · rw [getM_map] at h h'
      cases hid : ids[k]? with
      | none => rw [hid] at h; cases h
      | some id =>
        cases hid' : ids[k']? with
        | none => rw [hid'] at h'; cases h'
        | some id' =>
          rw [hid] at h; rw [hid'] at h'
          simp only at h h'
          have hl : (match ids[k]? with | some id => β id | none => none) = some l := hl
          have hl' : (match ids[k']? with | some id => β id | none => none) = some l' := hl'
          rw [hid] at hl; rw [hid'] at hl'
          cases hm : getM s.mem id with
          | none => rw [hm] at h; cases h
          | some r1 =>
            cases hm' : getM s.mem id' with
            | none => rw [hm'] at h'; cases h'
            | some r1' =>
              refine hs.mem.dist id id' r1 r1' l l' b hm hm' (fun e => hne ?_) hl hl' hb
              subst e
              exact (List.getElem?_inj (List.getElem?_eq_some_iff.1 hid).1 hnd).1 (hid.trans hid'.symm)
  have hf1 : AllFr w St Q β1 (fun t => a.tmps.getD t undef) (live.map fun x => (x.1, renF ids (getF s.fr x.1))) := fun p hp => by
    obtain ⟨x, hx, rfl⟩ := List.mem_map.1 hp
    exact renF_rel hr (hs.fr x.1)
  obtain ⟨β', h1, h2, h3, h4⟩ := nilFr_rel live _ _ β1 hM1 (fun id hid => by
    show (match ids[id]? with | some id => β id | none => none) = none
    rw [List.getElem?_eq_none (by simpa using hid)]) hf1
  refine ⟨β', ⟨hs.below, ⟨hs.keep.ext, hs.keep.q, fun k l h => h1 k l ?_⟩, hs.stn, hs.st, h2, getF_rel h4, hs.sz, hs.df⟩, h3⟩
  have hk : k < w0.nio := by
    by_cases hk : k < w0.nio
    · exact hk
    · rw [w0.bet0 k (by omega)] at h; cases h
  show (match ids[k]? with | some id => β id | none => none) = some l
  rw [hpre k hk]
  exact hs.keep.bet k l h

theorem fixOne_sound {w : World} {St : Stb} {β : Bet} {a : Act} {s : S} (hs : SRel w0 St0 Q nt w St β a s) (hn : ∀ id, s.nx ≤ id → β id = none) (id : Nat) (x : Nat × TypeId × Ty) :
    ∃ β', SRel w0 St0 Q nt w St β' a (fixOne id x s) ∧ ∀ id', (fixOne id x s).nx ≤ id' → β' id' = none := by
  obtain ⟨i, e, T⟩ := x
  unfold fixOne
  split
  · rename_i t T0 cells fz hm
    simp only
    split
    · rename_i hc
      obtain ⟨loc, n, hb, hat, hst⟩ := hs.mem.row _ _ hm
      have hnew : β s.nx = none := hn _ (Nat.le_refl _)
      have hne : id ≠ s.nx := fun h => by subst h; rw [hb] at hnew; cases hnew
      let β1 : Bet := fun k => if k = s.nx then some (⟨none, 0, T.w, 0⟩ : Loc) else β k
      have hbet : ∀ k l, β k = some l → β1 k = some l := fun k l hl => by
        show (if k = s.nx then _ else β k) = _
        rw [if_neg (fun h => by subst h; rw [hnew] at hl; cases hl)]; exact hl
      have hkeep : Keep w St β Q w St β1 := ⟨fun _ _ h => ⟨h, rfl⟩, fun _ _ _ => rfl, hbet⟩
      have hM := hs.mem.addw hnew (rowNil e T false 0) (fun b hb => by cases hb) rfl
      have hM1 : MemRel w St Q β1 w0.base (fun k => if k = s.nx then some (Row.arr e T [] false) else getM s.mem k) := hM
      have hget : ∀ k, getM (setM (setM s.mem id (some (Row.box t T0 (cells.set i (.ow s.nx 0)) fz))) s.nx (some (Row.arr e T [] false))) k = if k = s.nx then some (Row.arr e T [] false) else if k = id then some (Row.box t T0 (cells.set i (.ow s.nx 0)) fz) else getM s.mem k := fun k => by
        rw [getM_setM, getM_setM]
      refine ⟨β1, ⟨hs.below, ⟨hs.keep.ext, hs.keep.q, fun k l h => hbet k l (hs.keep.bet k l h)⟩, hs.stn, hs.st, ?_, fun t => RelF.mono hkeep (hs.fr t), hs.sz, hs.df⟩, fun k hk => ?_⟩
      · refine ⟨fun k r hr => ?_, fun k k' r r' l l' b hr hr' hkk hl hl' hb' => ?_⟩
        · rw [hget] at hr
          by_cases hk : k = s.nx
          · exact hM1.row k r (by simpa [hk] using hr)
          · rw [if_neg hk] at hr
            by_cases hk2 : k = id
            · rw [if_pos hk2] at hr
              subst hk2
              cases hr
              refine ⟨loc, n, hbet _ _ hb, ?_, hst⟩
              cases hat with
              | box _ _ _ _ b cur hl hg hrel hone =>
                have hlen : (cells.set i (.ow s.nx 0)).length = cells.length := by simp
                have : RowAt w St Q β1 loc (.box t T0 (cells.set i (.ow s.nx 0)) fz) (cells.set i (.ow s.nx 0)).length := by
                  refine .box t T0 _ fz b cur (by rw [hlen]; exact hl) hg ?_ hone
                  have h1 : All2 (RelC w St Q β1) cur.toList cells := All2.imp (fun _ _ h => RelC.mono hkeep h) _ _ hrel
                  have h2 : ∀ (l : List Value) (m : List C) (i : Nat), All2 (RelC w St Q β1) l m → m[i]? = some .nl → All2 (RelC w St Q β1) l (m.set i (.ow s.nx 0)) := by
                    intro l
                    induction l with
                    | nil => intro m i h hm; cases m with
                      | nil => simp at hm
                      | cons => exact h.elim
                    | cons c l ih => intro m i h hm; cases m with
                      | nil => exact h.elim
                      | cons y m =>
                        cases i with
                        | zero =>
                          simp only [List.getElem?_cons_zero, Option.some.injEq] at hm
                          subst hm
                          exact ⟨⟨⟨none, 0, T.w, 0⟩, if_pos rfl, .inl ⟨rfl, rfl, h.1⟩⟩, h.2⟩
                        | succ i => exact ⟨h.1, ih m i h.2 (by simpa using hm)⟩
                  exact h2 _ _ _ h1 hc
                rw [hlen] at this
                exact this
            · rw [if_neg hk2] at hr
              exact hM1.row k r (by rw [if_neg hk]; exact hr)
        · rw [hget] at hr hr'
          have old : ∀ (k : Nat) (r : Row), (if k = s.nx then some (Row.arr e T [] false) else if k = id then some (Row.box t T0 (cells.set i (.ow s.nx 0)) fz) else getM s.mem k) = some r → ∃ r0, (if k = s.nx then some (Row.arr e T [] false) else getM s.mem k) = some r0 := by
            intro k r hr
            by_cases hk : k = s.nx
            · exact ⟨_, if_pos hk⟩
            · rw [if_neg hk] at hr ⊢
              by_cases hk2 : k = id
              · subst hk2; exact ⟨_, hm⟩
              · rw [if_neg hk2] at hr; exact ⟨_, hr⟩
          obtain ⟨r0, h0⟩ := old k r hr
          obtain ⟨r1, h1⟩ := old k' r' hr'
          exact hM1.dist k k' r0 r1 l l' b h0 h1 hkk hl hl' hb'
      · show (if k = s.nx then _ else β k) = none
        have hk' : s.nx + 1 ≤ k := hk
        rw [if_neg (by omega)]
        exact hn k (by omega)
    · exact ⟨β, hs, hn⟩
  · exact ⟨β, hs, hn⟩

theorem fixCs_sound {w : World} {St : Stb} {a : Act} (id : Nat) : ∀ (l : List (Nat × TypeId × Ty)) {β : Bet} {s : S}, SRel w0 St0 Q nt w St β a s → (∀ id, s.nx ≤ id → β id = none) →
    ∃ β', SRel w0 St0 Q nt w St β' a (fixCs id l s) ∧ ∀ id', (fixCs id l s).nx ≤ id' → β' id' = none
  | [], β, s, hs, hn => ⟨β, hs, hn⟩
  | x :: l, β, s, hs, hn => by
    obtain ⟨β1, h1, h2⟩ := fixOne_sound hs hn id x
    exact fixCs_sound id l h1 h2

theorem fixAll_sound {w : World} {St : Stb} {a : Act} : ∀ (live : List (Nat × LK)) {β : Bet} {s : S}, SRel w0 St0 Q nt w St β a s → (∀ id, s.nx ≤ id → β id = none) →
    ∃ β', SRel w0 St0 Q nt w St β' a (fixAll live s) ∧ ∀ id', (fixAll live s).nx ≤ id' → β' id' = none
  | [], β, s, hs, hn => ⟨β, hs, hn⟩
  | (t, .cells l) :: r, β, s, hs, hn => by
    have : ∃ β', SRel w0 St0 Q nt w St β' a (fixF (getF s.fr t) l s) ∧ ∀ id', (fixF (getF s.fr t) l s).nx ≤ id' → β' id' = none := by
      unfold fixF
      split
      · exact fixCs_sound _ l hs hn
      · exact ⟨β, hs, hn⟩
    obtain ⟨β1, h1, h2⟩ := this
    exact fixAll_sound r h1 h2
  | (t, .any) :: r, β, s, hs, hn => fixAll_sound r hs hn
  | (t, .own _ _) :: r, β, s, hs, hn => fixAll_sound r hs hn
  | (t, .sh) :: r, β, s, hs, hn => fixAll_sound r hs hn

theorem ow_in : ∀ {cs : List C} {id len : Nat}, C.ow id len ∈ cs → id ∈ owIds cs
  | x :: cs, id, len, h => by
    rcases List.mem_cons.1 h with rfl | h
    · exact List.mem_cons_self ..
    · have := ow_in h
      cases x <;> first | exact this | exact List.mem_cons_of_mem _ this

theorem shareS_sound {w : World} {St : Stb} {β : Bet} {a : Act} {s : S} (hs : SRel w0 St0 Q nt w St β a s) (t : Nat) :
    ∃ St', SRel w0 St0 Q nt w St' β a (shareS t s) := by
  have frzEq : ∀ ids, getM (freezeM s.mem ids) = frz (getM s.mem) ids := fun ids => by
    funext k; rw [getM_freeze]; rfl
  have base : ∀ ids, SRel w0 St0 Q nt w (stF β (getM s.mem) St ids) β a { fr := s.fr, mem := freezeM s.mem ids, nx := s.nx } := fun ids => by
    have hk := frz_keep w St Q β (getM s.mem) ids
    refine ⟨hs.below, ⟨fun b o h => ?_, hs.keep.q, hs.keep.bet⟩, fun b o h => ?_, fun b o h => ?_, ?_, fun u => RelF.mono hk (hs.fr u), hs.sz, hs.df⟩
    · exact ⟨.inl (hs.keep.ext b o h).1, (hs.keep.ext b o h).2⟩
    · exact (frz_new hs.mem ids b o h).elim (fun h => hs.stn b o h) .inr
    · rcases h with h | ⟨id, _, r, loc, hm, hb, hlb, _⟩
      · exact hs.st b o h
      · obtain ⟨loc', n, hb', hat, _⟩ := hs.mem.row _ _ hm
        rw [hb] at hb'; cases hb'
        exact hat.lt hlb
    · rw [frzEq]; exact frz_mem hs.mem ids
  unfold shareS
  split
  · rename_i x hx
    have hrel := hs.fr t
    rw [hx] at hrel
    have data : (∀ id i j, x ≠ .c (.pt (.own id i j)) → True) → SRel w0 St0 Q nt w (stF β (getM s.mem) St (owIds x.cells)) β a { fr := (t, .a (shareA (getM s.mem) x)) :: s.fr, mem := freezeM s.mem (owIds x.cells), nx := s.nx } := fun _ => by
      have hb := base (owIds x.cells)
      refine ⟨hb.below, hb.keep, hb.stn, hb.st, hb.mem, fun u => ?_, hb.sz, hb.df⟩
      simp only [getF]
      cases hu : Nat.beq t u with
      | false => exact hb.fr u
      | true =>
        rw [← Nat.eq_of_beq_eq_true hu]
        simp only [cond_true]
        cases x with
        | c y => exact reC0_rel hs.mem (Sees.same _) (fun id len h => ow_in (len := len) (by subst h; exact List.mem_cons_self ..)) hrel
        | ag cs =>
          obtain ⟨arr, ha, hc⟩ := hrel
          exact ⟨arr, ha, reC0_all hs.mem (Sees.same _) (fun id len h => ow_in h) hc⟩
    split
    · rename_i id
      split
      · rename_i ty T0 cells fz hm
        cases hany : (owIds cells).any (Nat.beq id) with
        | true => exact ⟨St, by simp only [cond_true]; exact hs⟩
        | false =>
          simp only [cond_false]
          have hnin : id ∉ owIds cells := fun h => by
            have : (owIds cells).any (Nat.beq id) = true := List.any_eq_true.2 ⟨id, h, Nat.beq_refl id⟩
            rw [hany] at this; cases this
          have hb := base (owIds cells)
          refine ⟨_, hb.below, hb.keep, hb.stn, hb.st, ?_, hb.fr, hb.sz, hb.df⟩
          have hbm : MemRel w (stF β (getM s.mem) St (owIds cells)) Q β w0.base (getM (freezeM s.mem (owIds cells))) := hb.mem
          have hold : getM (freezeM s.mem (owIds cells)) id = some (.box ty T0 cells fz) := by rw [frzEq]; unfold frz; rw [if_neg hnin]; exact hm
          refine ⟨fun k r hr => ?_, fun k k' r r' l l' b hr hr' hkk hl hl' hb' => ?_⟩
          · rw [getM_setM] at hr
            by_cases hk : k = id
            · rw [if_pos hk] at hr
              subst hk
              cases hr
              obtain ⟨loc, n, hbl, hat, hst⟩ := hbm.row _ _ hold
              refine ⟨loc, n, hbl, ?_, hst⟩
              obtain ⟨loc0, n0, hbl0, hat0, _⟩ := hs.mem.row _ _ hm
              rw [hbl] at hbl0; cases hbl0
              cases hat0 with
              | box _ _ _ _ b cur hl hg hrel' hone =>
                have hn : n = cells.length := hat.n_eq
                have hlen : (cells.map (reC0 (getM s.mem))).length = cells.length := by simp
                have := RowAt.box (Q := Q) (β := β) (St := stF β (getM s.mem) St (owIds cells)) (loc := loc) ty T0 (cells.map (reC0 (getM s.mem))) fz b cur (by rw [hlen]; exact hl) hg (reC0_all hs.mem (Sees.same _) (fun id len h => ow_in h) hrel') hone
                rw [hlen] at this
                rw [hn]; exact this
            · rw [if_neg hk] at hr
              exact hbm.row k r hr
          · rw [getM_setM] at hr hr'
            have old : ∀ (k : Nat) (r : Row), (if k = id then some (Row.box ty T0 (cells.map (reC0 (getM s.mem))) fz) else getM (freezeM s.mem (owIds cells)) k) = some r → ∃ r0, getM (freezeM s.mem (owIds cells)) k = some r0 := by
              intro k r hr
              by_cases hk : k = id
              · subst hk; exact ⟨_, hold⟩
              · rw [if_neg hk] at hr; exact ⟨_, hr⟩
            obtain ⟨r0, h0⟩ := old k r hr
            obtain ⟨r1, h1⟩ := old k' r' hr'
            exact hbm.dist k k' r0 r1 l l' b h0 h1 hkk hl hl' hb'
      · exact ⟨St, hs⟩
    · exact ⟨_, data (fun _ _ _ _ => trivial)⟩
  · exact ⟨St, hs⟩

theorem shareAll_sound {w : World} {β : Bet} {a : Act} : ∀ (live : List (Nat × LK)) {St : Stb} {s : S}, SRel w0 St0 Q nt w St β a s → ∃ St', SRel w0 St0 Q nt w St' β a (shareAll live s)
  | [], St, s, hs => ⟨St, hs⟩
  | (t, .sh) :: r, St, s, hs => by
    obtain ⟨St1, h1⟩ := shareS_sound hs t
    exact shareAll_sound r h1
  | (t, .any) :: r, St, s, hs => shareAll_sound r hs
  | (t, .own _ _) :: r, St, s, hs => shareAll_sound r hs
  | (t, .cells _) :: r, St, s, hs => shareAll_sound r hs

theorem canon_sound {w : World} {St : Stb} {β : Bet} {a : Act} {s : S} (hs : SRel w0 St0 Q nt w St β a s) (live : List (Nat × LK)) :
    ∃ St' β', SRel w0 St0 Q nt w St' β' a (canonS w0.nio live s) ∧ ∀ id, (canonS w0.nio live s).nx ≤ id → β' id = none := by
  obtain ⟨St1, h0⟩ := shareAll_sound live hs
  obtain ⟨β1, h1, h2⟩ := canon0_sound h0 live
  exact ⟨St1, fixAll_sound live h1 h2⟩

/-- The end: what the function hands back, and what stands in the caller's variables. -/
def Fin (P : Program) (w0 : Ent) (St0 Q : Stb) (fn : Func) (ios : List (Nat × TypeId × Ty)) (nr : Nat) (rvs : List RV) (a : Act) (w : World) : Prop :=
  a.defers = [] ∧ ∃ (cs : List Value) (obs : List (Option Nat)) (St' : Stb) (os : List A), (results fn a.tmps).run P w = .ok (wrapV cs) w ∧ Bel w0.base w0.toWorld w ∧ (∀ b o, St0 b o → St' b o) ∧ (∀ b o, St' b o → St0 b o ∨ w0.heap.size ≤ b) ∧ StOK w St' ∧
    RelRVs w St' (base0 w0.heap.size) cs (rvs.take nr) obs ∧ (∀ (i j : Nat) (b : Nat), obs[i]? = some (some b) → obs[j]? = some (some b) → i = j) ∧
    rvs.drop nr = os.map RV.d ∧ os.length = ios.length ∧ MemRel w St' Q w0.bet w0.base (ioM ios os)

theorem finR_length {s : S} : ∀ (vs : List ResultVar) (rs : List RT) (out seen : List Nat) (ys : List RV), finR E s vs rs out seen = some ys → ys.length = rs.length
  | [], [], _, _, ys, h => by simp only [finR, Option.some.injEq] at h; subst h; rfl
  | [], _ :: _, _, _, _, h => by simp [finR] at h
  | _ :: _, [], _, _, _, h => by simp [finR] at h
  | v :: vs, rt :: rs, out, seen, ys, h => by
    obtain ⟨x, y, ys', out', seen', _, _, hys, rfl⟩ := finR_step h
    simp [finR_length vs rs out' seen' ys' hys]

theorem RelRVs.base {w : World} {St : Stb} {B B' : Base} : ∀ {cs : List Value} {rvs : List RV} {obs : List (Option Nat)}, RelRVs w St B cs rvs obs → (∀ (i : Nat) b, obs[i]? = some (some b) → B.may b → B'.may b) → RelRVs w St B' cs rvs obs
  | [], [], [], _, _ => trivial
  | c :: cs, v :: rvs, ob :: obs, ⟨h1, h2⟩, h => by
    refine ⟨?_, RelRVs.base h2 fun i b hi => h (i + 1) b (by simpa using hi)⟩
    cases v with
    | d x => exact h1
    | own e T xs => cases ob with
      | none => exact h1
      | some b => obtain ⟨cap, cur, e1, e2, e3⟩ := h1; exact ⟨cap, cur, e1, h 0 b rfl e2, e3⟩
  | [], _ :: _, _, h, _ => h.elim
  | [], [], _ :: _, h, _ => h.elim
  | _ :: _, [], _, h, _ => h.elim
  | _ :: _, _ :: _, [], h, _ => h.elim

/-- What is known of the caller's variables at the end. -/
theorem finIO_spec {m : Nat → Option Row} : ∀ (ios : List (Nat × TypeId × Ty)) (k : Nat) (os : List A), finIO m ios k = some os → os.length = ios.length ∧
    ∀ (i : Nat) (x : Nat × TypeId × Ty), ios[i]? = some x → (arrT x.2.2 = none ∧ ∃ cs d, m (k + i) = some (.box x.2.1 (some x.2.2) cs false) ∧ prj x.2.2 (cs.map (reC0 m)) = some d ∧ os[i]? = some (inj x.2.2 d) ∧ ∀ id, id ∈ owIds cs → id ∈ ioIds m ios k) ∨
      ∃ T l, x.2.2 = .pair .unit (.sl T) ∧ m (k + i) = some (.arr x.2.1 T l false) ∧ os[i]? = some (.ag [.sl T l])
  | [], k, os, h => by simp only [finIO, Option.some.injEq] at h; subst h; exact ⟨rfl, fun i x hx => by simp at hx⟩
  | x :: r, k, os, h => by
    simp only [finIO] at h
    cases hA : arrT x.2.2 with
    | some T0 =>
      rw [hA] at h
      simp only at h
      have hxT := arrT_eq hA
      split at h
      · rename_i e T' l hm
        cases hb : Nat.beq e x.2.1 with
        | false => rw [hb] at h; cases h
        | true =>
          rw [hb] at h
          simp only [cond_true] at h
          split at h
          · rename_i hT
            split at h
            · rename_i os' hos'
              cases h
              obtain ⟨h1, h2⟩ := finIO_spec r (k + 1) os' hos'
              have hbt := Nat.eq_of_beq_eq_true hb
              subst hT; subst hbt
              refine ⟨by simp [h1], fun i y hy => ?_⟩
              cases i with
              | zero =>
                simp only [List.getElem?_cons_zero, Option.some.injEq] at hy
                subst hy
                exact .inr ⟨_, l, hxT, hm, rfl⟩
              | succ i =>
                rcases h2 i y (by simpa using hy) with ⟨hA', cs', d', e1, e2, e3, e4⟩ | ⟨T, l', e1, e2, e3⟩
                · exact .inl ⟨hA', cs', d', by rw [show k + (i + 1) = k + 1 + i by omega]; exact e1, e2, by simpa using e3, fun id hid => by simp only [ioIds]; exact List.mem_append_right _ (e4 id hid)⟩
                · exact .inr ⟨T, l', e1, by rw [show k + (i + 1) = k + 1 + i by omega]; exact e2, by simpa using e3⟩
            · cases h
          · cases h
      · cases h
    | none =>
    rw [hA] at h
    simp only at h
    split at h
    · rename_i t T cs hm
      cases hb : Nat.beq t x.2.1 with
      | false => rw [hb] at h; cases h
      | true =>
        rw [hb] at h
        simp only [cond_true] at h
        split at h
        · rename_i hT
          split at h
          · rename_i d hd
            split at h
            · rename_i l hl
              cases h
              obtain ⟨h1, h2⟩ := finIO_spec r (k + 1) l hl
              have hbt := Nat.eq_of_beq_eq_true hb
              subst hT; subst hbt
              refine ⟨by simp [h1], fun i y hy => ?_⟩
              cases i with
              | zero =>
                simp only [List.getElem?_cons_zero, Option.some.injEq] at hy
                subst hy
                exact .inl ⟨hA, cs, d, hm, hd, rfl, fun id hid => by simp only [ioIds]; rw [hm]; exact List.mem_append_left _ hid⟩
              | succ i =>
                rcases h2 i y (by simpa using hy) with ⟨hA', cs', d', e1, e2, e3, e4⟩ | ⟨T, l', e1, e2, e3⟩
                · exact .inl ⟨hA', cs', d', by rw [show k + (i + 1) = k + 1 + i by omega]; exact e1, e2, by simpa using e3, fun id hid => by simp only [ioIds]; exact List.mem_append_right _ (e4 id hid)⟩
                · exact .inr ⟨T, l', e1, by rw [show k + (i + 1) = k + 1 + i by omega]; exact e2, by simpa using e3⟩
            · cases h
          · cases h
        · cases h
    · cases h

theorem fin_sound (hti : ∀ t i, E.ti t = some i → TIok E.P t i) {w : World} {St : Stb} {β : Bet} {a : Act} {s : S} (hs : SRel w0 St0 Q nt w St β a s) {fn : Func} {N : Note} (hres : fn.results.toList = N.res) (hnio : w0.nio = N.ios.length) {rvs : List RV}
    (h : finS E N s = some rvs) : Fin E.P w0 St0 Q fn N.ios N.rts.length rvs a w := by
  have hsplit : ∃ rs os, finIO (getM s.mem) N.ios 0 = some os ∧ finR E s N.res N.rts (rangeL 0 N.ios.length) (ioIds (getM s.mem) N.ios 0 ++ rangeL 0 N.ios.length) = some rs ∧ rvs = rs ++ os.map RV.d ∧ ∀ id, id ∈ ioIds (getM s.mem) N.ios 0 → id ∉ rangeL 0 N.ios.length := by
    unfold finS at h
    split at h
    · rename_i he
      rw [he]
      exact ⟨rvs, [], rfl, h, by simp, fun id hid => by simp [ioIds] at hid⟩
    · rename_i he
      split at h
      · rename_i os hos
        cases hany : (ioIds (getM s.mem) N.ios 0).any (fun i => (rangeL 0 N.ios.length).any (Nat.beq i)) with
        | true => rw [hany] at h; cases h
        | false =>
        rw [hany] at h
        simp only [cond_false] at h
        split at h
        · rename_i rs hrs
          cases h
          exact ⟨rs, os, hos, hrs, rfl, any_false hany⟩
        · cases h
      · cases h
  obtain ⟨rs, os, hos, hrs, rfl, hioR⟩ := hsplit
  have hlen := finR_length _ _ _ _ _ hrs
  obtain ⟨hol, hio⟩ := finIO_spec _ _ _ hos
  obtain ⟨hout, hseen, h3, h4⟩ := finR_ids E s _ _ _ _ rs hrs
  generalize hids : dIds E s N.res N.rts ++ ioIds (getM s.mem) N.ios 0 = ids
  obtain ⟨cs, obs, hrun, hrel, hwho, hdist⟩ := finR_rel hti hs (ids := ids) N.res N.rts _ _ rs hrs (fun _ h => by rw [← hids]; exact List.mem_append_left _ h) (fun id hid hin => by
    rw [← hids] at hin
    rcases List.mem_append.1 hin with hin | hin
    · exact h3 id hid hin
    · exact hseen id (List.mem_append_left _ hin) hid) h4
  -- the caller's variables
  have hrow : ∀ (k : Nat) loc, w0.bet k = some loc → ∃ x r, N.ios[k]? = some x ∧ getM s.mem k = some r ∧ r.fz = false ∧ β k = some loc ∧ k ∉ ids ∧
      ((arrT x.2.2 = none ∧ ∃ cs d, r = .box x.2.1 (some x.2.2) cs false ∧ prj x.2.2 (cs.map (reC0 (getM s.mem))) = some d ∧ os[k]? = some (inj x.2.2 d) ∧ (∀ id, id ∈ owIds cs → id ∈ ids)) ∨
       ∃ T l, x.2.2 = .pair .unit (.sl T) ∧ r = .arr x.2.1 T l false ∧ os[k]? = some (.ag [.sl T l])) := by
    intro k loc hk
    have hlt : k < N.ios.length := by
      by_cases hlt : k < N.ios.length
      · exact hlt
      · rw [w0.bet0 k (by omega)] at hk; cases hk
    obtain ⟨x, hx⟩ : ∃ x, N.ios[k]? = some x := ⟨_, List.getElem?_eq_getElem hlt⟩
    have hkin : k ∉ ids := fun hin => by
      have hkr : k ∈ rangeL 0 N.ios.length := List.mem_of_getElem? (rangeL_get hlt)
      rw [← hids] at hin
      rcases List.mem_append.1 hin with hin | hin
      · exact (hout k hkr).1 hin
      · exact hioR k hin hkr
    rcases hio k x hx with ⟨hA, cs, d, e1, e2, e3, e4⟩ | ⟨T, l, e1, e2, e3⟩
    · rw [Nat.zero_add] at e1
      exact ⟨x, _, hx, e1, rfl, hs.keep.bet k loc hk, hkin, .inl ⟨hA, cs, d, rfl, e2, e3, fun id hid => by rw [← hids]; exact List.mem_append_right _ (e4 id hid)⟩⟩
    · rw [Nat.zero_add] at e2
      exact ⟨x, _, hx, e2, rfl, hs.keep.bet k loc hk, hkin, .inr ⟨T, l, e1, rfl, e3⟩⟩
  have hob : ∀ (i : Nat) b, obs[i]? = some (some b) → w0.base.may b → (base0 w0.heap.size).may b := by
    rintro i b hi (hb | hb)
    · exact .inl hb
    · exfalso
      obtain ⟨k, loc, hk, hlb⟩ := w0.ownb b hb
      obtain ⟨x, rk, hx, hm, _, hβ, _⟩ := hrow k loc hk
      obtain ⟨id, hid, loc', rr, hm', hβ', hlb'⟩ := hwho i b hi
      have hne : id ≠ k := fun he => by
        subst he
        have hlt := (List.getElem?_eq_some_iff.1 hx).1
        have hin : id ∈ rangeL 0 N.ios.length := List.mem_of_getElem? (rangeL_get hlt)
        exact hseen id (List.mem_append_right _ hin) hid
      exact hs.mem.dist id k _ _ _ _ b hm' hm hne hβ' hβ hlb' hlb
  have hfm := frz_mem hs.mem ids
  have hfix : ∀ (k : Nat) r, getM s.mem k = some r → k ∉ ids → frz (getM s.mem) ids k = some r := fun k r hm hn => by
    unfold frz
    rw [if_neg hn]
    exact hm
  have hownst : ∀ b, w0.own b → ∀ o, ¬ stF β (getM s.mem) St ids b o := fun b hb o ho => by
    obtain ⟨k, loc, hk, hlb⟩ := w0.ownb b hb
    obtain ⟨x, rk, hx, hm, hfz, hβ, hni, _⟩ := hrow k loc hk
    obtain ⟨loc2, n, hb2, _, hst⟩ := hfm.row _ _ (hfix _ _ hm hni)
    rw [hβ] at hb2
    cases hb2
    have := ((hst b hlb).2.1 o ho).1
    rw [hfz] at this
    cases this
  refine ⟨hs.df, cs, obs, stF β (getM s.mem) St ids, os, ?_, hs.below, fun b o h => .inl (hs.keep.ext b o h).1, fun b o h => ?_, fun b o h => ?_, ?_, hdist, ?_, hol, ?_⟩
  · unfold results
    rw [Array.mapM_eq_mapM_toList, hres]
    simp only [Sem.run_bind, Sem.run_map]
    have key : ∀ r0 : Result (List Value), r0 = .ok cs w → ((r0.andThen fun a w' => Result.ok a.toArray w').andThen fun a w' => Sem.run E.P (pure (if h : a.size = 1 then a[0] else Value.tuple a)) w') = Result.ok (wrapV cs) w := by
      intro r0 h0
      subst h0
      simp only [Result.andThen_ok, Sem.run_pure]
      congr 1
      match cs with
      | [] => rfl
      | [c] => rfl
      | _ :: _ :: _ => rfl
    exact key _ hrun
  · have hm : St0 b o ∨ w0.base.may b := by
      rcases frz_new hs.mem _ b o h with h | h
      · exact hs.stn b o h
      · exact .inr h
    rcases hm with hm | hm | hm
    · exact .inl hm
    · exact .inr hm
    · exact (hownst b hm o h).elim
  · rcases h with h | ⟨id, _, r0, loc, hm, hb, hlb, _⟩
    · exact hs.st b o h
    · obtain ⟨loc', n, hb', hat, _⟩ := hs.mem.row _ _ hm
      rw [hb] at hb'; cases hb'
      exact hat.lt hlb
  · rw [List.take_append_of_le_length (by omega), List.take_of_length_le (by omega)]
    exact hrel.base hob
  · rw [← hlen, List.drop_left]
  · refine ⟨fun k r h => ?_, fun k k' r r' l l' b h h' hne hl hl' hb => ?_⟩
    · obtain ⟨x, a', hx, ha, rfl⟩ := ioM_spec _ _ _ _ h
      obtain ⟨loc, hk⟩ := w0.betS k (by rw [hnio]; exact (List.getElem?_eq_some_iff.1 hx).1)
      obtain ⟨x', rk, hx', hm, hfz, hβ, hni, hkk⟩ := hrow k loc hk
      rw [hx] at hx'; cases hx'
      rcases hkk with ⟨hA, cs', d, rfl, hp, ho, hin⟩ | ⟨T, l, hT, rfl, ho⟩
      rotate_left
      · rw [ha] at ho; cases ho
        obtain ⟨loc2, n, hb2, hat, hst⟩ := hfm.row _ _ (hfix _ _ hm hni)
        rw [hβ] at hb2
        cases hb2
        rw [ioRow_arr (x := x) (by rw [hT]; rfl) (prj_ag l)]
        exact ⟨_, n, hk, hat.data (fun _ _ h => h), hst⟩
      rw [ha] at ho; cases ho
      rw [ioRow_box _ hA]
      obtain ⟨b2, cur, hb2, hh, hrel2, hone, hmay, _, _⟩ := hs.mem.box hm
      obtain ⟨b3, cur3, hb3, _, _, _, _, hst, _⟩ := hfm.box (hfix _ _ hm hni)
      rw [hβ] at hb2 hb3
      cases hb2
      cases hb3
      have hd2 : All2 (RelC w (stF β (getM s.mem) St ids) Q w0.bet) cur.toList (inj x.2.2 d).cells := data_bet (reC0_all (m := getM s.mem) hs.mem (Sees.same _) (ids := ids) (fun id len h => hin id (owIds_mem h)) hrel2) hp
      have hl2 : (inj x.2.2 d).cells.length = cs'.length := by rw [← All2.length _ _ hd2, ← All2.length _ _ hrel2]
      refine ⟨_, _, hk, .box _ _ _ _ b2 cur (by rw [hl2]) hh hd2 hone, fun b hb => ?_⟩
      cases hb
      exact ⟨hmay, (fun o ho => by have := (hst o ho).1; cases this), fun hf => by cases hf⟩
    · obtain ⟨x, a', hx, ha, rfl⟩ := ioM_spec _ _ _ _ h
      obtain ⟨x', a'', hx', ha', rfl⟩ := ioM_spec _ _ _ _ h'
      obtain ⟨y, c1, _, hm, _, hβ, _⟩ := hrow k l hl
      obtain ⟨y', c2, _, hm', _, hβ', _⟩ := hrow k' l' hl'
      exact hs.mem.dist k k' _ _ _ _ b hm hm' hne hβ hβ' hb

end
end Go.Proofs.Ytefhcmkiachphaa.Ab
end
section
/- The machine's run of a function is Go's: what the machine answers is the function's contract. -/
set_option linter.unusedVariables false
set_option linter.unusedSimpArgs false
namespace Go.Proofs.Ytefhcmkiachphaa.Ab
open Go Go.RowKit

/-- From this place on the function comes to its end, and what it hands back is as_ told. -/
def TW (P : Program) (todo : List Item) (a : Act) (w : World) (F : Act → World → Prop) : Prop :=
  ∀ (b : Frame) (cs : List Frame), ∃ a' w' todo', F a' w' ∧ Steps P (lone (b.at a todo) cs w) (lone { b.at a' todo' with mode := .returning } cs w')

section
variable {P : Program}

theorem TW.head {todo todo' : List Item} {a : Act} {w : World} {F : Act → World → Prop} (h : ∀ (b : Frame) (cs : List Frame), step P (lone (b.at a todo) cs w) = .next (lone (b.at a todo') cs w)) (h' : TW P todo' a w F) : TW P todo a w F :=
  fun b cs => let ⟨a', w', t, hf, hs⟩ := h' b cs; ⟨a', w', t, hf, .head (h b cs) hs⟩

theorem TW.region {id : Nat} {ops : Array Oper} {draw : Bool} {k : List Item} {a : Act} {w : World} {F : Act → World → Prop} {I : Act → World → Prop} (h : (Code.region id ops draw).wp P (fun e a' w' => e = .normal ∧ I a' w') a w)
    (hk : ∀ a' w', I a' w' → TW P k a' w' F) : TW P (.code (.region id ops draw) :: k) a w F := by
  intro b cs
  obtain ⟨e, a1, w1, ⟨rfl, hi⟩, harr⟩ := h b k cs
  obtain ⟨a', w', t, hf, hs⟩ := hk a1 w1 hi b cs
  exact ⟨a', w', t, hf, Steps.trans harr hs⟩
end

section
variable {R : Type} {r : R} {E : Env} {G : World → Prop} {w0 : Ent} {St0 Q : Stb} {nt : Nat}

theorem SRel.drew {w : World} {St : Stb} {β : Bet} {a : Act} {s : S} (h : SRel w0 St0 Q nt w St β a s) : SRel w0 St0 Q nt { w with drawn := w.drawn + 1 } St β a s := by
  have hk : Keep w St β Q { w with drawn := w.drawn + 1 } St β := ⟨fun _ _ h => ⟨h, rfl⟩, fun _ _ _ => rfl, fun _ _ h => h⟩
  exact ⟨h.below.trans ⟨rfl, rfl, rfl, Nat.le_refl _, fun _ _ _ => rfl⟩, h.keep.trans hk, h.stn, h.st, h.mem.mono hk (fun _ _ => rfl) (fun _ _ h => .inl h), fun t => RelF.mono hk (h.fr t), h.sz, h.df⟩

theorem region_sound (hti : ∀ t i, E.ti t = some i → TIok E.P t i) (hcall : ∀ f s args rvs, E.sg f = some s → E.call f args = some rvs → CallAny E.P G f s args rvs) (hent : ∀ f args rvs, E.call f args = some rvs → Enterable E.P f)
    (hG : ∀ w, Bel w0.base w0.toWorld w → G w) (hqb : ∀ b o, Q b o → b < w0.heap.size ∧ ¬ w0.own b) (hmix : E.P.follows .mixedOrders = true) {id : Nat} {ops : Array Oper} {draw : Bool} {K : S → Option R} {w : World} {St : Stb} {β : Bet} {a : Act} {s : S}
    (hs : SRel w0 St0 Q nt w St β a s) (hn : ∀ id, s.nx ≤ id → β id = none)
    (h : (bif draw then
            (let M := masks ops.toList []
            let wl := wlOf E.sg s.nx s.fr ops.toList
            bif drawOk ops M then opsK E (ckD s.nx ops M wl) nt s.nx ops (vwD s.nx ops M wl) (rangeL 0 ops.size) s K else none)
          else opsK E (fun _ _ _ => false) nt s.nx ops (fun _ mem => getM mem) (rangeL 0 ops.size) s K) = some r) :
    (Code.region id ops draw).wp E.P (fun e a' w' => e = .normal ∧ ∃ s' St' β', SRel w0 St0 Q nt w' St' β' a' s' ∧ K s' = some r ∧ ∀ id, s.nx + 4 * ops.size ≤ id → β' id = none) a w := by
  cases draw with
  | false =>
    simp only [cond_false] at h
    refine wp_region ?_
    have := seq_sound hti hcall hent hG hqb ops.size 0 s w St β a hs (fun id hid => hn id (by omega)) h
    rw [Nat.zero_add, ← List.range_eq_range'] at this
    exact this
  | true =>
    simp only [cond_true] at h
    cases hok : drawOk ops (masks ops.toList []) with
    | false => rw [hok] at h; cases h
    | true =>
      rw [hok] at h
      simp only [cond_true] at h
      obtain ⟨tr, htr, hK⟩ := trace hti hcall hent ops.size 0 s h
      refine wp_region_any hmix ?_
      have hD : stD ops s.nx s tr (fun i => (Array.replicate ops.size false).getD i true = true) ops.size = s := by
        have h1 : stD ops s.nx s tr (fun i => (Array.replicate ops.size false).getD i true = true) ops.size = stD ops s.nx s tr (fun _ => False) ops.size := stD_congr _ (fun i hi => ⟨fun h => by simp [hi] at h, fun h => h.elim⟩)
        rw [h1]
        have : ∀ k, stD ops s.nx s tr (fun _ => False) k = s := by
          intro k
          induction k with
          | zero => rfl
          | succ k ih => rw [stD_neg (fun h => h)]; exact ih
        exact this _
      refine draw_any (s0 := s) (base := s.nx) (tr := tr) (wl := wlOf E.sg s.nx s.fr ops.toList) hG hqb hok (fun i hi => ?_) (by rw [← stF'_stD]; exact hK) ops.size _ a _ St β (by simp) (fun i o hi ho => ?_) (by rw [hD]; exact hs.drew) (fun id hid hne => absurd (hn id hid) hne) ?_
      · obtain ⟨o, ho, hT⟩ := htr i hi
        rw [Nat.zero_add, stF'_stD] at hT
        rw [Nat.zero_add] at ho
        exact ⟨o, ho, hT⟩
      · have := (Array.getElem?_eq_some_iff.1 ho).1
        simp [this] at hi
      · refine Nat.le_trans List.countP_le_length ?_
        simp

theorem run_sound (hti : ∀ t i, E.ti t = some i → TIok E.P t i) (hcall : ∀ f s args rvs, E.sg f = some s → E.call f args = some rvs → CallAny E.P G f s args rvs) (hent : ∀ f args rvs, E.call f args = some rvs → Enterable E.P f)
    (hG : ∀ w, Bel w0.base w0.toWorld w → G w) (hqb : ∀ b o, Q b o → b < w0.heap.size ∧ ¬ w0.own b) (hmix : E.P.follows .mixedOrders = true) {fn : Func} {N : Note} (hres : fn.results.toList = N.res) (hnio : w0.nio = N.ios.length) {cutQ : List Item → S → Option (List RV)}
    (hcut : ∀ todo s rvs, cutQ todo s = some rvs → ∀ w St β a, SRel w0 St0 Q N.nt w St β a s → (∀ id, s.nx ≤ id → β id = none) → TW E.P todo a w (Fin E.P w0 St0 Q fn N.ios N.rts.length rvs)) :
    ∀ (n : Nat) (ex : Bool) (todo : List Item) (s : S) (rvs : List RV), run E N cutQ n ex todo s = some rvs → ∀ w St β a, SRel w0 St0 Q N.nt w St β a s → (∀ id, s.nx ≤ id → β id = none) → TW E.P todo a w (Fin E.P w0 St0 Q fn N.ios N.rts.length rvs)
  | 0, _, _, _, _, h, _, _, _, _, _, _ => by simp [run] at h
  | n + 1, ex, todo, s, rvs, h, w, St, β, a, hs, hn => by
    have ih := run_sound hti hcall hent hG hqb hmix hres hnio hcut n
    have loop : ∀ (b : Code) (k : List Item), (match firstReg b with | some id => (match lookN N.loops id with | some live => cutQ (.code b :: .inLoop b :: k) (canonS N.ios.length live s) | none => none) | none => none) = some rvs →
        TW E.P (.code b :: .inLoop b :: k) a w (Fin E.P w0 St0 Q fn N.ios N.rts.length rvs) := by
      intro b k h
      split at h
      · split at h
        · rename_i live _
          obtain ⟨St', β', h1, h2⟩ := canon_sound hs live
          rw [hnio] at h1 h2
          exact hcut _ _ _ h w St' β' a h1 h2
        · cases h
      · cases h
    unfold run at h
    split at h
    · intro b cs
      exact ⟨a, w, _, fin_sound hti hs hres hnio h, .one step_end⟩
    · rename_i c k
      split at h
      · exact TW.head (fun b cs => step_skip) (ih _ _ _ _ h w St β a hs hn)
      · exact TW.head (fun b cs => step_label) (ih _ _ _ _ h w St β a hs hn)
      · rename_i id ops draw
        split at h
        · rename_i live _
          obtain ⟨St', β', h1, h2⟩ := canon_sound hs live
          rw [hnio] at h1 h2
          exact hcut _ _ _ h w St' β' a h1 h2
        · refine TW.region (region_sound hti hcall hent hG hqb hmix hs hn h) ?_
          rintro a' w' ⟨s', St', β', h1, h2, h3⟩
          exact ih _ _ _ _ h2 w' St' β' a' (h1.congr (fun _ => rfl) (fun _ => rfl)) h3
      · exact TW.head (fun b cs => step_seq) (ih _ _ _ _ h w St β a hs hn)
      · rename_i cnd x y
        simp only [ifs] at h
        split at h
        · rename_i t ht
          have he := hs.eval cnd
          rw [ht] at he
          obtain ⟨e, _⟩ := rel_sc he
          split at h
          · rename_i htt
            subst htt
            exact TW.head (fun b cs => by rw [step_cond e]; rfl) (ih _ _ _ _ h w St β a hs hn)
          · rename_i htt
            obtain rfl : t = false := by simpa using htt
            exact TW.head (fun b cs => by rw [step_cond e]; rfl) (ih _ _ _ _ h w St β a hs hn)
        · cases h
      · exact TW.head (fun b cs => step_block) (ih _ _ _ _ h w St β a hs hn)
      · exact TW.head (fun b cs => step_scope) (ih _ _ _ _ h w St β a hs hn)
      · rename_i b
        exact TW.head (fun _ cs => step_loop) (loop b k h)
      · rename_i id
        split at h
        · rename_i k' hk
          exact TW.head (fun b cs => step_exit hk) (ih _ _ _ _ h w St β a hs hn)
        · cases h
      · intro b cs
        exact ⟨a, w, _, fin_sound hti hs hres hnio h, .one step_ret⟩
      · cases h
    · exact TW.head (fun b cs => step_inBlock) (ih _ _ _ _ h w St β a hs hn)
    · exact TW.head (fun b cs => step_inScope) (ih _ _ _ _ h w St β a hs hn)
    · rename_i b k
      exact TW.head (fun _ cs => step_inLoop) (loop b k h)
    · cases h
end

/-- The signature tells the variables that the notes tell. -/
def SgOK (W : Wd) (f : FuncId) (s : Sig) : Prop :=
  match W.ext f with
  | some _ => s.ios = [] ∧ s.eat = W.eat f
  | none => match W.fns f with
    | some (_, N) => s.eat = false ∧ s.ios = N.ios ∧ (N.ios ≠ [] → s.args.length = N.na ∧ s.rts.length = N.rts.length)
    | none => True

/-- What is asked of the tables: they tell the truth of the program. -/
structure WdOK (W : Wd) (G : World → Prop) : Prop where
  ti : ∀ t i, W.ti t = some i → TIok W.P t i
  fns : ∀ f c N, W.fns f = some (c, N) → ∃ fn, W.P.funcs[f]? = some fn ∧ fn.body = some c ∧ N.nt ≤ fn.ntmps ∧ fn.results.toList = N.res ∧ (fn.name == "runtime.NumGoroutine") = false
  ext : ∀ f g args rvs, W.ext f = some g → g args = some rvs → (match W.eat f with | true => CallEat W.P G f args rvs | false => CallOK W.P G f args rvs) ∧ Enterable W.P f
  mixed : W.P.follows .mixedOrders = true
  keep : ∀ w w' : World, G w → Below w.heap.size w w' → G w'
  sg : ∀ f s, W.sg f = some s → SgOK W f s

section
variable {W : Wd} {G : World → Prop}

/-- Good rounds. -/
def CutOK (W : Wd) (G : World → Prop) (cut : Note → List Item → S → Option (List RV)) : Prop :=
  ∀ (N : Note) (todo : List Item) (s : S) (rvs : List RV), cut N todo s = some rvs → ∀ (fn : Func), fn.results.toList = N.res → ∀ (w0 : Ent) (St0 Q : Stb), w0.nio = N.ios.length → (∀ w, Bel w0.base w0.toWorld w → G w) → (∀ b o, Q b o → b < w0.heap.size ∧ ¬ w0.own b) →
    ∀ w St β a, SRel w0 St0 Q N.nt w St β a s → (∀ id, s.nx ≤ id → β id = none) → TW W.P todo a w (Fin W.P w0 St0 Q fn N.ios N.rts.length rvs)

theorem cutStep_ok (hW : WdOK W G) {call : FuncId → List A → Option (List RV)} (hcall : ∀ f args rvs, call f args = some rvs → (∀ s, SgOK W f s → CallAny W.P G f s args rvs) ∧ Enterable W.P f) {cut : Note → List Item → S → Option (List RV)} (hcut : CutOK W G cut) :
    CutOK W G (cutStep W call cut) := by
  intro N todo s rvs h fn hres w0 St0 Q hnio hG hqb w St β a hs hn
  exact run_sound (E := envOf W call) hW.ti (fun f s args rvs hsg h => (hcall f args rvs h).1 s (hW.sg f s hsg)) (fun f args rvs h => (hcall f args rvs h).2) hG hqb hW.mixed hres hnio (fun todo s rvs h w St β a hs hn => hcut N todo s rvs h fn hres w0 St0 Q hnio hG hqb w St β a hs hn)
    big true todo s rvs h w St β a hs hn

theorem getM_ioMem : ∀ (ios : List (Nat × TypeId × Ty)) (as_ : List A) (k : Nat), getM (ioMem ios as_) k = ioM ios as_ k
  | x :: xs, a :: as_, 0 => rfl
  | x :: xs, a :: as_, k + 1 => getM_ioMem xs as_ k
  | [], _, k => by simp [ioMem, getM, ioM]
  | _ :: _, [], k => by simp [ioMem, getM, ioM]

theorem initS_rel2 {w : World} {St Q : Stb} {β : Bet} : ∀ (args : List A) (i : Nat) (cs : List Value) (val : Nat → Value), All2 (RelA w St Q β) cs args → (∀ q c, cs[q]? = some c → val (i + q) = c) → AllFr w St Q β val (initS i args)
  | [], _, _, _, _, _ => fun p hp => by cases hp
  | x :: args, i, [], _, h, _ => h.elim
  | x :: args, i, c :: cs, val, ⟨h1, h2⟩, hv => fun p hp => by
    rcases List.mem_cons.1 hp with rfl | hp
    · have := hv 0 c rfl
      rw [Nat.add_zero] at this
      show RelF w St Q β (val i) (.a x)
      rw [this]; exact h1
    · exact initS_rel2 args (i + 1) cs val h2 (fun q c hq => by rw [show i + 1 + q = i + (q + 1) by omega]; exact hv (q + 1) c (by simpa using hq)) p hp

/-- A function's run from its begin. -/
theorem enter_ok (hW : WdOK W G) {cut : Note → List Item → S → Option (List RV)} (hcut : CutOK W G cut) {f : FuncId} {c : Code} {N : Note} {fn : Func} (hfn : W.P.funcs[f]? = some fn) (hb : fn.body = some c) (hnt : N.nt ≤ fn.ntmps) (hres : fn.results.toList = N.res)
    {as_ ds : List A} {rvs : List RV} (h : cut N [.code c] { fr := initS 0 as_, mem := ioMem N.ios ds, nx := N.ios.length } = some rvs) :
    CallIO W.P G f N.ios as_ ds rvs N.rts.length := by
  intro w St Q β own cargs hGw hst hqb hown hbn hbs hM hargs
  have hsz : cargs.size = as_.length := by simpa using All2.length _ _ hargs
  let e0 : Ent := ⟨w, own, β, N.ios.length, hbn, hbs, fun b hb => by obtain ⟨k, loc, _, h1, h2⟩ := hown b hb; exact ⟨k, loc, h1, h2⟩⟩
  let act : Act := { tmps := cargs ++ Array.replicate (fn.ntmps - cargs.size) undef, defers := [] }
  have hs : SRel e0 St Q N.nt w St β act { fr := initS 0 as_, mem := ioMem N.ios ds, nx := N.ios.length } := by
    refine ⟨Bel.refl _ _, Keep.refl _ _ _ _, fun _ _ h => .inl h, hst, ?_, ?_, ?_, rfl⟩
    · rw [show getM (ioMem N.ios ds) = ioM N.ios ds from funext (getM_ioMem _ _)]; exact hM
    · refine getF_rel (initS_rel2 as_ 0 cargs.toList (fun t => act.tmps.getD t undef) hargs fun q c hq => ?_)
      have hlt : q < cargs.size := by have := (List.getElem?_eq_some_iff.1 hq).1; simpa using this
      have hq' : cargs[q]? = some c := by simpa using hq
      simp only [Nat.zero_add, act, Array.getD_eq_getD_getElem?]
      rw [Array.getElem?_append_left hlt, hq']
      rfl
    · simp only [act, Array.size_append, Array.size_replicate]; omega
  have hTW := hcut N [.code c] _ rvs h fn hres e0 St Q rfl hGw hqb w St β act hs hbn
  intro cs
  let b : Frame := { (default : Frame) with fn := f, kind := .normal }
  have henter : Frame.enter W.P f cargs .normal = b.at act [.code c] := by
    simp [Frame.enter, Frame.at, hfn, hb, b, act]
  obtain ⟨a', w', todo', ⟨hd, vs, obs, St', os, hrun, hbel, h1, h2, hrest⟩, hsteps⟩ := hTW b cs
  rw [← henter] at hsteps
  exact ⟨.returned (wrapV vs), w', _, ⟨vs, obs, St', os, rfl, hbel, h1, h2, hrest⟩, hsteps, rfl, rfl, hd, rfl, fn, hfn, hrun⟩

theorem ioM_nil (as_ : List A) (k : Nat) : ioM [] as_ k = none := by cases as_ <;> cases k <;> rfl

theorem CallIO.toOK (hkeep : ∀ w w' : World, G w → Below w.heap.size w w' → G w') {f : FuncId} {as_ ds : List A} {rvs : List RV} {nr : Nat} (h : CallIO W.P G f [] as_ ds rvs nr) : CallOK W.P G f as_ rvs := by
  intro w St Q cargs hGw hst hqb hargs
  refine (h w St Q noBet (fun _ => False) cargs (fun w' hb => hkeep w w' hGw hb.to) hst (fun b o h => ⟨hqb b o h, fun x => x⟩) (fun b h => h.elim) (fun _ _ => rfl) (fun k hk => by simp at hk) ⟨(fun id r h => by rw [ioM_nil] at h; cases h), (fun id _ _ _ _ _ _ h => by rw [ioM_nil] at h; cases h)⟩ hargs).mono fun e w' => ?_
  rintro ⟨cs, obs, St', os, he, hbel, h1, h2, h3, h4, h5, h6, h7, _⟩
  have h8 : os = [] := List.eq_nil_of_length_eq_zero (by simpa using h7)
  rw [h8, List.map_nil, List.drop_eq_nil_iff] at h6
  rw [List.take_of_length_le h6] at h4
  exact ⟨cs, obs, St', he, hbel.to, h1, h2, h3, h4, h5⟩

theorem callStep_ok (hW : WdOK W G) {call : FuncId → List A → Option (List RV)} (hcall : ∀ f args rvs, call f args = some rvs → (∀ s, SgOK W f s → CallAny W.P G f s args rvs) ∧ Enterable W.P f) {cut : Note → List Item → S → Option (List RV)} (hcut : CutOK W G cut)
    {f : FuncId} {args : List A} {rvs : List RV} (h : callStep W call cut f args = some rvs) : (∀ s, SgOK W f s → CallAny W.P G f s args rvs) ∧ Enterable W.P f := by
  unfold callStep at h
  split at h
  · rename_i g hg
    obtain ⟨h1, h2⟩ := hW.ext f g args rvs hg h
    refine ⟨fun s hs => ?_, h2⟩
    unfold SgOK at hs
    rw [hg] at hs
    unfold CallAny
    rw [hs.2, hs.1]
    cases he : W.eat f <;> rw [he] at h1 <;> exact h1
  · rename_i hext
    split at h
    · rename_i c N hf
      obtain ⟨fn, hfn, hb, hnt, hres, hname⟩ := hW.fns f c N hf
      refine ⟨fun s hs => ?_, fn, hfn, by rw [hb]; rfl, hname⟩
      unfold SgOK at hs
      rw [hext, hf] at hs
      obtain ⟨hs0, hs1, hs2⟩ := hs
      unfold CallAny
      rw [hs0]
      simp only
      split at h
      · rename_i hN
        rw [hs1, hN]
        have hc := cutStep_ok hW hcall hcut
        have hrun : cutStep W call cut N [.code c] { fr := initS 0 args, mem := ioMem N.ios [], nx := N.ios.length } = some rvs := by
          rw [hN]; exact h
        have := enter_ok hW hc hfn hb hnt hres hrun
        rw [hN] at this
        exact this.toOK hW.keep
      · rename_i x0 xs0 hN
        have hne : N.ios ≠ [] := by rw [hN]; simp
        obtain ⟨e1, e2⟩ := hs2 hne
        have hc := cutStep_ok hW hcall hcut
        have := enter_ok hW hc hfn hb hnt hres h
        rw [hs1, hN]
        simp only
        rw [← hN, e1, e2]
        exact this
    · cases h

theorem rounds_ok (hW : WdOK W G) : ∀ k, (∀ f args rvs, callN W k f args = some rvs → (∀ s, SgOK W f s → CallAny W.P G f s args rvs) ∧ Enterable W.P f) ∧ CutOK W G (cutN W k)
  | 0 => ⟨fun f args rvs h => by simp [callN] at h, fun N todo s rvs h => by simp [cutN] at h⟩
  | k + 1 => by
    obtain ⟨h1, h2⟩ := rounds_ok hW k
    refine ⟨fun f args rvs h => ?_, fun N todo s rvs h => ?_⟩
    · rw [callN] at h; exact callStep_ok hW h1 h2 h
    · rw [cutN] at h; exact cutStep_ok hW h1 h2 N todo s rvs h

theorem limO_some {α : Type} {g : Nat → Option α} {r : α} (h : limO g = some r) : ∃ k, g k = some r := by
  unfold limO at h
  split at h
  · rename_i hx
    cases h
    exact hx.choose_spec
  · cases h

/-- ████ What the machine answers is the function's contract. ████ -/
theorem callW_any (hW : WdOK W G) {f : FuncId} {args : List A} {rvs : List RV} (h : callW W f args = some rvs) {s : Sig} (hs : SgOK W f s) : CallAny W.P G f s args rvs :=
  let ⟨k, hk⟩ := limO_some h
  ((rounds_ok hW k).1 f args rvs hk).1 s hs

/-- No variables of the caller's. -/
def iosOf (W : Wd) (f : FuncId) : List (Nat × TypeId × Ty) :=
  match W.ext f with
  | some _ => bif W.eat f then [(0, 0, .unit)] else []
  | none => match W.fns f with
    | some (_, N) => N.ios
    | none => []

theorem callW_ok (hW : WdOK W G) {f : FuncId} {args : List A} {rvs : List RV} (h : callW W f args = some rvs) (hio : iosOf W f = []) : CallOK W.P G f args rvs := by
  have := callW_any hW h (s := ⟨[], [], [], false⟩) (by
    unfold SgOK
    unfold iosOf at hio
    split
    · rename_i g he
      rw [he] at hio
      refine ⟨rfl, ?_⟩
      cases hx : W.eat f with
      | false => rfl
      | true => rw [hx] at hio; simp at hio
    · rename_i he
      rw [he] at hio
      split
      · rename_i c N hf
        rw [hf] at hio
        exact ⟨rfl, hio.symm, fun hn => absurd hio hn⟩
      · trivial)
  exact this

end
end Go.Proofs.Ytefhcmkiachphaa.Ab
end
