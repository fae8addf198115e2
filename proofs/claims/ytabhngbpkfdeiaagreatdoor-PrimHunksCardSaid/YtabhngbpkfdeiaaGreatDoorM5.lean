/- What some functions of the program and of the references come to, in plain words: paths, and which steps may be. Conditions: lengths as they stand in each statement. The parts of a text between slashes, as lists of bytes. No condition. strings.Split at slashes, as the parts of the bytes. No condition. The order of paths: by their names; the program's and the reference's. Conditions: lengths as they stand in each statement. In which directory a path lies: the program's answer and the reference's. Conditions: lengths as they stand in each statement. Rows of files in order: where a path stands, a -/
import Derived.Test.YtabhngbpkfdeiaaGreatDoorM4
import Derived.Sort.Walk0
section
/- What some functions of the program and of the references come to, in plain words: paths, and which steps may be. Conditions: lengths as they stand in each statement. -/
set_option linter.unusedVariables false
set_option linter.unusedSimpArgs false
namespace Go.Proofs.YtabhngbpkfdeiaaGreatDoor.Sp
open Go Go.Proofs.YtabhngbpkfdeiaaGreatDoor.Ab Go.Proofs.YtabhngbpkfdeiaaGreatDoor.Tb Go.Proofs.YtabhngbpkfdeiaaGreatDoor.EText

/-! ### A text cut at its slashes -/
abbrev slash : Txt := { data := #[47] }
theorem ext_of {x y : Txt} (h : x.data.toList = y.data.toList) : x = y := by
  obtain ⟨⟨a⟩⟩ := x
  obtain ⟨⟨b⟩⟩ := y
  simpa using h
theorem ex_data (s : Txt) (a b : Nat) : (s.extract a b).data.toList = (s.data.toList.drop a).take (b - a) := Lib.extract_data s a b
theorem tail_data (s : Txt) (a : Nat) : (s.extract a s.size).data.toList = s.data.toList.drop a := Lib.extract_to_end s a
theorem ex_size (s : Txt) (a b : Nat) : (s.extract a b).size ≤ s.size := by
  rw [Lib.size_eq, ex_data, Lib.size_eq, List.length_take, List.length_drop]; omega
theorem ex_all (s : Txt) : s.extract 0 s.size = s := ext_of (by rw [tail_data, List.drop_zero])
theorem ix_tail (s : Txt) (a : Nat) : Lib.indexB (s.extract a s.size) slash = Lib.indexByte (s.data.toList.drop a) 47 := by
  show Lib.index (s.extract a s.size).data.toList [47] = _
  rw [tail_data, Lib.index_one]
theorem ix_none (l : List UInt8) (c : UInt8) (h : ∀ k : Nat, l[k]? ≠ some c) : Lib.indexByte l c = -1 := by
  have hg := Lib.indexByte_ge l c
  by_cases h1 : Lib.indexByte l c = -1
  · exact h1
  · obtain ⟨j, hj⟩ : ∃ j : Nat, Lib.indexByte l c = j := ⟨(Lib.indexByte l c).toNat, by omega⟩
    exact absurd (Lib.indexByte_some hj).1 (h j)
theorem ix_some (l : List UInt8) (c : UInt8) (o : Nat) (ho : l[o]? = some c) (h : ∀ k : Nat, k < o → l[k]? ≠ some c) : Lib.indexByte l c = o := by
  have hg := Lib.indexByte_ge l c
  by_cases h1 : Lib.indexByte l c = -1
  · exact absurd ho (Lib.indexByte_none h1 o)
  · obtain ⟨j, hj⟩ : ∃ j : Nat, Lib.indexByte l c = j := ⟨(Lib.indexByte l c).toNat, by omega⟩
    obtain ⟨h2, h3⟩ := Lib.indexByte_some hj
    rw [hj]
    by_cases h4 : j < o
    · exact absurd h2 (h j h4)
    · by_cases h5 : o < j
      · exact absurd ho (h3 o h5)
      · omega
theorem segs_miss (s : Txt) (a : Nat) (h : ∀ k : Nat, a ≤ k → s.data.toList[k]? ≠ some 47) : splitL (s.extract a s.size) slash = [s.extract a s.size] := by
  have hi : Lib.indexB (s.extract a s.size) slash = -1 := by
    rw [ix_tail]
    exact ix_none _ _ (fun k => by rw [List.getElem?_drop]; exact h _ (by omega))
  unfold splitL
  exact Lib.splitB_miss _ _ _ _ hi
theorem segs_hit (s : Txt) (a i : Nat) (ha : a ≤ i) (hi : i < s.size) (hs : s.data.toList[i]? = some 47) (h : ∀ k : Nat, a ≤ k → k < i → s.data.toList[k]? ≠ some 47) :
    splitL (s.extract a s.size) slash = s.extract a i :: splitL (s.extract (i + 1) s.size) slash := by
  have hx : Lib.indexB (s.extract a s.size) slash = ((i - a : Nat) : Int) := by
    rw [ix_tail]
    exact ix_some _ _ _ (by rw [List.getElem?_drop, show a + (i - a) = i by omega]; exact hs) (fun k hk => by rw [List.getElem?_drop]; exact h _ (by omega) (by omega))
  have e1 : (s.extract a s.size).extract 0 (i - a + 0) = s.extract a i := ext_of (by
    rw [ex_data, tail_data, ex_data, List.drop_zero]; congr 1)
  have e2 : (s.extract a s.size).extract (i - a + slash.size) (s.extract a s.size).size = s.extract (i + 1) s.size := ext_of (by
    rw [tail_data, tail_data, tail_data, List.drop_drop]
    congr 1
    show a + (i - a + 1) = i + 1
    omega)
  unfold splitL
  rw [Lib.countB_hit _ _ _ (by decide) hx, Nat.add_comm 1, Lib.splitB_hit _ _ _ _ _ hx, e1, e2]
theorem splitB_sizes (t : Txt) : ∀ (k : Nat) (s x : Txt), x ∈ Lib.splitB t 0 k s → x.size ≤ s.size
  | 0, s, x, h => by rw [Lib.splitB_zero, List.mem_singleton] at h; rw [h]; exact Nat.le_refl _
  | k + 1, s, x, h => by
    unfold Lib.splitB at h
    split at h
    · rw [List.mem_singleton] at h; rw [h]; exact Nat.le_refl _
    · rcases List.mem_cons.1 h with h | h
      · rw [h]; exact ex_size _ _ _
      · exact Nat.le_trans (splitB_sizes t k _ x h) (ex_size _ _ _)
theorem segs_len (s : Txt) : (splitL s slash).length = Lib.countB s slash + 1 := Lib.splitB_all slash (by decide) 0 _ s rfl
theorem segs_ok (s : Txt) (hs : s.size ≤ 100000) : LOk (splitL s slash) := by
  refine ⟨?_, fun x hx => ?_⟩
  · rw [segs_len]
    have := Lib.count_le s.data.toList slash.data.toList
    rw [← Lib.size_eq] at this
    simp only [top]
    show Lib.count _ _ + 1 ≤ _
    omega
  · have := splitB_sizes slash _ s x hx
    simp only [top]; omega

/-! ### Paths -/
def rightP (p : Txt) : Bool := decide (p.size ≤ 200) && (decide ((splitL p slash).length ≤ 16) && (splitL p slash).all rightB)
theorem pright_ok (p : Txt) (hp : p.size ≤ 100000) : cR 83 [RT.d .bool] [inj .str p] = some (rightP p) := by
  refine callT_of ((e83 p).trans ?_)
  rw [split_ok p _ (by omega) (by decide), Option.bind_some, List.take_length, cofB_ok _ (segs_ok p hp), Option.bind_some, any_not]
  unfold rightP
  simp only [ifs]
  by_cases h1 : p.size ≤ 200
  · have h1' : (p.size : Int) ≤ 200 := by omega
    by_cases h2 : (splitL p slash).length ≤ 16
    · have h2' : ((splitL p slash).length : Int) ≤ 16 := by omega
      simp [h1, h2, h1', h2']
    · have h2' : ¬ ((splitL p slash).length : Int) ≤ 16 := by omega
      simp [h1, h2, h1', h2']
  · have h1' : ¬ (p.size : Int) ≤ 200 := by omega
    simp [h1, h1']

def names (p : Txt) : List Txt := if rightP p then splitL p slash else []
theorem names_end (p : Txt) (hp : p.size ≤ 200) (out : List Txt) (x : Int) : l9_6 p x ((p.size : Int) + 1) out = some (injRs [RT.own 9 .str] (if out.length > 16 then [] else out)) := by
  refine cutG_step ((q9_6 p x ((p.size : Int) + 1) out).trans ?_)
  rw [ifs_neg (by simp; omega), List.take_length]
  by_cases h : out.length > 16
  · rw [ifs_pos (by simp; omega), if_pos h]
  · rw [ifs_neg (by simp; omega), if_neg h]
theorem names_loop (p : Txt) (hp : p.size ≤ 200) : ∀ (d a i : Nat) (out : List Txt), i ≤ p.size → p.size - i ≤ d → a ≤ i → out.length ≤ i → (∀ k : Nat, a ≤ k → k < i → p.data.toList[k]? ≠ some 47) →
    l9_6 p a i out = some (injRs [RT.own 9 .str] (if (splitL (p.extract a p.size) slash).all rightB then (if (out ++ splitL (p.extract a p.size) slash).length > 16 then [] else out ++ splitL (p.extract a p.size) slash) else []))
  | d, a, i, out, hi, hd, ha, hout, hno => by
    refine cutG_step ((q9_6 p a i out).trans ?_)
    have c0 : (0 : Int) ≤ i := by omega
    have c1 : (i : Int) ≤ (p.size : Int) := by omega
    have c2 : (0 : Int) ≤ (a : Int) ∧ (a : Int) ≤ (i : Int) := by omega
    have hsz : (p.extract a i).size ≤ top := Nat.le_trans (ex_size _ _ _) (by simp only [top]; omega)
    have hlen : (out.length + 1) * 16 ≤ 140737488355328 := by omega
    have hw : IntKind.i64.wrap ((i : Int) + 1) = (i : Int) + 1 := wr _ ⟨by omega, by omega⟩
    simp only [Int.toNat_natCast, right2_ok _ hsz, Option.bind_some, List.take_length, hw]
    by_cases h : i < p.size
    · have h' : (i : Int) < (p.size : Int) := by omega
      have hg : p.data.toList[i]? = some p[i] := Lib.data_getElem? p i h
      obtain ⟨d, rfl⟩ : ∃ e, d = e + 1 := ⟨d - 1, by omega⟩
      simp only [ifs, h', c0, c1, c2, hlen, decide_true, and_self, if_true, show p[i]? = some p[i] from Go.ByteArray.getElem?_lt' p i h, Option.bind_some]
      by_cases hs : p[i] = 47
      · have hs' : (p[i].toNat : Int) = 47 := by rw [hs]; rfl
        rw [segs_hit p a i ha h (by rw [hg, hs]) hno, List.all_cons]
        have ih := names_loop p hp d (i + 1) (i + 1) (out ++ [p.extract a i]) (by omega) (by omega) (Nat.le_refl _) (by simp; omega) (fun k h1 h2 => by omega)
        rw [show ((i + 1 : Nat) : Int) = (i : Int) + 1 by omega] at ih
        simp only [hs', bne_self_eq_false, Bool.false_eq_true, if_false]
        cases hr : rightB (p.extract a i) with
        | true =>
          simp only [Bool.not_true, Bool.false_eq_true, if_false, ih, List.append_assoc, List.cons_append, List.nil_append, Bool.true_and]
        | false => rfl
      · have hs' : ((p[i].toNat : Int) != 47) = true := by
          rw [bne_iff_ne]
          intro e
          exact hs (UInt8.toNat_inj.1 (by have : p[i].toNat = 47 := by omega
                                          rw [this]; rfl))
        simp only [hs', if_true]
        have ih := names_loop p hp d a (i + 1) out (by omega) (by omega) (by omega) (by omega) (fun k h1 h2 => by
          by_cases e : k = i
          · subst e; rw [hg]; exact fun e => hs (Option.some.inj e)
          · exact hno k h1 (by omega))
        rw [show ((i + 1 : Nat) : Int) = (i : Int) + 1 by omega] at ih
        exact ih
    · have hi' : i = p.size := by omega
      subst hi'
      have hmiss := segs_miss p a (fun k hk => by
        by_cases e : k < p.size
        · exact hno k hk e
        · rw [List.getElem?_eq_none (by rw [data_len]; omega)]; exact fun e => by cases e)
      rw [hmiss]
      have h' : ¬ (p.size : Int) < (p.size : Int) := by omega
      simp only [ifs, h', c0, c1, c2, hlen, decide_true, decide_false, and_self, if_true, Bool.false_eq_true, if_false, names_end p hp, Int.le_refl]
      cases hr : rightB (p.extract a p.size) with
      | true => simp [hr]
      | false => simp [hr]
theorem names5_ok (p : Txt) : cR 9 [RT.own 9 .str] [inj .str p] = some (names p) := by
  refine callT_of ((e9 p).trans ?_)
  unfold names rightP
  by_cases h : p.size ≤ 200
  · rw [ifs_neg (by simp; omega)]
    have := names_loop p h p.size 0 0 [] (Nat.zero_le _) (by omega) (Nat.le_refl _) (Nat.zero_le _) (fun k h1 h2 => by omega)
    refine this.trans ?_
    rw [ex_all, List.nil_append]
    by_cases h2 : (splitL p slash).length ≤ 16
    · rw [if_neg (show ¬ (splitL p slash).length > 16 by omega)]
      simp [h, h2]
    · rw [if_pos (show (splitL p slash).length > 16 by omega)]
      simp [h, h2]
  · rw [ifs_pos (by simp; omega)]
    simp [h]
theorem names_len (p : Txt) : decide ((names p).length > 0) = rightP p := by
  unfold names
  cases h : rightP p with
  | true => rw [if_pos rfl, segs_len]; simp
  | false => rfl
theorem right5_ok (p : Txt) : cR 8 [RT.d .bool] [inj .str p] = some (rightP p) := by
  refine callT_of ((e8 p).trans ?_)
  rw [names5_ok, Option.bind_some, ← names_len]
  exact congrArg (fun b => some (injRs [RT.d .bool] b)) (by rw [decide_eq_decide]; omega)

end Go.Proofs.YtabhngbpkfdeiaaGreatDoor.Sp
end
section
/- The parts of a text between slashes, as lists of bytes. No condition. -/
set_option linter.unusedVariables false
set_option linter.unusedSimpArgs false
namespace Go.Proofs.YtabhngbpkfdeiaaGreatDoor.Sp
open Go Go.Proofs.YtabhngbpkfdeiaaGreatDoor.Ab Go.Proofs.YtabhngbpkfdeiaaGreatDoor.Tb Go.Proofs.YtabhngbpkfdeiaaGreatDoor.EText

def consP (c : UInt8) : List (List UInt8) → List (List UInt8)
  | [] => [[c]]
  | x :: r => (c :: x) :: r
def parts : List UInt8 → List (List UInt8)
  | [] => [[]]
  | c :: l => if c = 47 then [] :: parts l else consP c (parts l)
theorem consP_app (c : UInt8) (a b : List (List UInt8)) (h : a ≠ []) : consP c (a ++ b) = consP c a ++ b := by
  cases a with
  | nil => exact absurd rfl h
  | cons x r => rfl
theorem consP_ne (c : UInt8) (a : List (List UInt8)) : consP c a ≠ [] := by cases a <;> simp [consP]
theorem parts_ne : ∀ l : List UInt8, parts l ≠ []
  | [] => by simp [parts]
  | c :: l => by
    unfold parts
    split
    · simp
    · exact consP_ne _ _
theorem parts_app (t : List UInt8) : ∀ x : List UInt8, parts (x ++ 47 :: t) = parts x ++ parts t
  | [] => by simp [parts]
  | c :: x => by
    have ih := parts_app t x
    simp only [List.cons_append, parts, ih]
    split
    · rfl
    · exact consP_app _ _ _ (parts_ne x)
/-- The text of parts. -/
def joinP : List (List UInt8) → List UInt8
  | [] => []
  | [x] => x
  | x :: y :: r => x ++ 47 :: joinP (y :: r)
theorem joinP_consP (c : UInt8) : ∀ a : List (List UInt8), a ≠ [] → joinP (consP c a) = c :: joinP a
  | [], h => absurd rfl h
  | [x], _ => rfl
  | x :: y :: r, _ => rfl
theorem join_parts : ∀ l : List UInt8, joinP (parts l) = l
  | [] => rfl
  | c :: l => by
    have ih := join_parts l
    unfold parts
    split
    · rename_i h
      subst h
      cases hp : parts l with
      | nil => exact absurd hp (parts_ne l)
      | cons y r => rw [hp] at ih; simp only [joinP, List.nil_append, ih]
    · rw [joinP_consP _ _ (parts_ne l), ih]
theorem joinP_app (b : List (List UInt8)) (hb : b ≠ []) : ∀ a : List (List UInt8), a ≠ [] → joinP (a ++ b) = joinP a ++ 47 :: joinP b
  | [], h => absurd rfl h
  | [x], _ => by
    cases b with
    | nil => exact absurd rfl hb
    | cons y r => rfl
  | x :: y :: r, _ => by
    have ih := joinP_app b hb (y :: r) (by simp)
    simp only [List.cons_append] at ih
    simp only [List.cons_append, joinP, ih, List.append_assoc]
end Go.Proofs.YtabhngbpkfdeiaaGreatDoor.Sp
end
section
/- strings.Split at slashes, as the parts of the bytes. No condition. -/
set_option linter.unusedVariables false
set_option linter.unusedSimpArgs false
namespace Go.Proofs.YtabhngbpkfdeiaaGreatDoor.Sp
open Go Go.Proofs.YtabhngbpkfdeiaaGreatDoor.Ab Go.Proofs.YtabhngbpkfdeiaaGreatDoor.Tb Go.Proofs.YtabhngbpkfdeiaaGreatDoor.EText

theorem parts_none : ∀ l : List UInt8, (∀ c ∈ l, c ≠ 47) → parts l = [l]
  | [], _ => rfl
  | c :: l, h => by
    have ih := parts_none l (fun x hx => h x (List.mem_cons_of_mem _ hx))
    simp only [parts, ih]
    rw [if_neg (h c (by simp))]
    rfl
theorem parts_hit (u t : List UInt8) (h : ∀ c ∈ u, c ≠ 47) : parts (u ++ 47 :: t) = u :: parts t := by
  rw [parts_app, parts_none u h]; rfl
theorem first47 : ∀ l : List UInt8, (∀ c ∈ l, c ≠ 47) ∨ ∃ u t, l = u ++ 47 :: t ∧ ∀ c ∈ u, c ≠ 47
  | [] => .inl (by simp)
  | c :: l => by
    by_cases hc : c = 47
    · exact .inr ⟨[], l, by simp [hc], by simp⟩
    · rcases first47 l with h | ⟨u, t, h1, h2⟩
      · exact .inl fun x hx => by
          rcases List.mem_cons.1 hx with rfl | hx
          · exact hc
          · exact h x hx
      · exact .inr ⟨c :: u, t, by simp [h1], fun x hx => by
          rcases List.mem_cons.1 hx with rfl | hx
          · exact hc
          · exact h2 x hx⟩
theorem split_parts_at (s : Txt) : ∀ (n a : Nat), s.size - a ≤ n → a ≤ s.size → (splitL (s.extract a s.size) slash).map (·.data.toList) = parts (s.data.toList.drop a) := by
  have hsz : s.size = s.data.toList.length := (Array.length_toList (xs := s.data)).symm
  intro n
  induction n with
  | zero =>
    intro a h1 h2
    have ha : a = s.size := by omega
    subst ha
    rw [segs_miss s s.size (fun k hk => by rw [List.getElem?_eq_none (by omega)]; simp), List.map_singleton, tail_data, List.drop_eq_nil_iff.2 (by omega)]
    rfl
  | succ n ih =>
    intro a h1 h2
    rcases first47 (s.data.toList.drop a) with h | ⟨u, t, h, hu⟩
    · rw [segs_miss s a (fun k hk hc => by
        have : (s.data.toList.drop a)[k - a]? = some 47 := by rw [List.getElem?_drop, show a + (k - a) = k by omega]; exact hc
        exact h 47 (List.mem_of_getElem? this) rfl), List.map_singleton, tail_data, parts_none _ h]
    · have hl : (s.data.toList.drop a).length = u.length + 1 + t.length := by rw [h]; simp; omega
      rw [List.length_drop, ← hsz] at hl
      have hat : ∀ k, a ≤ k → s.data.toList[k]? = (u ++ 47 :: t)[k - a]? := fun k hk => by rw [← h, List.getElem?_drop, show a + (k - a) = k by omega]
      have hdr : s.data.toList.drop (a + u.length + 1) = t := by
        have := congrArg (List.drop (u.length + 1)) h
        rw [List.drop_drop] at this
        rw [show a + u.length + 1 = a + (u.length + 1) by omega, this]
        simp
      have hxt : (s.extract a (a + u.length)).data.toList = u := by
        rw [ex_data, h, show a + u.length - a = u.length by omega, List.take_left]
      rw [segs_hit s a (a + u.length) (by omega) (by omega) (by rw [hat _ (by omega)]; simp) (fun k hk hk2 hc => by
        rw [hat k hk, List.getElem?_append_left (by omega)] at hc
        exact hu 47 (List.mem_of_getElem? hc) rfl), List.map_cons, ih (a + u.length + 1) (by omega) (by omega), hdr, hxt, h, parts_hit u t hu]
theorem split_parts (s : Txt) : (splitL s slash).map (·.data.toList) = parts s.data.toList := by
  have := split_parts_at s s.size 0 (by omega) (Nat.zero_le _)
  rw [ex_all] at this
  exact this

end Go.Proofs.YtabhngbpkfdeiaaGreatDoor.Sp
end
section
/- The order of paths: by their names; the program's and the reference's. Conditions: lengths as they stand in each statement. -/
set_option linter.unusedVariables false
set_option linter.unusedSimpArgs false
namespace Go.Proofs.YtabhngbpkfdeiaaGreatDoor.Sp
open Go Go.Proofs.YtabhngbpkfdeiaaGreatDoor.Ab Go.Proofs.YtabhngbpkfdeiaaGreatDoor.Tb Go.Proofs.YtabhngbpkfdeiaaGreatDoor.EText

abbrev Fil := Txt × Bool × List Txt
theorem bl (a b : Txt) : Op.bytesLess a.toList b.toList = decide (a.toList < b.toList) := bytesLess_eq _ _
theorem tri_b {a b : Txt} (h1 : ¬ a.toList < b.toList) (h2 : ¬ b.toList < a.toList) : a = b := bytes_eq.1 (List.le_antisymm (List.not_lt.1 h2) (List.not_lt.1 h1))
theorem isnan_ok (a : Txt) : cR 161 [RT.d .bool] [inj .str a] = some false := callT_of ((e161 a).trans (by simp))
def cmpT (a b : Txt) : Int := if a.toList < b.toList then -1 else if a = b then 0 else 1
theorem cmps_ok (a b : Txt) : cR 145 [RT.d (.int .i64)] [inj .str a, inj .str b] = some (cmpT a b) := by
  refine callT_of ((e145 a b).trans ?_)
  rw [isnan_ok, Option.bind_some, isnan_ok, Option.bind_some, ifs_neg (by simp), ifs_neg (by simp), bl, bat]
  unfold cmpT
  by_cases h : a.toList < b.toList
  · rw [ifs_pos (by simpa using h), if_pos h]
  · rw [ifs_neg (by simpa using h), if_neg h]
    by_cases h2 : a = b
    · rw [ifs_neg (by simp [h2]), if_pos h2]
    · rw [ifs_pos (by simp [h, h2]), if_neg h2]

def lessL : List Txt → List Txt → Bool
  | [], [] => false
  | [], _ :: _ => true
  | _ :: _, [] => false
  | a :: x, b :: y => if a = b then lessL x y else decide (a.toList < b.toList)
theorem lessL_nil (y : List Txt) : lessL [] y = decide (0 < y.length) := by cases y <;> simp [lessL]
theorem cmpl_ok (x y : List Txt) (hx : x.length ≤ 100000) (hy : y.length ≤ 100000) : ∃ r : Int, cR 125 [RT.d (.int .i64)] [inj (.sl .str) x, inj (.sl .str) y] = some r ∧ decide (r < 0) = lessL x y := by
  have key : ∀ i : Nat, i ≤ x.length → ∃ r : Int, (i ≤ y.length → l125_2 x y x x.length (i : Int) = some (injRs [RT.d (.int .i64)] r) ∧ decide (r < 0) = lessL (x.drop i) (y.drop i)) := by
    refine upTo (fun i hi ih => ?_) ?_
    · obtain ⟨r, ih⟩ := ih
      by_cases hy1 : i < y.length
      · obtain ⟨h1, h2⟩ := (⟨ih (by omega), trivial⟩ : _ ∧ True).1
        by_cases he : x[i] = y[i]
        · refine ⟨r, fun _ => ⟨cutG_step ((q125_2 ..).trans ?_), ?_⟩⟩
          · rw [ifs_pos (by simpa using hi), ifs_pos (by omega), Int.toNat_natCast, List.getElem?_eq_getElem hi, Option.bind_some, ifs_neg (by simp; omega), ifs_pos (by omega), List.getElem?_eq_getElem hy1, Option.bind_some, cmps_ok, Option.bind_some, ifs_neg (by unfold cmpT; rw [he, if_neg (List.lt_irrefl _), if_pos rfl]; simp), wrS hi (by simp only [top]; omega)]
            exact h1
          · rw [h2, List.drop_eq_getElem_cons hi, List.drop_eq_getElem_cons hy1, lessL, if_pos he]
        · refine ⟨cmpT x[i] y[i], fun _ => ⟨cutG_step ((q125_2 ..).trans ?_), ?_⟩⟩
          · have hne : cmpT x[i] y[i] ≠ 0 := by
              unfold cmpT
              split
              · decide
              · first | decide | (rw [if_neg he]; decide)
            rw [ifs_pos (by simpa using hi), ifs_pos (by omega), Int.toNat_natCast, List.getElem?_eq_getElem hi, Option.bind_some, ifs_neg (by simp; omega), ifs_pos (by omega), List.getElem?_eq_getElem hy1, Option.bind_some, cmps_ok, Option.bind_some, ifs_pos (by simpa using hne)]
          · rw [List.drop_eq_getElem_cons hi, List.drop_eq_getElem_cons hy1, lessL, if_neg he]
            unfold cmpT
            by_cases h : x[i].toList < y[i].toList
            · rw [if_pos h]; simp [h]
            · rw [if_neg h, if_neg he]; simp [h]
      · refine ⟨1, fun hle => ⟨cutG_step ((q125_2 ..).trans ?_), ?_⟩⟩
        · rw [ifs_pos (by simpa using hi), ifs_pos (by omega), Int.toNat_natCast, List.getElem?_eq_getElem hi, Option.bind_some, ifs_pos (by simp; omega)]
        · rw [List.drop_eq_getElem_cons hi, List.drop_of_length_le (show y.length ≤ i by omega)]; rfl
    · by_cases h : x.length < y.length
      · refine ⟨-1, fun _ => ⟨cutG_step ((q125_2 ..).trans ?_), ?_⟩⟩
        · rw [ifs_neg (by simp), ifs_pos (by simp; omega)]
        · rw [List.drop_length, lessL_nil]; simp; omega
      · refine ⟨0, fun _ => ⟨cutG_step ((q125_2 ..).trans ?_), ?_⟩⟩
        · rw [ifs_neg (by simp), ifs_neg (by simp; omega)]
        · rw [List.drop_length, lessL_nil]; simp; omega
  obtain ⟨r, hr⟩ := key 0 (Nat.zero_le _)
  obtain ⟨h1, h2⟩ := hr (Nat.zero_le _)
  exact ⟨r, callT_of ((e125 x y).trans h1), by simpa using h2⟩
theorem psplit_ok (p : Txt) (hp : p.size ≤ 100000) : cR 124 [RT.own 9 .str] [inj .str p] = some (names p) := by
  refine callT_of ((e124 p).trans ?_)
  rw [pright_ok p hp, Option.bind_some]
  unfold names
  cases rightP p with
  | false => rw [ifs_pos (by simp)]; rfl
  | true => rw [ifs_neg (by simp), split_ok p slash (by omega) (by decide), Option.bind_some, List.take_length]; rfl
theorem names_le (p : Txt) : (names p).length ≤ 16 := by
  unfold names
  split
  · rename_i h
    unfold rightP at h
    simp only [Bool.and_eq_true, decide_eq_true_eq] at h
    exact h.2.1
  · simp
def lessP (a b : Txt) : Bool := if names a = [] ∧ names b = [] then decide (a.toList < b.toList) else lessL (names a) (names b)
theorem len0 {α : Type} (l : List α) : (((l.length : Nat) : Int) == 0) = decide (l = []) := by
  cases l with
  | nil => rfl
  | cons a l => rw [show (((a :: l).length : Nat) : Int) = (l.length : Int) + 1 by simp]; simp; omega
theorem pless_ok (a b : Txt) (ha : a.size ≤ 100000) (hb : b.size ≤ 100000) : cR 86 [RT.d .bool] [inj .str a, inj .str b] = some (lessP a b) := by
  refine callT_of ((e86 a b).trans ?_)
  have h1 := names_le a
  have h2 := names_le b
  obtain ⟨r, hr, hd⟩ := cmpl_ok (names a) (names b) (by omega) (by omega)
  rw [psplit_ok a ha, Option.bind_some, psplit_ok b hb, Option.bind_some, List.take_length, List.take_length, hr, Option.bind_some, hd, len0, len0, bl]
  unfold lessP
  by_cases e1 : names a = []
  · rw [ifs_pos (by simpa using e1)]
    by_cases e2 : names b = []
    · rw [ifs_pos (by simpa using e2), if_pos ⟨e1, e2⟩]
    · rw [ifs_neg (by simpa using e2), if_neg (fun h => e2 h.2)]
  · rw [ifs_neg (by simpa using e1), if_neg (fun h => e1 h.1)]
/-! ### It is an order -/
theorem lessL_irrefl : ∀ x : List Txt, lessL x x = false
  | [] => rfl
  | a :: x => by rw [lessL, if_pos rfl]; exact lessL_irrefl x
theorem lessL_trans : ∀ {x y z : List Txt}, lessL x y = true → lessL y z = true → lessL x z = true
  | [], [], _, h, _ => by cases h
  | [], _ :: _, [], _, h => by cases h
  | [], _ :: _, _ :: _, _, _ => rfl
  | _ :: _, [], _, h, _ => by cases h
  | _ :: _, _ :: _, [], _, h => by cases h
  | a :: x, b :: y, c :: z, h1, h2 => by
    unfold lessL at h1 h2 ⊢
    by_cases e1 : a = b
    · rw [if_pos e1] at h1
      subst e1
      by_cases e2 : a = c
      · rw [if_pos e2] at h2 ⊢; exact lessL_trans h1 h2
      · rw [if_neg e2] at h2 ⊢; exact h2
    · rw [if_neg e1] at h1
      by_cases e2 : b = c
      · subst e2; rw [if_neg e1]; exact h1
      · rw [if_neg e2] at h2
        have h3 := List.lt_trans (of_decide_eq_true h1) (of_decide_eq_true h2)
        have e3 : a ≠ c := fun e => by subst e; exact List.lt_irrefl _ h3
        rw [if_neg e3]; exact decide_eq_true h3
theorem lessL_tri : ∀ {x y : List Txt}, lessL x y = false → lessL y x = false → x = y
  | [], [], _, _ => rfl
  | [], _ :: _, h, _ => by cases h
  | _ :: _, [], _, h => by cases h
  | a :: x, b :: y, h1, h2 => by
    unfold lessL at h1 h2
    by_cases e : a = b
    · subst e
      rw [if_pos rfl] at h1 h2
      rw [lessL_tri h1 h2]
    · rw [if_neg e] at h1
      rw [if_neg (fun h => e h.symm)] at h2
      exact absurd (tri_b (of_decide_eq_false h1) (of_decide_eq_false h2)) e
theorem names_ne {p : Txt} (h : names p ≠ []) : rightP p = true ∧ names p = splitL p slash := by
  unfold names at h ⊢
  split
  · rename_i hr; exact ⟨hr, rfl⟩
  · rename_i hr; rw [if_neg hr] at h; exact absurd rfl h
theorem names_inj {a b : Txt} (h : names a ≠ []) (e : names a = names b) : a = b := by
  have h1 := (names_ne h).2
  have h2 := (names_ne (e ▸ h)).2
  have h3 : splitL a slash = splitL b slash := by rw [← h1, ← h2, e]
  have h4 := congrArg (List.map (·.data.toList)) h3
  rw [split_parts, split_parts] at h4
  have h5 := congrArg joinP h4
  rw [join_parts, join_parts] at h5
  exact ext_of h5
theorem lessP_irrefl (a : Txt) : lessP a a = false := by
  unfold lessP
  split
  · exact decide_eq_false (List.lt_irrefl _)
  · exact lessL_irrefl _
theorem lessL_right {x : List Txt} (h : lessL x [] = true) : False := by cases x <;> cases h
theorem lessP_trans {a b c : Txt} (h1 : lessP a b = true) (h2 : lessP b c = true) : lessP a c = true := by
  unfold lessP at *
  by_cases ea : names a = [] ∧ names b = []
  · rw [if_pos ea] at h1
    by_cases ec : names c = []
    · rw [if_pos ⟨ea.2, ec⟩] at h2
      rw [if_pos ⟨ea.1, ec⟩]
      exact decide_eq_true (List.lt_trans (of_decide_eq_true h1) (of_decide_eq_true h2))
    · rw [if_neg (fun h => ec h.2), ea.1, lessL_nil]
      exact decide_eq_true (List.length_pos_iff.2 ec)
  · rw [if_neg ea] at h1
    have hb : names b ≠ [] := fun e => by rw [e] at h1; exact lessL_right h1
    rw [if_neg (fun h => hb h.1)] at h2
    have hc : names c ≠ [] := fun e => by rw [e] at h2; exact lessL_right h2
    rw [if_neg (fun h => hc h.2)]
    exact lessL_trans h1 h2
theorem lessP_tri {a b : Txt} (h1 : lessP a b = false) (h2 : lessP b a = false) : a = b := by
  unfold lessP at *
  by_cases ea : names a = [] ∧ names b = []
  · rw [if_pos ea] at h1
    rw [if_pos ⟨ea.2, ea.1⟩] at h2
    exact tri_b (of_decide_eq_false h1) (of_decide_eq_false h2)
  · rw [if_neg ea] at h1
    rw [if_neg (fun h => ea ⟨h.2, h.1⟩)] at h2
    have e := lessL_tri h1 h2
    refine names_inj (fun h => ea ⟨h, by rw [← e]; exact h⟩) e
theorem lessP_asym {a b : Txt} (h : lessP a b = true) : lessP b a = false := by
  cases h2 : lessP b a with
  | false => rfl
  | true => have := lessP_trans h h2; rw [lessP_irrefl] at this; cases this

def ordP (a b : Txt) : Int := if lessP a b then -1 else if lessP b a then 1 else 0
theorem torder_ok (f g : Fil) (hf : f.1.size ≤ 100000) (hg : g.1.size ≤ 100000) : cR 45 [RT.d (.int .i64)] [inj ty35 f, inj ty35 g] = some (ordP f.1 g.1) := by
  refine callT_of ((e45 f g).trans ?_)
  rw [pless_ok _ _ hf hg, Option.bind_some, pless_ok _ _ hg hf, Option.bind_some]
  unfold ordP
  cases lessP f.1 g.1 with
  | true => rw [ifs_pos rfl]; rfl
  | false =>
    rw [ifs_neg (by simp)]
    cases lessP g.1 f.1 with
    | true => rw [ifs_pos rfl]; rfl
    | false => rw [ifs_neg (by simp)]; rfl

end Go.Proofs.YtabhngbpkfdeiaaGreatDoor.Sp
end
section
/- In which directory a path lies: the program's answer and the reference's. Conditions: lengths as they stand in each statement. -/
set_option linter.unusedVariables false
set_option linter.unusedSimpArgs false
namespace Go.Proofs.YtabhngbpkfdeiaaGreatDoor.Sp
open Go Go.Proofs.YtabhngbpkfdeiaaGreatDoor.Ab Go.Proofs.YtabhngbpkfdeiaaGreatDoor.Tb Go.Proofs.YtabhngbpkfdeiaaGreatDoor.EText

theorem inter_joinP : ∀ L : List (List UInt8), List.intercalate [47] L = joinP L
  | [] => rfl
  | [x] => by simp [List.intercalate, joinP]
  | x :: y :: r => by
    have ih := inter_joinP (y :: r)
    simp only [List.intercalate] at ih ⊢
    rw [joinP, ← ih]
    simp [List.intersperse]
abbrev dl (x : Txt) : List UInt8 := x.data.toList
def joinN (xs : List Txt) : Txt := Ex.joinT xs slash
theorem joinN_data (xs : List Txt) : (joinN xs).data.toList = joinP (xs.map dl) := by
  show (Lib.join (xs.map (·.data.toList)) [47]).toArray.toList = _
  rw [List.toList_toArray]
  exact inter_joinP _
theorem joinN_size (xs : List Txt) : (joinN xs).size = (joinP (xs.map dl)).length := by
  rw [← joinN_data]; exact (Array.length_toList (xs := (joinN xs).data)).symm
theorem joinP_snoc (a : List (List UInt8)) (x : List UInt8) (h : a ≠ []) : joinP (a ++ [x]) = joinP a ++ 47 :: x := joinP_app [x] (by simp) a h
theorem joinP_len (m : Nat) : ∀ L : List (List UInt8), (∀ x ∈ L, x.length ≤ m) → (joinP L).length ≤ (m + 1) * L.length
  | [], _ => by simp [joinP]
  | [x], h => by have := h x (by simp); simp [joinP]; omega
  | x :: y :: r, h => by
    have ih := joinP_len m (y :: r) (fun z hz => h z (List.mem_cons_of_mem _ hz))
    have := h x (by simp)
    simp only [joinP, List.length_append, List.length_cons] at ih ⊢
    have e : (m + 1) * (r.length + 1 + 1) = (m + 1) * (r.length + 1) + (m + 1) := by rw [Nat.mul_add (m + 1) (r.length + 1) 1, Nat.mul_one]
    omega
theorem parts_no : ∀ l : List UInt8, ∀ x ∈ parts l, ∀ c ∈ x, c ≠ 47
  | [], x, hx, c, hc => by simp [parts] at hx; subst hx; cases hc
  | a :: l, x, hx, c, hc => by
    unfold parts at hx
    split at hx
    · rcases List.mem_cons.1 hx with rfl | hx
      · cases hc
      · exact parts_no l x hx c hc
    · rename_i ha
      cases hp : parts l with
      | nil => exact absurd hp (parts_ne l)
      | cons y r =>
        rw [hp] at hx
        simp only [consP] at hx
        rcases List.mem_cons.1 hx with rfl | hx
        · rcases List.mem_cons.1 hc with rfl | hc
          · exact ha
          · exact parts_no l y (by rw [hp]; simp) c hc
        · exact parts_no l x (by rw [hp]; simp [hx]) c hc
theorem parts_join : ∀ L : List (List UInt8), L ≠ [] → (∀ x ∈ L, ∀ c ∈ x, c ≠ 47) → parts (joinP L) = L
  | [], h, _ => absurd rfl h
  | [x], _, h => parts_none x (h x (by simp))
  | x :: y :: r, _, h => by
    rw [joinP, parts_hit x _ (h x (by simp)), parts_join (y :: r) (by simp) (fun z hz => h z (List.mem_cons_of_mem _ hz))]
theorem map_dl_inj : ∀ {a b : List Txt}, a.map dl = b.map dl → a = b
  | [], [], _ => rfl
  | [], _ :: _, h => by cases h
  | _ :: _, [], h => by cases h
  | x :: a, y :: b, h => by
    simp only [List.map_cons, List.cons.injEq] at h
    rw [ext_of h.1, map_dl_inj h.2]
theorem split_joinN (xs : List Txt) (h : xs ≠ []) (hn : ∀ x ∈ xs, ∀ c ∈ dl x, c ≠ 47) : splitL (joinN xs) slash = xs := by
  refine map_dl_inj ?_
  rw [split_parts, joinN_data]
  refine parts_join _ (by simpa using h) (fun x hx => ?_)
  obtain ⟨y, hy, rfl⟩ := List.mem_map.1 hx
  exact hn y hy

theorem names_size {p x : Txt} (h : x ∈ names p) : x.size ≤ 200 := by
  obtain ⟨h1, h2⟩ := names_ne (p := p) (fun e => by rw [e] at h; cases h)
  rw [h2] at h
  unfold rightP at h1
  simp only [Bool.and_eq_true, decide_eq_true_eq] at h1
  have := splitB_sizes slash _ p x h
  omega
def upP (p : Txt) : Txt := joinN (names p).dropLast
theorem names_empty : names ⟨#[]⟩ = [] := by decide +kernel
theorem names_up (p : Txt) : names (upP p) = (names p).dropLast := by
  unfold upP
  by_cases h0 : (names p).dropLast = []
  · rw [h0]; exact names_empty
  · have hne : names p ≠ [] := fun e => by rw [e] at h0; exact h0 rfl
    obtain ⟨hr, hs⟩ := names_ne hne
    have hmem : ∀ x ∈ (names p).dropLast, x ∈ splitL p slash := fun x hx => by rw [← hs]; exact List.dropLast_subset _ hx
    have hno : ∀ x ∈ (names p).dropLast, ∀ c ∈ dl x, c ≠ 47 := fun x hx => parts_no (dl p) (dl x) (by rw [← split_parts]; exact List.mem_map_of_mem (hmem x hx))
    have e := split_joinN _ h0 hno
    have hr2 : rightP (joinN (names p).dropLast) = true := by
      unfold rightP at hr ⊢
      simp only [Bool.and_eq_true, decide_eq_true_eq, List.all_eq_true] at hr ⊢
      rw [e]
      refine ⟨?_, ?_, fun x hx => hr.2.2 x (hmem x hx)⟩
      · rw [joinN_size]
        have h1 : (names p).dropLast ++ [(names p).getLast hne] = names p := List.dropLast_concat_getLast hne
        have h2 : joinP ((names p).map dl) = dl p := by
          rw [hs]
          show joinP ((splitL p slash).map (·.data.toList)) = _
          rw [split_parts, join_parts]
        rw [← h1, List.map_append, List.map_singleton, joinP_snoc _ _ (fun e => h0 (List.map_eq_nil_iff.1 e))] at h2
        have h3 := congrArg List.length h2
        rw [data_len] at h3
        simp only [List.length_append, List.length_cons] at h3
        omega
      · rw [List.length_dropLast, hs]; omega
    show names (joinN (names p).dropLast) = _
    rw [show names (joinN (names p).dropLast) = if rightP (joinN (names p).dropLast) then splitL (joinN (names p).dropLast) slash else [] from rfl, if_pos hr2, e]

theorem sjoin_ok (xs : List Txt) (h1 : xs.length ≤ 100000) (h2 : (joinN xs).size ≤ 100000000) : cR 146 [RT.d .str] [inj (.sl .str) xs, inj .str slash] = some (joinN xs) :=
  callT_of (by
    show (if xs.length ≤ 140737488355328 ∧ (Ex.joinT xs slash).size ≤ 140737488355328 then some [RV.d (inj .str (Ex.joinT xs slash))] else none) = _
    rw [if_pos ⟨by omega, by unfold joinN at h2; omega⟩]; rfl)
theorem joinN_up_size (p : Txt) : (joinN (names p).dropLast).size ≤ 10000 := by
  rw [joinN_size]
  have h := joinP_len 200 ((names p).dropLast.map dl) (fun x hx => by
    obtain ⟨y, hy, rfl⟩ := List.mem_map.1 hx
    have := names_size (List.dropLast_subset _ hy)
    show y.data.toList.length ≤ 200
    rw [data_len]; exact this)
  have h2 := names_le p
  rw [List.length_map, List.length_dropLast] at h
  have : (200 + 1) * ((names p).length - 1) ≤ 201 * 15 := Nat.mul_le_mul_left _ (by omega)
  omega
theorem pjoin_ok (p : Txt) : cR 126 [RT.d .str] [inj (.sl .str) (names p).dropLast] = some (upP p) := by
  refine callT_of ((e126 _).trans ?_)
  have h1 := names_le p
  have h2 := joinN_up_size p
  rw [sjoin_ok _ (by rw [List.length_dropLast]; omega) (by omega), Option.bind_some]
  show (Option.bind (cR 124 [RT.own 9 .str] [inj .str (upP p)]) _) = _
  rw [psplit_ok (upP p) (by unfold upP; omega), Option.bind_some, names_up, ifs_neg (by simp)]
  rfl
theorem take_lastD {α : Type} (l : List α) : l.take (l.length - 1) = l.dropLast := (List.dropLast_eq_take ..).symm
theorem pdir_ok (p : Txt) (hp : p.size ≤ 100000) : cR 88 [RT.d .str] [inj .str p] = some (upP p) := by
  refine callT_of ((e88 p).trans ?_)
  have h1 := names_le p
  rw [psplit_ok p hp, Option.bind_some, wr _ (by omega)]
  have e : imax (((names p).length : Int) - 1) 0 = (((names p).length - 1 : Nat) : Int) := by
    unfold imax; split <;> omega
  rw [e, ifs_pos (by omega), Int.toNat_natCast, take_lastD, pjoin_ok, Option.bind_some]
end Go.Proofs.YtabhngbpkfdeiaaGreatDoor.Sp
end
section
/- Rows of files in order: where a path stands, a file put in; the program's answers and the reference's. Conditions: lengths as they stand in each statement. -/
set_option linter.unusedVariables false
set_option linter.unusedSimpArgs false
namespace Go.Proofs.YtabhngbpkfdeiaaGreatDoor.Sp
open Go Go.Proofs.YtabhngbpkfdeiaaGreatDoor.Ab Go.Proofs.YtabhngbpkfdeiaaGreatDoor.Tb Go.Proofs.YtabhngbpkfdeiaaGreatDoor.EText

def Srt (l : List Fil) : Prop := l.Pairwise (fun a b => lessP a.1 b.1 = true)
def cnt (l : List Fil) (p : Txt) : Nat := (l.filter (fun e => lessP e.1 p)).length
def hasP (l : List Fil) (p : Txt) : Bool := match l[cnt l p]? with | some e => decide (e.1 = p) | none => false
def lo (l : List Fil) (p : Txt) : List Fil := l.filter (fun e => lessP e.1 p)
def hi (l : List Fil) (p : Txt) : List Fil := l.filter (fun e => lessP p e.1)
/-- A file, put in at its place. -/
def put (l : List Fil) (f : Fil) : List Fil := lo l f.1 ++ [f] ++ hi l f.1
def del (l : List Fil) (p : Txt) : List Fil := l.filter (fun x => !decide (x.1 = p))
theorem cnt_le (l : List Fil) (p : Txt) : cnt l p ≤ l.length := List.length_filter_le _ _
theorem srt_none {a : Fil} {l : List Fil} {p : Txt} (h : Srt (a :: l)) (hp : lessP a.1 p = false) : ∀ e ∈ l, lessP e.1 p = false := fun e he => by
  cases h2 : lessP e.1 p with
  | false => rfl
  | true =>
    have := lessP_trans ((List.pairwise_cons.1 h).1 e he) h2
    rw [hp] at this; cases this
theorem cnt_cons (a : Fil) (l : List Fil) (p : Txt) : cnt (a :: l) p = (if lessP a.1 p then 1 else 0) + cnt l p := by
  unfold cnt
  rw [List.filter_cons]
  split <;> simp <;> omega
theorem cnt_zero {l : List Fil} {p : Txt} (h : ∀ e ∈ l, lessP e.1 p = false) : cnt l p = 0 := by
  unfold cnt
  rw [List.filter_eq_nil_iff.2 (fun e he => by simp [h e he])]; rfl
theorem srt_at : ∀ {l : List Fil} {p : Txt}, Srt l → ∀ (i : Nat) (h : i < l.length), lessP l[i].1 p = decide (i < cnt l p)
  | a :: l, p, hs, i, h => by
    have hs' := (List.pairwise_cons.1 hs).2
    rw [cnt_cons]
    cases ha : lessP a.1 p with
    | true =>
      cases i with
      | zero => simp [ha]; omega
      | succ i =>
        rw [List.getElem_cons_succ, srt_at hs' i (by simpa using h), decide_eq_decide]
        simp; omega
    | false =>
      have hn := srt_none hs ha
      rw [cnt_zero hn]
      cases i with
      | zero => simp [ha]
      | succ i =>
        rw [List.getElem_cons_succ, hn _ (List.getElem_mem _)]
        simp
theorem take_lo : ∀ {l : List Fil} (p : Txt), Srt l → l.take (cnt l p) = lo l p
  | [], _, _ => rfl
  | a :: l, p, hs => by
    have hs' := (List.pairwise_cons.1 hs).2
    unfold lo
    rw [cnt_cons, List.filter_cons]
    cases ha : lessP a.1 p with
    | true =>
      rw [if_pos rfl, if_pos rfl, Nat.add_comm, List.take_succ_cons, take_lo p hs']
      rfl
    | false =>
      have hn := srt_none hs ha
      rw [cnt_zero hn, if_neg (by simp), if_neg (by simp), List.filter_eq_nil_iff.2 (fun e he => by simp [hn e he])]
      rfl
theorem hi_all {a : Fil} {l : List Fil} {p : Txt} (h : Srt (a :: l)) (hp : lessP p a.1 = true ∨ a.1 = p) : l.filter (fun e => lessP p e.1) = l :=
  List.filter_eq_self.2 fun e he => by
    have h1 := (List.pairwise_cons.1 h).1 e he
    rcases hp with hp | hp
    · exact lessP_trans hp h1
    · rw [← hp]; exact h1
theorem drop_hi : ∀ {l : List Fil} (p : Txt), Srt l → hi l p = l.drop (cnt l p + (if hasP l p then 1 else 0))
  | [], _, _ => by simp [hi, cnt]
  | a :: l, p, hs => by
    have hs' := (List.pairwise_cons.1 hs).2
    cases ha : lessP a.1 p with
    | true =>
      have e1 : cnt (a :: l) p = cnt l p + 1 := by rw [cnt_cons, ha, if_pos rfl]; omega
      have e2 : hasP (a :: l) p = hasP l p := by unfold hasP; rw [e1]; rfl
      have e3 : hi (a :: l) p = hi l p := by unfold hi; rw [List.filter_cons, if_neg (by rw [lessP_asym ha]; simp)]
      rw [e1, e2, e3, drop_hi p hs', show cnt l p + 1 + (if hasP l p = true then 1 else 0) = (cnt l p + (if hasP l p = true then 1 else 0)) + 1 by omega, List.drop_succ_cons]
    | false =>
      have hn := srt_none hs ha
      have e1 : cnt (a :: l) p = 0 := by rw [cnt_cons, ha, if_neg (by simp), cnt_zero hn]
      have e2 : hasP (a :: l) p = decide (a.1 = p) := by unfold hasP; rw [e1]; rfl
      rw [e1, e2]
      by_cases h : a.1 = p
      · rw [if_pos (by simpa using h)]
        unfold hi
        rw [List.filter_cons, if_neg (by rw [h, lessP_irrefl]; simp), hi_all hs (.inr h)]
        rfl
      · rw [if_neg (by simpa using h)]
        have hpa : lessP p a.1 = true := by
          cases h2 : lessP p a.1 with
          | true => rfl
          | false => exact absurd (lessP_tri ha h2) h
        unfold hi
        rw [List.filter_cons, if_pos hpa, hi_all hs (.inl hpa)]
        rfl
theorem hasP_at {l : List Fil} {p : Txt} (h : hasP l p = true) : ∃ hlt : cnt l p < l.length, l[cnt l p].1 = p := by
  unfold hasP at h
  split at h
  · rename_i e he
    obtain ⟨h1, h2⟩ := List.getElem?_eq_some_iff.1 he
    exact ⟨h1, by rw [h2]; exact of_decide_eq_true h⟩
  · cases h
theorem hasP_mem {l : List Fil} {p : Txt} (hs : Srt l) : hasP l p = true ↔ ∃ e ∈ l, e.1 = p := by
  constructor
  · intro h
    obtain ⟨h1, h2⟩ := hasP_at h
    exact ⟨_, List.getElem_mem h1, h2⟩
  · rintro ⟨e, he, rfl⟩
    obtain ⟨i, hi, rfl⟩ := List.getElem_of_mem he
    have h1 := srt_at (p := l[i].1) hs i hi
    rw [lessP_irrefl] at h1
    have hic : ¬ i < cnt l l[i].1 := of_decide_eq_false h1.symm
    have hci : ¬ cnt l l[i].1 < i := fun hlt => by
      have h2 := (List.pairwise_iff_getElem.1 hs) (cnt l l[i].1) i (by omega) hi hlt
      rw [srt_at hs _ (by omega)] at h2
      exact Nat.lt_irrefl _ (of_decide_eq_true h2)
    have e : cnt l l[i].1 = i := by omega
    unfold hasP
    rw [e, List.getElem?_eq_getElem hi]
    simp

/-! ### What may stand in a row -/
structure Fk (f : Fil) : Prop where
  r : rightP f.1 = true
  l : LOk f.2.2
  n : f.2.2.length ≤ 3000
theorem Fk.size {f : Fil} (h : Fk f) : f.1.size ≤ 200 := by
  have h := h.r
  unfold rightP at h
  simp only [Bool.and_eq_true, decide_eq_true_eq] at h
  exact h.1
structure Tk (l : List Fil) : Prop where
  s : Srt l
  f : ∀ f ∈ l, Fk f
  n : l.length ≤ 3000

theorem own_ok (f : Fil) (h : f.2.2.length ≤ 3000) : cR 56 [RT.d ty35] [inj ty35 f] = some f := by
  refine callT_of ((e56 f).trans ?_)
  rw [clone_ok _ (by omega), Option.bind_some, List.take_length]
theorem mid_ok (i j : Nat) (h : i + j ≤ 1000000) : IntKind.i64.wrap (Int.fdiv (IntKind.u64.wrap (IntKind.i64.wrap ((i : Int) + (j : Int)))) ((2 : Int) ^ min (Int.toNat 1) (IntKind.bits IntKind.u64))) = (((i + j) / 2 : Nat) : Int) := by
  have e1 : IntKind.i64.wrap ((i : Int) + (j : Int)) = (i : Int) + j := wr _ (by omega)
  rw [e1, IntWalk.u64_in _ (by omega)]
  have e : ((2 : Int) ^ min (Int.toNat 1) (IntKind.bits IntKind.u64)) = 2 := by decide
  rw [e, Int.fdiv_eq_ediv_of_nonneg _ (by omega), wr _ (by omega)]
  omega
theorem bin_loop (l : List Fil) (hl : Tk l) (p : Txt) (hp : p.size ≤ 100000) : ∀ (d i j : Nat), j - i ≤ d → i ≤ cnt l p → cnt l p ≤ j → j ≤ l.length →
    l96_3 l l.length (i : Int) (j : Int) p false [] = some (injRs [RT.d (.int .i64), RT.d .bool] ((cnt l p : Int), hasP l p)) := by
  intro d
  have fin : ∀ i j : Nat, j ≤ i → i ≤ cnt l p → cnt l p ≤ j → j ≤ l.length → l96_3 l l.length (i : Int) (j : Int) p false [] = some (injRs [RT.d (.int .i64), RT.d .bool] ((cnt l p : Int), hasP l p)) := by
    intro i j hd hi hj hn
    obtain rfl : i = cnt l p := by omega
    obtain rfl : j = cnt l p := by omega
    refine cutG_step ((q96_3 ..).trans ?_)
    rw [ifs_neg (by simp)]
    by_cases hlt : cnt l p < l.length
    · rw [ifs_pos (by simpa using hlt), ifs_pos (by omega), Int.toNat_natCast, List.getElem?_eq_getElem hlt, Option.bind_some, torder_ok _ (p, false, []) (by have := (hl.f _ (List.getElem_mem hlt)).size; omega) hp, Option.bind_some]
      congr 3
      unfold hasP
      rw [List.getElem?_eq_getElem hlt]
      have hno : lessP l[cnt l p].1 p = false := by rw [srt_at hl.s _ hlt]; simp
      unfold ordP
      rw [hno]
      by_cases h : l[cnt l p].1 = p
      · rw [h, lessP_irrefl]; simp [h]
      · cases h2 : lessP p l[cnt l p].1 with
        | true => simp [h]
        | false => exact absurd (lessP_tri hno h2) h
    · rw [ifs_neg (by simpa using hlt)]
      congr 3
      unfold hasP
      rw [List.getElem?_eq_none (by omega)]
  induction d with
  | zero => intro i j hd; exact fin i j (by omega)
  | succ d ih =>
    intro i j hd hi hj hn
    by_cases hij : i < j
    · have hln := hl.n
      have hmid : (i + j) / 2 < l.length := by omega
      refine cutG_step ((q96_3 ..).trans ?_)
      rw [mid_ok i j (by omega), ifs_pos (by simp; omega), ifs_pos (by omega), Int.toNat_natCast, List.getElem?_eq_getElem hmid, Option.bind_some, torder_ok _ (p, false, []) (by have := (hl.f _ (List.getElem_mem hmid)).size; omega) hp, Option.bind_some]
      have ha := srt_at (p := p) hl.s _ hmid
      by_cases hlt : (i + j) / 2 < cnt l p
      · rw [ifs_pos (by unfold ordP; rw [ha, if_pos (by simpa using hlt)]; decide), wrS hmid (by simp only [top]; omega)]
        exact ih _ _ (by omega) (by omega) hj hn
      · rw [ifs_neg (by unfold ordP; rw [ha, if_neg (by simpa using hlt)]; split <;> decide)]
        exact ih _ _ (by omega) hi (by omega) (by omega)
    · exact fin i j (by omega) hi hj hn
theorem place_ok (l : List Fil) (hl : Tk l) (p : Txt) (hp : p.size ≤ 100000) : cR 55 [RT.d (.int .i64), RT.d .bool] [inj ty31 (l, ()), inj .str p] = some ((cnt l p : Int), hasP l p) := by
  refine callT_of ((e55 (l, ()) p).trans ?_)
  have hb : cR 96 [RT.d (.int .i64), RT.d .bool] [inj (.sl ty35) l, inj ty35 (p, false, []), A.c (C.cl 45 [])] = some ((cnt l p : Int), hasP l p) :=
    callT_of ((e96 l (p, false, [])).trans (bin_loop l hl p hp l.length 0 l.length (by omega) (Nat.zero_le _) (cnt_le _ _) (Nat.le_refl _)))
  rw [hb, Option.bind_some]
def zf : Fil := (⟨#[]⟩, false, [])
def getP (l : List Fil) (p : Txt) : Fil × Bool := match l[cnt l p]? with | some e => if e.1 = p then (e, true) else (zf, false) | none => (zf, false)
theorem getP_snd (l : List Fil) (p : Txt) : (getP l p).2 = hasP l p := by
  unfold getP hasP
  split
  · rename_i e he
    by_cases h : e.1 = p <;> simp [h]
  · rfl
theorem get_ok (l : List Fil) (hl : Tk l) (p : Txt) (hp : p.size ≤ 100000) : cR 17 [RT.d ty35, RT.d .bool] [inj ty31 (l, ()), inj .str p] = some (getP l p) := by
  refine callT_of ((e17 (l, ()) p).trans ?_)
  rw [place_ok l hl p hp, Option.bind_some]
  cases h : hasP l p with
  | false =>
    rw [ifs_pos (by simp)]
    have e : getP l p = (zf, false) := by
      unfold getP
      unfold hasP at h
      split at h
      · rw [if_neg (of_decide_eq_false h)]
      · rfl
    rw [e]; rfl
  | true =>
    obtain ⟨h1, h2⟩ := hasP_at h
    rw [ifs_neg (by simp), ifs_pos (by omega), Int.toNat_natCast, List.getElem?_eq_getElem h1, Option.bind_some, own_ok _ (hl.f _ (List.getElem_mem h1)).n, Option.bind_some]
    unfold getP
    rw [List.getElem?_eq_getElem h1]
    simp [h2]
theorem clonef_ok (l : List Fil) (h : l.length ≤ 3000) : cR 43 [RT.own 35 ty35] [inj (.sl ty35) l] = some l :=
  callT_of (by
    show (if l.length * 48 ≤ 140737488355328 then some [RV.own 35 ClF.tyP l] else none) = _
    rw [if_pos (by omega)]; rfl)
theorem insf_ok (l : List Fil) (i : Nat) (f : Fil) (h : l.length ≤ 3000) (hi : i ≤ l.length) : cR 127 [RT.own 35 ty35] [inj (.sl ty35) l, inj (.int .i64) (i : Int), inj (.sl ty35) [f]] = some (l.take i ++ [f] ++ l.drop i) :=
  callT_of (by
    show (if (0 : Int) ≤ (i : Int) ∧ (i : Int) ≤ l.length ∧ [f].length = 1 ∧ (l.length + 1) * 48 ≤ 100000000000000 then some [RV.own 35 ClF.tyP (l.take (i : Int).toNat ++ [f] ++ l.drop (i : Int).toNat)] else none) = _
    rw [if_pos ⟨by omega, by omega, rfl, by omega⟩, Int.toNat_natCast]; rfl)
theorem delf_ok (l : List Fil) (p : Txt) (h : l.length ≤ 3000) : cR 129 [RT.own 35 ty35] [inj (.sl ty35) l, A.c (C.cl 130 [Pt.sh .str p 0])] = some (del l p) :=
  callT_of (by
    show (if l.length ≤ 9223372036854775806 then some [RV.own 35 ClF.tyP (l.filter fun x => !decide (x.1 = p))] else none) = _
    rw [if_pos (by omega)]; rfl)
theorem with_ok (l : List Fil) (hl : Tk l) (f : Fil) (hf : Fk f) : cR 89 [RT.d ty31] [inj ty31 (l, ()), inj ty35 f] = some (put l f, ()) := by
  refine callT_of ((e89 (l, ()) f).trans ?_)
  have hc := cnt_le l f.1
  have h2 := drop_hi f.1 hl.s
  rw [place_ok l hl f.1 (by have := hf.size; omega), Option.bind_some, clonef_ok l hl.n, Option.bind_some, own_ok f hf.n, Option.bind_some]
  unfold put
  rw [← take_lo f.1 hl.s, h2]
  cases h : hasP l f.1 with
  | true =>
    obtain ⟨h1, _⟩ := hasP_at h
    rw [ifs_pos rfl]
    show ifs ((0 : Int) ≤ (cnt l f.1 : Int) ∧ (cnt l f.1 : Int) < (l.length : Int)) (Option.bind l[Int.toNat (cnt l f.1 : Int)]? fun r_3 => some (injRs [RT.d ty31] (List.take l.length (l.set (Int.toNat (cnt l f.1 : Int)) f), ()))) none = _
    rw [ifs_pos (by omega), Int.toNat_natCast, List.getElem?_eq_getElem h1, Option.bind_some, if_pos rfl, List.take_of_length_le (by simp), List.set_eq_take_append_cons_drop, if_pos h1]
    simp
  | false =>
    rw [ifs_neg (by simp), Option.bind_some, List.take_length, insf_ok l _ f hl.n hc, Option.bind_some, List.take_length, if_neg (by simp)]
    rfl
theorem without_ok (l : List Fil) (hl : l.length ≤ 3000) (p : Txt) : cR 94 [RT.d ty31] [inj ty31 (l, ()), inj .str p] = some (del l p, ()) := by
  refine callT_of ((e94 (l, ()) p).trans ?_)
  rw [clonef_ok l hl, Option.bind_some, List.take_length, delf_ok l p hl, Option.bind_some, List.take_length]

end Go.Proofs.YtabhngbpkfdeiaaGreatDoor.Sp
end
section
/- slices.SortStableFunc at files: it comes to its end, and what then stands in the slice stood there. Conditions: lengths as they stand in each statement. -/
set_option linter.unusedVariables false
set_option linter.unusedSimpArgs false
namespace Go.Proofs.YtabhngbpkfdeiaaGreatDoor.Sp
open Go Go.Proofs.YtabhngbpkfdeiaaGreatDoor.Ab Go.Proofs.YtabhngbpkfdeiaaGreatDoor.Tb Go.Proofs.YtabhngbpkfdeiaaGreatDoor.EText

abbrev inpF : Ty := .pair .unit (.sl ty35)
def Fm (xs ys : List Fil) : Prop := ys.length = xs.length ∧ ∀ y ∈ ys, y ∈ xs
theorem Fm.refl (xs : List Fil) : Fm xs xs := ⟨rfl, fun _ h => h⟩
theorem Fm.trans {xs ys zs : List Fil} (h : Fm xs ys) (k : Fm ys zs) : Fm xs zs := ⟨k.1.trans h.1, fun y hy => h.2 y (k.2 y hy)⟩
theorem Fm.swap {xs : List Fil} {i j : Nat} {a b : Fil} (ha : a ∈ xs) (hb : b ∈ xs) : Fm xs ((xs.set i a).set j b) :=
  ⟨by simp, fun y hy => by
    rcases List.mem_or_eq_of_mem_set hy with hy | rfl
    · rcases List.mem_or_eq_of_mem_set hy with hy | rfl
      · exact hy
      · exact ha
    · exact hb⟩
def Sz (xs : List Fil) : Prop := (∀ y ∈ xs, y.1.size ≤ 100000) ∧ xs.length ≤ 100000
theorem Fm.sz {xs ys : List Fil} (h : Fm xs ys) (k : Sz xs) : Sz ys := ⟨fun y hy => k.1 y (h.2 y hy), by rw [h.1]; exact k.2⟩
abbrev Ans (xs : List Fil) (o : Option (List RV)) : Prop := ∃ zs, o = some (injRs [] () ++ injRs [RT.d inpF] ((), zs)) ∧ Fm xs zs
theorem Ans.from {xs ys : List Fil} {o : Option (List RV)} (h : Fm xs ys) (k : Ans ys o) : Ans xs o := let ⟨z, e, f⟩ := k; ⟨z, e, h.trans f⟩
abbrev Ans2 (xs : List Fil) (o : Option (dens [] × dens ([inpF].map RT.d))) : Prop := ∃ zs : List Fil, o = some ((), ((), zs)) ∧ Fm xs zs
theorem at_ok {α β : Type} {l : List α} {i : Nat} (h : i < l.length) (f : α → Option β) : Option.bind l[i]? f = f (l[i]'h) := by rw [List.getElem?_eq_getElem h]; rfl
theorem swapr_loop (a b n : Nat) : ∀ (d i : Nat) (ys : List Fil), n - i ≤ d → a + n ≤ ys.length → b + n ≤ ys.length → ys.length ≤ 100000 → Ans ys (l160_1 ys.length (a : Int) (b : Int) (n : Int) (i : Int) ys)
  | 0, i, ys, hd, ha, hb, hs => by
    refine ⟨ys, cutG_step ((q160_1 ..).trans ?_), .refl _⟩
    rw [ifs_neg (by simp; omega)]
  | d + 1, i, ys, hd, ha, hb, hs => by
    by_cases hi : i < n
    · have e1 : IntKind.i64.wrap ((b : Int) + (i : Int)) = ((b + i : Nat) : Int) := by rw [wr _ (by omega)]; omega
      have e2 : IntKind.i64.wrap ((a : Int) + (i : Int)) = ((a + i : Nat) : Int) := by rw [wr _ (by omega)]; omega
      have e3 : IntKind.i64.wrap ((i : Int) + 1) = ((i + 1 : Nat) : Int) := by rw [wr _ (by omega)]; omega
      have hm1 : ys[b + i]'(by omega) ∈ ys := List.getElem_mem _
      have hm2 : ys[a + i]'(by omega) ∈ ys := List.getElem_mem _
      have hf := Fm.swap (i := a + i) (j := b + i) hm1 hm2
      obtain ⟨zs, h1, h2⟩ := swapr_loop a b n d (i + 1) ((ys.set (a + i) (ys[b + i]'(by omega))).set (b + i) (ys[a + i]'(by omega))) (by omega) (by rw [hf.1]; exact ha) (by rw [hf.1]; exact hb) (by rw [hf.1]; exact hs)
      rw [hf.1] at h1
      refine ⟨zs, cutG_step ((q160_1 ..).trans ?_), hf.trans h2⟩
      rw [ifs_pos (by simp; omega), e1, e2, e3, ifs_pos (by omega), Int.toNat_natCast, Int.toNat_natCast, at_ok (by omega), ifs_pos (by omega), at_ok (by omega), ifs_pos (by omega), at_ok (by omega), ifs_pos (by omega), at_ok (by rw [List.length_set]; omega)]
      exact h1
    · refine ⟨ys, cutG_step ((q160_1 ..).trans ?_), .refl _⟩
      rw [ifs_neg (by simp; omega)]
theorem swapr_ok (a b n N : Nat) (ys : List Fil) (hN : N = ys.length) (ha : a + n ≤ ys.length) (hb : b + n ≤ ys.length) (hs : ys.length ≤ 100000) :
    Ans2 ys (cR2 160 [] [inpF] [A.c (C.ow 0 N), inj (.int .i64) (a : Int), inj (.int .i64) (b : Int), inj (.int .i64) (n : Int), A.c (C.cl 45 []), inj inpF ((), ys)]) := by
  subst hN
  obtain ⟨zs, h1, h2⟩ := swapr_loop a b n n 0 ys (by omega) ha hb hs
  exact ⟨zs, callT2_of ((e160 ..).trans h1), h2⟩

theorem rotat_loop (m : Nat) : ∀ (d i j : Nat) (ys : List Fil), i + j ≤ d → 0 < i → 0 < j → i ≤ m → m + j ≤ ys.length → ys.length ≤ 100000 → Ans ys (l144_2 ys.length (m : Int) (i : Int) (j : Int) ys)
  | 0, i, j, ys, hd, hi, hj, hm, hb, hs => by omega
  | d + 1, i, j, ys, hd, hi, hj, hm, hb, hs => by
    have e1 : IntKind.i64.wrap ((m : Int) - (i : Int)) = ((m - i : Nat) : Int) := by rw [wr _ (by omega)]; omega
    by_cases hij : i = j
    · obtain ⟨zs, h1, h2⟩ := swapr_ok (m - i) m i ys.length ys rfl (by omega) (by omega) hs
      refine ⟨zs, cutG_step ((q144_2 ..).trans ?_), h2⟩
      rw [ifs_neg (by simp [hij]), e1, h1, Option.bind_some]
    · by_cases hgt : i > j
      · obtain ⟨zs, h1, h2⟩ := swapr_ok (m - i) m j ys.length ys rfl (by omega) (by omega) hs
        obtain ⟨z2, h3, h4⟩ := rotat_loop m d (i - j) j zs (by omega) (by omega) hj (by omega) (by rw [h2.1]; omega) (by rw [h2.1]; exact hs)
        rw [h2.1] at h3
        refine ⟨z2, cutG_step ((q144_2 ..).trans ?_), h2.trans h4⟩
        have e2 : IntKind.i64.wrap ((i : Int) - (j : Int)) = ((i - j : Nat) : Int) := by rw [wr _ (by omega)]; omega
        rw [ifs_pos (by simp; omega), ifs_pos (by simp; omega), e1, h1, Option.bind_some, e2]
        exact h3
      · obtain ⟨zs, h1, h2⟩ := swapr_ok (m - i) (m + j - i) i ys.length ys rfl (by omega) (by omega) hs
        obtain ⟨z2, h3, h4⟩ := rotat_loop m d i (j - i) zs (by omega) hi (by omega) hm (by rw [h2.1]; omega) (by rw [h2.1]; exact hs)
        rw [h2.1] at h3
        refine ⟨z2, cutG_step ((q144_2 ..).trans ?_), h2.trans h4⟩
        have e2 : IntKind.i64.wrap ((m : Int) + (j : Int)) = ((m + j : Nat) : Int) := by rw [wr _ (by omega)]; omega
        have e3 : IntKind.i64.wrap (((m + j : Nat) : Int) - (i : Int)) = ((m + j - i : Nat) : Int) := by rw [wr _ (by omega)]; omega
        have e4 : IntKind.i64.wrap ((j : Int) - (i : Int)) = ((j - i : Nat) : Int) := by rw [wr _ (by omega)]; omega
        rw [ifs_pos (by simp; omega), ifs_neg (by simp; omega), e1, e2, e3, h1, Option.bind_some, e4]
        exact h3
theorem rotat_ok (a m b N : Nat) (ys : List Fil) (hN : N = ys.length) (ha : a < m) (hb : m < b) (hbl : b ≤ ys.length) (hs : ys.length ≤ 100000) :
    Ans2 ys (cR2 144 [] [inpF] [A.c (C.ow 0 N), inj (.int .i64) (a : Int), inj (.int .i64) (m : Int), inj (.int .i64) (b : Int), A.c (C.cl 45 []), inj inpF ((), ys)]) := by
  subst hN
  obtain ⟨zs, h1, h2⟩ := rotat_loop m _ (m - a) (b - m) ys (Nat.le_refl _) (by omega) (by omega) (by omega) (by omega) hs
  refine ⟨zs, callT2_of ((e144 ..).trans ?_), h2⟩
  have e1 : IntKind.i64.wrap ((m : Int) - (a : Int)) = ((m - a : Nat) : Int) := by rw [wr _ (by omega)]; omega
  have e2 : IntKind.i64.wrap ((b : Int) - (m : Int)) = ((b - m : Nat) : Int) := by rw [wr _ (by omega)]; omega
  rw [e1, e2]; exact h1

theorem inss_loop (a b : Nat) : ∀ (d i : Nat) (ys : List Fil), b - i ≤ d → b ≤ ys.length → Sz ys → Ans ys (l122_1 ys.length (a : Int) (b : Int) (i : Int) ys)
  | 0, i, ys, hd, hb, hs => by
    refine ⟨ys, cutG_step ((q122_1 ..).trans ?_), .refl _⟩
    rw [ifs_neg (by simp; omega)]
  | d + 1, i, ys, hd, hb, hs => by
    by_cases hi : i < b
    · have inner : ∀ (e j : Nat) (zs : List Fil), j - a ≤ e → j ≤ i → b ≤ zs.length → Sz zs → Ans zs (l122_4 zs.length (a : Int) (b : Int) (i : Int) (j : Int) zs) := by
        intro e
        induction e with
        | zero =>
          intro j zs he hji hbz hsz
          obtain ⟨z2, h1, h2⟩ := inss_loop a b d (i + 1) zs (by omega) hbz hsz
          refine ⟨z2, cutG_step ((q122_4 ..).trans ?_), h2⟩
          have := hsz.2
          have e3 : IntKind.i64.wrap ((i : Int) + 1) = ((i + 1 : Nat) : Int) := by rw [wr _ (by omega)]; omega
          rw [ifs_neg (by simp; omega), e3]; exact h1
        | succ e ih =>
          intro j zs he hji hbz hsz
          have := hsz.2
          have e3 : IntKind.i64.wrap ((i : Int) + 1) = ((i + 1 : Nat) : Int) := by rw [wr _ (by omega)]; omega
          obtain ⟨z2, h1, h2⟩ := inss_loop a b d (i + 1) zs (by omega) hbz hsz
          by_cases hj : j > a
          · have e1 : IntKind.i64.wrap ((j : Int) - 1) = ((j - 1 : Nat) : Int) := by rw [wr _ (by omega)]; omega
            have hm1 : zs[j]'(by omega) ∈ zs := List.getElem_mem _
            have hm2 : zs[j - 1]'(by omega) ∈ zs := List.getElem_mem _
            by_cases hc : ordP (zs[j]'(by omega)).1 (zs[j - 1]'(by omega)).1 < 0
            · have hf := Fm.swap (i := j) (j := j - 1) hm2 hm1
              obtain ⟨z3, h3, h4⟩ := ih (j - 1) _ (by omega) (by omega) (by rw [hf.1]; exact hbz) (hf.sz hsz)
              rw [hf.1] at h3
              refine ⟨z3, cutG_step ((q122_4 ..).trans ?_), hf.trans h4⟩
              rw [ifs_pos (by simp; omega), ifs_pos (by omega), Int.toNat_natCast, at_ok (by omega), e1, ifs_pos (by omega), Int.toNat_natCast, at_ok (by omega), torder_ok _ _ (hsz.1 _ hm1) (hsz.1 _ hm2), Option.bind_some,
                ifs_pos (by simpa using hc), ifs_pos (by omega), at_ok (by omega), ifs_pos (by omega), at_ok (by omega), ifs_pos (by omega), at_ok (by omega), ifs_pos (by omega), at_ok (by rw [List.length_set]; omega)]
              exact h3
            · refine ⟨z2, cutG_step ((q122_4 ..).trans ?_), h2⟩
              rw [ifs_pos (by simp; omega), ifs_pos (by omega), Int.toNat_natCast, at_ok (by omega), e1, ifs_pos (by omega), Int.toNat_natCast, at_ok (by omega), torder_ok _ _ (hsz.1 _ hm1) (hsz.1 _ hm2), Option.bind_some,
                ifs_neg (by simpa using hc), e3]
              exact h1
          · refine ⟨z2, cutG_step ((q122_4 ..).trans ?_), h2⟩
            rw [ifs_neg (by simp; omega), e3]; exact h1
      obtain ⟨zs, h1, h2⟩ := inner _ i ys (Nat.le_refl _) (Nat.le_refl _) hb hs
      refine ⟨zs, cutG_step ((q122_1 ..).trans ?_), h2⟩
      rw [ifs_pos (by simp; omega)]; exact h1
    · refine ⟨ys, cutG_step ((q122_1 ..).trans ?_), .refl _⟩
      rw [ifs_neg (by simp; omega)]
theorem inss_ok (a b N : Nat) (ys : List Fil) (hN : N = ys.length) (ha : a ≤ 100000) (hb : b ≤ ys.length) (hs : Sz ys) :
    Ans2 ys (cR2 122 [] [inpF] [A.c (C.ow 0 N), inj (.int .i64) (a : Int), inj (.int .i64) (b : Int), A.c (C.cl 45 []), inj inpF ((), ys)]) := by
  subst hN
  obtain ⟨zs, h1, h2⟩ := inss_loop a b _ (a + 1) ys (Nat.le_refl _) hb hs
  refine ⟨zs, callT2_of ((e122 ..).trans ?_), h2⟩
  have e1 : IntKind.i64.wrap ((a : Int) + 1) = ((a + 1 : Nat) : Int) := by rw [wr _ (by omega)]; omega
  rw [e1]; exact h1

/-! ### symMerge -/
theorem up_loop (i : Nat) : ∀ (d k : Nat) (ys : List Fil), i - k ≤ d → i ≤ ys.length → ys.length ≤ 100000 → Ans ys (l123_9 ys.length (i : Int) (k : Int) ys)
  | 0, k, ys, hd, hb, hs => by
    refine ⟨ys, cutG_step ((q123_9 ..).trans ?_), .refl _⟩
    rw [wr _ (by omega), ifs_neg (by simp; omega)]
  | d + 1, k, ys, hd, hb, hs => by
    by_cases hk : k + 1 < i
    · have e1 : IntKind.i64.wrap ((k : Int) + 1) = ((k + 1 : Nat) : Int) := by rw [wr _ (by omega)]; omega
      have hf := Fm.swap (xs := ys) (i := k) (j := k + 1) (List.getElem_mem (by omega : k + 1 < ys.length)) (List.getElem_mem (by omega : k < ys.length))
      obtain ⟨zs, h1, h2⟩ := up_loop i d (k + 1) _ (by omega) (by rw [hf.1]; exact hb) (by rw [hf.1]; exact hs)
      rw [hf.1] at h1
      refine ⟨zs, cutG_step ((q123_9 ..).trans ?_), hf.trans h2⟩
      rw [wr ((i : Int) - 1) (by omega), ifs_pos (by simp; omega), e1, ifs_pos (by omega), Int.toNat_natCast, Int.toNat_natCast, at_ok (by omega), ifs_pos (by omega), at_ok (by omega), ifs_pos (by omega), at_ok (by omega), ifs_pos (by omega), at_ok (by rw [List.length_set]; omega)]
      exact h1
    · refine ⟨ys, cutG_step ((q123_9 ..).trans ?_), .refl _⟩
      rw [wr _ (by omega), ifs_neg (by simp; omega)]
theorem down_loop (i : Nat) : ∀ (d k : Nat) (ys : List Fil), k - i ≤ d → k < ys.length → ys.length ≤ 100000 → Ans ys (l123_21 ys.length (i : Int) (k : Int) ys)
  | 0, k, ys, hd, hb, hs => by
    refine ⟨ys, cutG_step ((q123_21 ..).trans ?_), .refl _⟩
    rw [ifs_neg (by simp; omega)]
  | d + 1, k, ys, hd, hb, hs => by
    by_cases hk : i < k
    · have e1 : IntKind.i64.wrap ((k : Int) - 1) = ((k - 1 : Nat) : Int) := by rw [wr _ (by omega)]; omega
      have hf := Fm.swap (xs := ys) (i := k) (j := k - 1) (List.getElem_mem (by omega : k - 1 < ys.length)) (List.getElem_mem (by omega : k < ys.length))
      obtain ⟨zs, h1, h2⟩ := down_loop i d (k - 1) _ (by omega) (by rw [hf.1]; omega) (by rw [hf.1]; exact hs)
      rw [hf.1] at h1
      refine ⟨zs, cutG_step ((q123_21 ..).trans ?_), hf.trans h2⟩
      rw [ifs_pos (by simp; omega), e1, ifs_pos (by omega), Int.toNat_natCast, Int.toNat_natCast, at_ok (by omega), ifs_pos (by omega), at_ok (by omega), ifs_pos (by omega), at_ok (by omega), ifs_pos (by omega), at_ok (by rw [List.length_set]; omega)]
      exact h1
    · refine ⟨ys, cutG_step ((q123_21 ..).trans ?_), .refl _⟩
      rw [ifs_neg (by simp; omega)]
theorem bin1_loop (a : Nat) (ys : List Fil) (hs : Sz ys) (ha : a < ys.length) : ∀ (d i j : Nat), j - i ≤ d → i ≤ j → j ≤ ys.length → Ans ys (l123_3 ys.length (a : Int) (i : Int) (j : Int) ys)
  | 0, i, j, hd, hij, hj => by
    have := hs.2
    obtain ⟨zs, h1, h2⟩ := up_loop i _ a ys (Nat.le_refl _) (by omega) hs.2
    refine ⟨zs, cutG_step ((q123_3 ..).trans ?_), h2⟩
    rw [ifs_neg (by simp; omega)]; exact h1
  | d + 1, i, j, hd, hij, hj => by
    have := hs.2
    by_cases hlt : i < j
    · have hmid := mid_ok i j (by omega)
      have hb : (i + j) / 2 < j := by omega
      have hb0 : i ≤ (i + j) / 2 := by omega
      have e1 : IntKind.i64.wrap ((((i + j) / 2 : Nat) : Int) + 1) = (((i + j) / 2 + 1 : Nat) : Int) := by rw [wr _ (by omega)]; omega
      have r1 := bin1_loop a ys hs ha d ((i + j) / 2 + 1) j (by omega) (by omega) hj
      have r2 := bin1_loop a ys hs ha d i ((i + j) / 2) (by omega) (by omega) (by omega)
      have hq : ∀ o, Ans ys o → (cutG W0 (callW W0) (cutW W0) n123 td123_3 _ = o) → Ans ys (l123_3 ys.length (a : Int) (i : Int) (j : Int) ys) := fun o ⟨zs, h1, h2⟩ h => ⟨zs, cutG_step (h.trans h1), h2⟩
      have hm1 : ys[(i + j) / 2]'(by omega) ∈ ys := List.getElem_mem _
      have hm2 : ys[a]'ha ∈ ys := List.getElem_mem _
      by_cases hc : ordP (ys[(i + j) / 2]'(by omega)).1 (ys[a]'ha).1 < 0
      · refine hq _ r1 ((q123_3 ..).trans ?_)
        rw [ifs_pos (by simp; omega), hmid, ifs_pos (by omega), Int.toNat_natCast, at_ok (by omega), ifs_pos (by omega), Int.toNat_natCast, at_ok (by omega), torder_ok _ _ (hs.1 _ hm1) (hs.1 _ hm2), Option.bind_some, ifs_pos (by simpa using hc), e1]
      · refine hq _ r2 ((q123_3 ..).trans ?_)
        rw [ifs_pos (by simp; omega), hmid, ifs_pos (by omega), Int.toNat_natCast, at_ok (by omega), ifs_pos (by omega), Int.toNat_natCast, at_ok (by omega), torder_ok _ _ (hs.1 _ hm1) (hs.1 _ hm2), Option.bind_some, ifs_neg (by simpa using hc)]
    · obtain ⟨zs, h1, h2⟩ := up_loop i _ a ys (Nat.le_refl _) (by omega) hs.2
      refine ⟨zs, cutG_step ((q123_3 ..).trans ?_), h2⟩
      rw [ifs_neg (by simp; omega)]; exact h1
theorem bin2_loop (m : Nat) (ys : List Fil) (hs : Sz ys) (hm : m < ys.length) : ∀ (d i j : Nat), j - i ≤ d → i ≤ j → j ≤ ys.length → Ans ys (l123_15 ys.length (m : Int) (i : Int) (j : Int) ys)
  | 0, i, j, hd, hij, hj => by
    have := hs.2
    obtain ⟨zs, h1, h2⟩ := down_loop i _ m ys (Nat.le_refl _) hm hs.2
    refine ⟨zs, cutG_step ((q123_15 ..).trans ?_), h2⟩
    rw [ifs_neg (by simp; omega)]; exact h1
  | d + 1, i, j, hd, hij, hj => by
    have := hs.2
    by_cases hlt : i < j
    · have hmid := mid_ok i j (by omega)
      have hb : (i + j) / 2 < j := by omega
      have hb0 : i ≤ (i + j) / 2 := by omega
      have e1 : IntKind.i64.wrap ((((i + j) / 2 : Nat) : Int) + 1) = (((i + j) / 2 + 1 : Nat) : Int) := by rw [wr _ (by omega)]; omega
      have r1 := bin2_loop m ys hs hm d ((i + j) / 2 + 1) j (by omega) (by omega) hj
      have r2 := bin2_loop m ys hs hm d i ((i + j) / 2) (by omega) (by omega) (by omega)
      have hq : ∀ o, Ans ys o → (cutG W0 (callW W0) (cutW W0) n123 td123_15 _ = o) → Ans ys (l123_15 ys.length (m : Int) (i : Int) (j : Int) ys) := fun o ⟨zs, h1, h2⟩ h => ⟨zs, cutG_step (h.trans h1), h2⟩
      have hm1 : ys[(i + j) / 2]'(by omega) ∈ ys := List.getElem_mem _
      have hm2 : ys[m]'hm ∈ ys := List.getElem_mem _
      by_cases hc : ordP (ys[m]'hm).1 (ys[(i + j) / 2]'(by omega)).1 < 0
      · refine hq _ r2 ((q123_15 ..).trans ?_)
        rw [ifs_pos (by simp; omega), hmid, ifs_pos (by omega), Int.toNat_natCast, at_ok (by omega), ifs_pos (by omega), Int.toNat_natCast, at_ok (by omega), torder_ok _ _ (hs.1 _ hm2) (hs.1 _ hm1), Option.bind_some, ifs_neg (by simpa using hc)]
      · refine hq _ r1 ((q123_15 ..).trans ?_)
        rw [ifs_pos (by simp; omega), hmid, ifs_pos (by omega), Int.toNat_natCast, at_ok (by omega), ifs_pos (by omega), Int.toNat_natCast, at_ok (by omega), torder_ok _ _ (hs.1 _ hm2) (hs.1 _ hm1), Option.bind_some, ifs_pos (by simpa using hc), e1]
    · obtain ⟨zs, h1, h2⟩ := down_loop i _ m ys (Nat.le_refl _) hm hs.2
      refine ⟨zs, cutG_step ((q123_15 ..).trans ?_), h2⟩
      rw [ifs_neg (by simp; omega)]; exact h1

end Go.Proofs.YtabhngbpkfdeiaaGreatDoor.Sp
end
section
/- The reference's rows of files: put in, taken out, in order; what lies in a directory. Conditions: lengths as they stand in each statement. -/
set_option linter.unusedVariables false
set_option linter.unusedSimpArgs false
namespace Go.Proofs.YtabhngbpkfdeiaaGreatDoor.Sp
open Go Go.Proofs.YtabhngbpkfdeiaaGreatDoor.Ab Go.Proofs.YtabhngbpkfdeiaaGreatDoor.Tb Go.Proofs.YtabhngbpkfdeiaaGreatDoor.EText

theorem srt_del {l : List Fil} (h : Srt l) (p : Txt) : Srt (del l p) := h.filter _
theorem tk_del {l : List Fil} (h : Tk l) (p : Txt) : Tk (del l p) :=
  ⟨srt_del h.s p, fun f hf => h.f f ((List.mem_filter.1 hf).1), Nat.le_trans (List.length_filter_le _ _) h.n⟩
/-! ### Directories -/
def nope : Txt := ⟨#[]⟩
def dirB (l : List Fil) (p : Txt) : Bool := decide (p = nope) || (getP l p).1.2.1
theorem tdir_ok (l : List Fil) (hl : Tk l) (p : Txt) (hp : p.size ≤ 100000) : cR 87 [RT.d .bool] [inj ty31 (l, ()), inj .str p] = some (dirB l p) := by
  refine callT_of ((e87 (l, ()) p).trans ?_)
  rw [get_ok l hl p hp, Option.bind_some, bat]
  unfold dirB nope
  by_cases h : p = ⟨#[]⟩
  · rw [ifs_neg (by simp [h])]; simp [h]
  · rw [ifs_pos (by simp [h]), getP_snd]
    have hz : hasP l p = false → (getP l p).1.2.1 = false := fun hh => by
      unfold getP
      unfold hasP at hh
      split
      · rename_i e he
        rw [he] at hh
        rw [if_neg (of_decide_eq_false hh)]; rfl
      · rfl
    cases hh : hasP l p with
    | true => rw [ifs_pos rfl]; simp [h]
    | false => rw [ifs_neg (by simp), hz hh]; simp [h]
theorem getP_find {l : List Fil} {p : Txt} (h : hasP l p = true) : l[cnt l p]? = some (getP l p).1 := by
  obtain ⟨h1, h2⟩ := hasP_at h
  unfold getP
  rw [List.getElem?_eq_getElem h1]
  simp [h2]
theorem getP_no {l : List Fil} {p : Txt} (h : hasP l p = false) : getP l p = (zf, false) := by
  unfold getP
  unfold hasP at h
  split
  · rename_i e he
    rw [he] at h
    rw [if_neg (of_decide_eq_false h)]
  · rfl
def roomB (l : List Fil) (p : Txt) : Int := if dirB l (upP p) = false then 9 else if l.length ≥ 500 then 4 else 0
theorem room_ok (l : List Fil) (hl : Tk l) (p : Txt) (hp : p.size ≤ 100000) : cR 92 [RT.d (.int .i64)] [inj ty31 (l, ()), inj .str p] = some (roomB l p) := by
  refine callT_of ((e92 (l, ()) p).trans ?_)
  have hu : (upP p).size ≤ 10000 := joinN_up_size p
  rw [pdir_ok p hp, Option.bind_some, tdir_ok l hl _ (by omega), Option.bind_some]
  unfold roomB
  cases h : dirB l (upP p) with
  | false => rw [ifs_pos (by simp)]; rfl
  | true =>
    rw [ifs_neg (by simp), if_neg (by simp)]
    by_cases h5 : l.length ≥ 500
    · rw [ifs_pos (by simp; omega), if_pos h5]
    · rw [ifs_neg (by simp; omega), if_neg h5]

def inP (l : List Fil) (p : Txt) : List Txt := (l.filter (fun e => decide (upP e.1 = p))).map (·.1)
theorem inP_drop (l : List Fil) (p : Txt) {i : Nat} (hi : i < l.length) : inP (l.drop i) p = (if upP l[i].1 = p then [l[i].1] else []) ++ inP (l.drop (i + 1)) p := by
  rw [List.drop_eq_getElem_cons hi]
  unfold inP
  rw [List.filter_cons]
  by_cases h : upP l[i].1 = p <;> simp [h]
theorem tin1_ok (q p : Txt) (hq : q.size ≤ 100000) : cR 149 [RT.d .bool] [inj .str q, A.c (C.pt (Pt.sh .str p 0))] = some (decide (upP q = p)) := by
  refine callT_of ((e149 q p).trans ?_)
  rw [pdir_ok q hq, Option.bind_some, bat]
theorem tin_loop (l : List Fil) (hl : Tk l) (p : Txt) : ∀ i : Nat, i ≤ l.length → ∀ acc : List Txt, acc.length ≤ i → l128_4v1 l l.length (i : Int) acc p = some (injRs [RT.own 9 .str] (acc ++ inP (l.drop i) p)) := by
  have hln := hl.n
  refine upTo (fun i hi ih => ?_) ?_
  · intro acc ha
    refine cutG_step ((q128_4v1 ..).trans ?_)
    have b1 : (acc.length + 1) * 16 ≤ 140737488355328 := by omega
    rw [ifs_pos (by simpa using hi), ifs_pos (by omega), Int.toNat_natCast, List.getElem?_eq_getElem hi, Option.bind_some, tin1_ok _ p (by have := (hl.f _ (List.getElem_mem hi)).size; omega), Option.bind_some, inP_drop l p hi]
    by_cases h : upP l[i].1 = p
    · rw [ifs_pos (by simpa using h), ifs_pos b1, List.take_length, wrS hi (by simp only [top]; omega), ih _ (by simp; omega), if_pos h, List.append_assoc]
    · rw [ifs_neg (by simpa using h), wrS hi (by simp only [top]; omega), ih _ (by omega), if_neg h]; rfl
  · intro acc ha
    refine cutG_step ((q128_4v1 ..).trans ?_)
    rw [ifs_neg (by simp), List.take_length, List.drop_length]
    simp [inP]
theorem tin_ok (l : List Fil) (hl : Tk l) (p : Txt) : cR 128 [RT.own 9 .str] [inj ty31 (l, ()), inj .str p] = some (inP l p) := by
  have hln := hl.n
  refine callT_of ((e128 (l, ()) p).trans ?_)
  refine cutG_step ((q128_4 ..).trans ?_)
  rcases Nat.eq_zero_or_pos l.length with h0 | h0
  · obtain rfl := List.eq_nil_of_length_eq_zero h0
    rw [ifs_neg (by simp)]; rfl
  · have g0 : l[Int.toNat 0]? = some l[0] := List.getElem?_eq_getElem h0
    have hw : IntKind.i64.wrap ((0 : Int) + 1) = ((0 + 1 : Nat) : Int) := wr _ (by omega)
    have e := inP_drop l p h0
    rw [List.drop_zero] at e
    rw [ifs_pos (by simpa using h0), ifs_pos (by omega), g0, Option.bind_some, tin1_ok _ p (by have := (hl.f _ (List.getElem_mem h0)).size; omega), Option.bind_some, hw, e]
    by_cases h : upP l[0].1 = p
    · rw [ifs_pos (by simpa using h), ifs_pos (by simp), if_pos h]
      exact tin_loop l hl p 1 (by omega) [l[0].1] (by simp)
    · rw [ifs_neg (by simpa using h), if_neg h]
      exact tin_loop l hl p 1 (by omega) [] (by simp)
end Go.Proofs.YtabhngbpkfdeiaaGreatDoor.Sp
end
section
/- Each call of a tree: the program's answer and the reference's. Conditions: lengths as they stand in each statement. -/
set_option linter.unusedVariables false
set_option linter.unusedSimpArgs false
namespace Go.Proofs.YtabhngbpkfdeiaaGreatDoor.Sp
open Go Go.Proofs.YtabhngbpkfdeiaaGreatDoor.Ab Go.Proofs.YtabhngbpkfdeiaaGreatDoor.Tb Go.Proofs.YtabhngbpkfdeiaaGreatDoor.EText

def mkP (l : List Fil) (p : Txt) : List Fil × Int := if rightP p = false then ([], 8) else if hasP l p = true then ([], 10) else if roomB l p ≠ 0 then ([], roomB l p) else (put l (p, true, []), 0)
def wrP (l : List Fil) (p : Txt) (ls : List Txt) : List Fil × Int :=
  if rightP p = false then ([], 8) else if (getP l p).1.2.1 = true then ([], 11) else if checkL ls ≠ 0 then ([], checkL ls) else if roomB l p ≠ 0 ∧ hasP l p = false then ([], roomB l p) else (put l (p, false, ls), 0)
def rmP (l : List Fil) (p : Txt) : List Fil × Int :=
  if rightP p = false then ([], 8) else if hasP l p = false then ([], 9) else if (getP l p).1.2.1 = true ∧ inP l p ≠ [] then ([], 12) else (del l p, 0)
def mvP (l : List Fil) (p q : Txt) : List Fil × Int :=
  if rightP p = false ∨ rightP q = false then ([], 8) else if hasP l p = false then ([], 9) else if (getP l p).1.2.1 = true then ([], 11) else if hasP l q = true then ([], 10) else if dirB l (upP q) = false then ([], 9)
  else (put (del l p) (q, false, (getP l p).1.2.2), 0)
theorem right_size {p : Txt} (h : rightP p = true) : p.size ≤ 200 := by
  unfold rightP at h
  simp only [Bool.and_eq_true, decide_eq_true_eq] at h
  exact h.1
theorem mkdir_ok (l : List Fil) (hl : Tk l) (p : Txt) (hp : p.size ≤ 100000) : cR 49 [RT.d ty31, RT.d (.int .i64)] [inj ty31 (l, ()), inj .str p] = some (((mkP l p).1, ()), (mkP l p).2) := by
  refine callT_of ((e49 (l, ()) p).trans ?_)
  rw [pright_ok p hp, Option.bind_some, get_ok l hl p hp, Option.bind_some, getP_snd, room_ok l hl p hp, Option.bind_some]
  unfold mkP
  cases hr : rightP p with
  | false => rw [ifs_pos (by rfl), if_pos rfl]
  | true =>
    rw [ifs_neg (by simp), if_neg (by simp)]
    cases hh : hasP l p with
    | true => rw [ifs_pos rfl, if_pos rfl]
    | false =>
      rw [ifs_neg (by simp), if_neg (by simp)]
      by_cases h0 : roomB l p = 0
      · rw [ifs_neg (by simp [h0]), if_neg (by simp [h0]), with_ok l hl (p, true, []) ⟨hr, ⟨by simp [top], fun s h => by cases h⟩, by simp⟩, Option.bind_some]
      · rw [ifs_pos (by simpa using h0), if_pos h0]
theorem lenpos {α : Type} (l : List α) : decide (((l.length : Nat) : Int) > 0) = decide (l ≠ []) := by
  cases l with
  | nil => rfl
  | cons a l => simp
theorem remove_ok (l : List Fil) (hl : Tk l) (p : Txt) (hp : p.size ≤ 100000) : cR 93 [RT.d ty31, RT.d (.int .i64)] [inj ty31 (l, ()), inj .str p] = some (((rmP l p).1, ()), (rmP l p).2) := by
  refine callT_of ((e93 (l, ()) p).trans ?_)
  have hw := without_ok l hl.n p
  rw [pright_ok p hp, Option.bind_some, get_ok l hl p hp, Option.bind_some, getP_snd, tin_ok l hl p, Option.bind_some, lenpos]
  unfold rmP
  cases hr : rightP p with
  | false => rw [ifs_pos (by rfl), if_pos rfl]
  | true =>
    rw [ifs_neg (by simp), if_neg (by simp)]
    cases hh : hasP l p with
    | false => rw [ifs_pos (by rfl), if_pos rfl]
    | true =>
      rw [ifs_neg (by simp), if_neg (by simp)]
      cases hd : (getP l p).1.2.1 with
      | true =>
        rw [ifs_pos rfl]
        by_cases h0 : inP l p = []
        · rw [ifs_neg (by simp [h0]), if_neg (by simp [h0]), hw, Option.bind_some]
        · rw [ifs_pos (by simpa using h0), if_pos ⟨rfl, h0⟩]
      | false => rw [ifs_neg (by simp), if_neg (by simp), hw, Option.bind_some]
theorem getP_mem {l : List Fil} {p : Txt} (h : hasP l p = true) : (getP l p).1 ∈ l ∧ (getP l p).1.1 = p := by
  have h1 := getP_find h
  obtain ⟨h2, h3⟩ := hasP_at h
  have h4 := List.mem_of_getElem? h1
  rw [List.getElem?_eq_getElem h2] at h1
  refine ⟨h4, ?_⟩
  rw [← Option.some.inj h1]; exact h3
theorem move_ok (l : List Fil) (hl : Tk l) (p q : Txt) (hp : p.size ≤ 100000) (hq : q.size ≤ 100000) : cR 51 [RT.d ty31, RT.d (.int .i64)] [inj ty31 (l, ()), inj .str p, inj .str q] = some (((mvP l p q).1, ()), (mvP l p q).2) := by
  refine callT_of ((e51 (l, ()) p q).trans ?_)
  have hu : (upP q).size ≤ 10000 := joinN_up_size q
  rw [pright_ok p hp, Option.bind_some, pright_ok q hq, Option.bind_some, get_ok l hl p hp, Option.bind_some, get_ok l hl q hq, Option.bind_some, getP_snd, getP_snd, pdir_ok q hq, Option.bind_some, tdir_ok l hl _ (by omega), Option.bind_some, without_ok l hl.n p, Option.bind_some]
  unfold mvP
  cases hr : rightP p with
  | false => rw [ifs_neg (by simp), if_pos (.inl rfl)]
  | true =>
    rw [ifs_pos (by simp)]
    cases hr2 : rightP q with
    | false => rw [ifs_pos (by rfl), if_pos (.inr rfl)]
    | true =>
      rw [ifs_neg (by simp), if_neg (by simp)]
      cases hh : hasP l p with
      | false => rw [ifs_pos (by rfl), if_pos rfl]
      | true =>
        rw [ifs_neg (by simp), if_neg (by simp)]
        cases hd : (getP l p).1.2.1 with
        | true => rw [ifs_pos rfl, if_pos rfl]
        | false =>
          rw [ifs_neg (by simp), if_neg (by simp)]
          cases hh2 : hasP l q with
          | true => rw [ifs_pos rfl, if_pos rfl]
          | false =>
            rw [ifs_neg (by simp), if_neg (by simp)]
            cases hd2 : dirB l (upP q) with
            | false => rw [ifs_pos (by rfl), if_pos rfl]
            | true =>
              have hf := hl.f _ (getP_mem hh).1
              have e : ((q, (getP l p).1.2) : Fil) = (q, false, (getP l p).1.2.2) := by rw [← hd]
              have hw := with_ok (del l p) (tk_del hl p) (q, false, (getP l p).1.2.2) ⟨hr2, hf.l, hf.n⟩
              rw [← e] at hw
              rw [ifs_neg (by simp), if_neg (by simp)]
              refine (congrArg (fun o => Option.bind o _) hw).trans ?_
              rw [Option.bind_some, e]
end Go.Proofs.YtabhngbpkfdeiaaGreatDoor.Sp
end
section
/- The reference's call of files is the program's of a tree, where each file's directory is there; which stays so. Conditions: lengths as they stand in each statement. -/
set_option linter.unusedVariables false
set_option linter.unusedSimpArgs false
namespace Go.Proofs.YtabhngbpkfdeiaaGreatDoor.Sp
open Go Go.Proofs.YtabhngbpkfdeiaaGreatDoor.Ab Go.Proofs.YtabhngbpkfdeiaaGreatDoor.Tb Go.Proofs.YtabhngbpkfdeiaaGreatDoor.EText

theorem getP_of {l : List Fil} (hs : Srt l) {g : Fil} (hg : g ∈ l) : getP l g.1 = (g, true) := by
  have hh := (hasP_mem (p := g.1) hs).2 ⟨g, hg, rfl⟩
  obtain ⟨h1, h2⟩ := getP_mem hh
  have h3 := getP_snd l g.1
  rw [hh] at h3
  obtain ⟨i, hi, e1⟩ := List.getElem_of_mem h1
  obtain ⟨j, hj, e2⟩ := List.getElem_of_mem hg
  have key : ∀ a b : Nat, ∀ (ha : a < l.length) (hb : b < l.length), l[a].1 = l[b].1 → ¬ a < b := fun a b ha hb he hlt => by
    have := (List.pairwise_iff_getElem.1 hs) a b ha hb hlt
    rw [he, lessP_irrefl] at this; cases this
  have hij : i = j := by
    have e3 : l[i].1 = l[j].1 := by rw [e1, e2]; exact h2
    have := key i j hi hj e3
    have := key j i hj hi e3.symm
    omega
  subst hij
  have e4 : (getP l g.1).1 = g := by rw [← e1]; exact e2
  exact Prod.ext e4 h3
end Go.Proofs.YtabhngbpkfdeiaaGreatDoor.Sp
end
section
/- TreeDoes answers true, where its awake does. Conditions: lengths as they stand in each statement. -/
set_option linter.unusedVariables false
set_option linter.unusedSimpArgs false
namespace Go.Proofs.YtabhngbpkfdeiaaGreatDoor.Sp
open Go Go.Proofs.YtabhngbpkfdeiaaGreatDoor.Ab Go.Proofs.YtabhngbpkfdeiaaGreatDoor.Tb Go.Proofs.YtabhngbpkfdeiaaGreatDoor.EText

theorem put_len {l : List Fil} (hs : Srt l) (f : Fil) : (put l f).length ≤ l.length + 1 := by
  have h1 := cnt_le l f.1
  unfold put
  rw [drop_hi f.1 hs, ← take_lo f.1 hs]
  simp only [List.length_append, List.length_take, List.length_drop, List.length_cons, List.length_nil]
  omega
theorem mem_put {l : List Fil} {f e : Fil} : e ∈ put l f ↔ e = f ∨ (e ∈ l ∧ e.1 ≠ f.1) := by
  unfold put lo hi
  simp only [List.mem_append, List.mem_filter, List.mem_singleton]
  constructor
  · rintro ((⟨h1, h2⟩ | h) | ⟨h1, h2⟩)
    · exact .inr ⟨h1, fun e => by rw [e, lessP_irrefl] at h2; cases h2⟩
    · exact .inl h
    · exact .inr ⟨h1, fun e => by rw [e, lessP_irrefl] at h2; cases h2⟩
  · rintro (h | ⟨h1, h2⟩)
    · exact .inl (.inr h)
    · cases h3 : lessP e.1 f.1 with
      | true => exact .inl (.inl ⟨h1, rfl⟩)
      | false => cases h4 : lessP f.1 e.1 with
        | true => exact .inr ⟨h1, rfl⟩
        | false => exact absurd (lessP_tri h3 h4) h2
theorem srt_put {l : List Fil} (hs : Srt l) (f : Fil) : Srt (put l f) := by
  unfold put
  refine List.pairwise_append.2 ⟨List.pairwise_append.2 ⟨hs.filter _, List.pairwise_singleton _ _, fun a ha b hb => ?_⟩, hs.filter _, fun a ha b hb => ?_⟩
  · rw [List.mem_singleton.1 hb]; exact (List.mem_filter.1 ha).2
  · have h2 : lessP f.1 b.1 = true := (List.mem_filter.1 hb).2
    rcases List.mem_append.1 ha with ha | ha
    · exact lessP_trans (List.mem_filter.1 ha).2 h2
    · rw [List.mem_singleton.1 ha]; exact h2
theorem tk_put {l : List Fil} (hl : Tk l) {f : Fil} (hf : Fk f) (hn : l.length ≤ 900) : Tk (put l f) :=
  ⟨srt_put hl.s f, fun e he => by
    rcases mem_put.1 he with rfl | ⟨h, _⟩
    · exact hf
    · exact hl.f e h, Nat.le_trans (put_len hl.s f) (by omega)⟩
theorem dir_get {l : List Fil} (hs : Srt l) {p : Txt} (h : dirB l p = true) : p = nope ∨ ∃ g ∈ l, g.1 = p ∧ g.2.1 = true := by
  unfold dirB at h
  simp only [Bool.or_eq_true, decide_eq_true_eq] at h
  rcases h with h | h
  · exact .inl h
  · cases hh : hasP l p with
    | false => rw [getP_no hh] at h; cases h
    | true =>
      obtain ⟨h1, h2⟩ := getP_mem hh
      exact .inr ⟨_, h1, h2, h⟩
/-! ### The law -/
end Go.Proofs.YtabhngbpkfdeiaaGreatDoor.Sp
end
section
/- What some functions of the program and of the references come to, in plain words: which steps may be, what takes them back, lists put together. Conditions: lengths as they stand in each statement. -/
set_option linter.unusedVariables false
set_option linter.unusedSimpArgs false
namespace Go.Proofs.YtabhngbpkfdeiaaGreatDoor.Sp
open Go Go.Proofs.YtabhngbpkfdeiaaGreatDoor.Ab Go.Proofs.YtabhngbpkfdeiaaGreatDoor.Tb Go.Proofs.YtabhngbpkfdeiaaGreatDoor.EText

/-- A list of texts that is not far too great. -/
def LM (l : List Txt) : Prop := l.length ≤ 1000000 ∧ ∀ s ∈ l, s.size ≤ 100000
theorem LM.ok {l : List Txt} (h : LM l) : LOk l := ⟨Nat.le_trans h.1 (by decide), fun s hs => Nat.le_trans (h.2 s hs) (by decide)⟩
/-- A step that is not far too great. -/
structure Md (p : Prm) : Prop where
  path : p.2.1.size ≤ 100000
  dst : p.2.2.1.size ≤ 100000
  old : LM p.2.2.2.2.1
  new : LM p.2.2.2.2.2
/-! ### prim.Check -/
abbrev zt : Txt := { data := #[] }
def chk (p : Prm) : Int :=
  if p.1 < 1 ∨ 6 < p.1 ∨ (p.1 ≠ 5 ∧ p.2.2.1 ≠ zt) ∨ (p.1 ≠ 6 ∧ (p.2.2.2.1 ≠ 0 ∨ p.2.2.2.2.1.length + p.2.2.2.2.2.length ≠ 0)) then 2
  else if rightP p.2.1 = false ∨ (p.1 = 5 ∧ (rightP p.2.2.1 = false ∨ p.2.1 = p.2.2.1)) then 8
  else if p.1 = 6 ∧ (p.2.2.2.1 < 0 ∨ p.2.2.2.2.1.length + p.2.2.2.2.2.length = 0 ∨ checkL p.2.2.2.2.1 ≠ 0 ∨ checkL p.2.2.2.2.2 ≠ 0) then 6
  else 0
theorem eqc {α : Type} {a b : α} : (a = b) = (b = a) := propext ⟨fun h => h.symm, fun h => h.symm⟩
theorem pcheck_ok (p : Prm) (h : Md p) : cR 42 [RT.d (.int .i64)] [inj ty40 p] = some (chk p) := by
  refine callT_of ((e42 p).trans ?_)
  have hw : IntKind.i64.wrap ((p.2.2.2.2.1.length : Int) + (p.2.2.2.2.2.length : Int)) = ((p.2.2.2.2.1.length + p.2.2.2.2.2.length : Nat) : Int) := by
    have := h.old.1; have := h.new.1
    rw [wr _ ⟨by omega, by omega⟩]; omega
  simp only [hw, pright_ok _ h.path, pright_ok _ h.dst, lcheck_ok _ h.old.ok, lcheck_ok _ h.new.ok, Option.bind_some, bat]
  unfold chk
  obtain ⟨k, a, b, n, o, w⟩ := p
  simp only
  generalize o.length + w.length = L
  generalize checkL o = co
  generalize checkL w = cw
  generalize rightP a = ra
  generalize rightP b = rb
  clear h hw
  simp only [ifs]
  by_cases k1 : k < 1
  · simp [k1]
    repeat' split
    all_goals rfl
  by_cases k6 : 6 < k
  · simp [k1, k6]
  by_cases k5 : k = 5
  · subst k5
    by_cases hn : n = 0
    · by_cases hL : L = 0
      · cases ra <;> cases rb <;> simp [hn, hL, eqc (a := a)] <;> (split <;> rfl)
      · have : ¬ (L : Int) = 0 := by omega
        simp [hn, hL, this]
    · simp [hn]
  by_cases ks : k = 6
  · subst ks
    by_cases hb : b = zt
    · by_cases hn0 : n < 0
      · by_cases hn : n = 0
        · omega
        · cases ra <;> simp [hn, hb, hn0]
      · by_cases hL : L = 0
        · have : (L : Int) = 0 := by omega
          by_cases hn : n = 0 <;> cases ra <;> simp [hn, hb, hn0, hL, this]
        · have : ¬ (L : Int) = 0 := by omega
          by_cases hn : n = 0 <;> cases ra <;> by_cases hc : co = 0 <;> by_cases hd : cw = 0 <;> simp [hn, hb, hn0, hL, this, hc, hd]
    · by_cases hn : n = 0 <;> simp [hb, hn]
  by_cases hb : b = zt
  · by_cases hn : n = 0
    · by_cases hL : L = 0
      · have : (L : Int) = 0 := by omega
        cases ra <;> simp [k1, k6, k5, ks, hb, hn, hL]
      · have : ¬ (L : Int) = 0 := by omega
        simp [k1, k6, k5, ks, hb, hn, hL, this]
    · simp [k1, k6, k5, ks, hb, hn]
  · by_cases hn : n = 0 <;> simp [k1, k6, k5, ks, hb, hn]
/-! ### What takes a step back -/
/-! ### slices.Concat -/
theorem grow_ok (n : Nat) (h : n * 16 < 140737488355328) : cR 137 [RT.own 9 .str] [A.c C.nl, inj (.int .i64) (n : Int)] = some [] :=
  callT_of (by
    show (if (0 : Int) ≤ (n : Int) ∧ (n : Int).toNat * 16 < 140737488355328 then some [RV.own 9 .str []] else none) = _
    rw [if_pos ⟨by omega, by rw [Int.toNat_natCast]; exact h⟩]; rfl)
end Go.Proofs.YtabhngbpkfdeiaaGreatDoor.Sp
end
section
/- Lists of lines put together, place by place: plain Lean, no program. -/
set_option linter.unusedVariables false
set_option linter.unusedSimpArgs false
namespace Go.Proofs.YtabhngbpkfdeiaaGreatDoor.Sp
open Go

theorem tk {α : Type} {l : List α} {a b : Nat} (h : min a l.length = min b l.length) : l.take a = l.take b := List.take_eq_take_iff.2 h
/-- The lines of l, that stand from S on, but those from A to A + c; ahead of what stands at A: M. As far as i. -/
def G {α : Type} (l : List α) (S : Int) (M : List α) (A c i : Int) : List α :=
  l.take (min i A - S).toNat ++ (if A < i then M else []) ++ (l.take (i - S).toNat).drop (A + c - S).toNat

end Go.Proofs.YtabhngbpkfdeiaaGreatDoor.Sp
end
section
/- What some functions of the program and of the references come to, in plain words: two hunks that touch, and what they become. Conditions: lengths and places as they stand in each statement. -/
set_option linter.unusedVariables false
set_option linter.unusedSimpArgs false
namespace Go.Proofs.YtabhngbpkfdeiaaGreatDoor.Sp
open Go Go.Proofs.YtabhngbpkfdeiaaGreatDoor.Ab Go.Proofs.YtabhngbpkfdeiaaGreatDoor.Tb Go.Proofs.YtabhngbpkfdeiaaGreatDoor.EText

theorem chk_hunk {p : Prm} (h : chk p = 0) (h6 : p.1 = 6) : 0 ≤ p.2.2.2.1 ∧ p.2.2.2.2.1.length + p.2.2.2.2.2.length ≠ 0 ∧ checkL p.2.2.2.2.1 = 0 ∧ checkL p.2.2.2.2.2 = 0 := by
  unfold chk at h
  split at h
  · cases h
  · split at h
    · cases h
    · split at h
      · cases h
      · rename_i h3
        simp only [h6, true_and, not_or, Decidable.not_not, Int.not_lt] at h3
        omega
/-! ### Do two hunks touch? -/
/-! ### What two hunks become -/
theorem high_ok (a b : Int) : cR 91 [RT.d (.int .i64)] [inj (.int .i64) a, inj (.int .i64) b] = some (max a b) := by
  refine callT_of ((e91 a b).trans ?_)
  by_cases h : a > b
  · rw [ifs_pos (by simpa using h), show max a b = a by omega]
  · rw [ifs_neg (by simpa using h), show max a b = b by omega]

end Go.Proofs.YtabhngbpkfdeiaaGreatDoor.Sp
end
section
/- What some functions of the program and of the references come to, in plain words: the reference's two hunks, line by line. Conditions: lengths and places as they stand in each statement. -/
set_option linter.unusedVariables false
set_option linter.unusedSimpArgs false
namespace Go.Proofs.YtabhngbpkfdeiaaGreatDoor.Sp
open Go Go.Proofs.YtabhngbpkfdeiaaGreatDoor.Ab Go.Proofs.YtabhngbpkfdeiaaGreatDoor.Tb Go.Proofs.YtabhngbpkfdeiaaGreatDoor.EText

end Go.Proofs.YtabhngbpkfdeiaaGreatDoor.Sp
end
section
/- What some functions of the program and of the references come to, in plain words: what two steps become, and a row of steps. Conditions: lengths and places as they stand in each statement. -/
set_option linter.unusedVariables false
set_option linter.unusedSimpArgs false
namespace Go.Proofs.YtabhngbpkfdeiaaGreatDoor.Sp
open Go Go.Proofs.YtabhngbpkfdeiaaGreatDoor.Ab Go.Proofs.YtabhngbpkfdeiaaGreatDoor.Tb Go.Proofs.YtabhngbpkfdeiaaGreatDoor.EText

/-! ### Two steps -/
end Go.Proofs.YtabhngbpkfdeiaaGreatDoor.Sp
end
section
/- What some functions of the program and of the references come to, in plain words: a row of steps, from the left on. Conditions: lengths and places as they stand in each statement. -/
set_option linter.unusedVariables false
set_option linter.unusedSimpArgs false
namespace Go.Proofs.YtabhngbpkfdeiaaGreatDoor.Sp
open Go Go.Proofs.YtabhngbpkfdeiaaGreatDoor.Ab Go.Proofs.YtabhngbpkfdeiaaGreatDoor.Tb Go.Proofs.YtabhngbpkfdeiaaGreatDoor.EText

/-! ### What stays as it is, in steps that come to be -/
structure Pr (p : Prm) : Prop where
  path : p.2.1.size ≤ 300
  dst : p.2.2.1.size ≤ 300
  old : ∀ s ∈ p.2.2.2.2.1, s.size ≤ 300
  new : ∀ s ∈ p.2.2.2.2.2, s.size ≤ 300
  fit : fits p.2.2.2.1
  place : p.2.2.2.1 ≤ 1099511627776
def wt (p : Prm) : Nat := p.2.2.2.2.1.length + p.2.2.2.2.2.length
def Good (C : Nat) (l : List Prm) : Prop := (∀ p ∈ l, Pr p) ∧ (l.map wt).sum ≤ C
theorem Good.nil (C : Nat) : Good C [] := ⟨fun p h => (by cases h), Nat.zero_le _⟩
theorem Good.left {C : Nat} {l m : List Prm} (h : Good C (l ++ m)) : Good C l :=
  ⟨fun p hp => h.1 p (List.mem_append_left _ hp), by have := h.2; rw [List.map_append, List.sum_append] at this; omega⟩
theorem Good.right {C : Nat} {l m : List Prm} (h : Good C (l ++ m)) : Good C m :=
  ⟨fun p hp => h.1 p (List.mem_append_right _ hp), by have := h.2; rw [List.map_append, List.sum_append] at this; omega⟩
theorem le_sum_mem {n : Nat} : ∀ {l : List Nat}, n ∈ l → n ≤ l.sum
  | x :: l, h => by
    rw [List.sum_cons]
    rcases List.mem_cons.1 h with rfl | h
    · omega
    · have := le_sum_mem h; omega
theorem Good.md {C : Nat} {l : List Prm} (hC : C ≤ 100000) (h : Good C l) {p : Prm} (hp : p ∈ l) : Md p := by
  have hw : wt p ≤ C := Nat.le_trans (le_sum_mem (List.mem_map_of_mem hp)) h.2
  have hr := h.1 p hp
  unfold wt at hw
  exact ⟨by have := hr.path; omega, by have := hr.dst; omega, ⟨by omega, fun s hs => by have := hr.old s hs; omega⟩, ⟨by omega, fun s hs => by have := hr.new s hs; omega⟩⟩

/-! ### fuse.All -/
end Go.Proofs.YtabhngbpkfdeiaaGreatDoor.Sp
end
section
/- What some functions of the program come to, in plain words: steps that are apart, and that change places. Conditions: lengths as they stand in each statement. -/
set_option linter.unusedVariables false
set_option linter.unusedSimpArgs false
namespace Go.Proofs.YtabhngbpkfdeiaaGreatDoor.Sp
open Go Go.Proofs.YtabhngbpkfdeiaaGreatDoor.Ab Go.Proofs.YtabhngbpkfdeiaaGreatDoor.Tb Go.Proofs.YtabhngbpkfdeiaaGreatDoor.EText

/-! ### Is a text among others? -/
/-! ### Within -/
def preB (s t : Txt) : Bool := decide (t.size ≤ s.size) && decide (s.extract 0 t.size = t)
def withinB (p d : Txt) : Bool := rightP p && (decide (d = zt) || (rightP d && preB p (d ++ slash)))
/-! ### Apart -/
def touchesL (p : Prm) : List Txt := if chk p ≠ 0 then [] else if p.1 = 5 then [p.2.1, p.2.2.1] else [p.2.1]
def aboveB (p : Prm) (s : Txt) : Bool := (decide (p.1 = 1) || decide (p.1 = 2)) && withinB s p.2.1
def apartB (p q : Prm) : Bool :=
  decide (touchesL p ≠ []) && (decide (touchesL q ≠ []) && (!((touchesL p).any fun a => ((touchesL q).any fun s => decide (a = s)) || aboveB q a) && !((touchesL q).any fun b => aboveB p b)))
/-! ### Two steps change places -/
def setAt (p : Prm) (n : Int) : Prm := (p.1, p.2.1, p.2.2.1, n, p.2.2.2.2)
abbrev W64 (n : Int) : Int := IntKind.i64.wrap n
end Go.Proofs.YtabhngbpkfdeiaaGreatDoor.Sp
end
section
/- What commute.Pair comes to, in plain words; and three hunks that change places. Conditions: lengths as they stand in each statement. -/
set_option linter.unusedVariables false
set_option linter.unusedSimpArgs false
namespace Go.Proofs.YtabhngbpkfdeiaaGreatDoor.Sp
open Go Go.Proofs.YtabhngbpkfdeiaaGreatDoor.Ab Go.Proofs.YtabhngbpkfdeiaaGreatDoor.Tb Go.Proofs.YtabhngbpkfdeiaaGreatDoor.EText

end Go.Proofs.YtabhngbpkfdeiaaGreatDoor.Sp
end
section
/- A tree's files seen as a map from paths, and what a step does to such a map. No condition: plain lists. -/
set_option linter.unusedVariables false
set_option linter.unusedSimpArgs false
namespace Go.Proofs.YtabhngbpkfdeiaaGreatDoor.Sp
open Go Go.Proofs.YtabhngbpkfdeiaaGreatDoor.Ab Go.Proofs.YtabhngbpkfdeiaaGreatDoor.Tb Go.Proofs.YtabhngbpkfdeiaaGreatDoor.EText

abbrev En := Bool × List Txt
abbrev Mp := Txt → Option En
def mp (l : List Fil) : Mp := fun p => if hasP l p = true then some (getP l p).1.2 else none
def upd (m : Mp) (p : Txt) (v : Option En) : Mp := fun x => if x = p then v else m x
theorem upd_at (m : Mp) (p : Txt) (v : Option En) : upd m p v p = v := by simp [upd]
theorem upd_ne (m : Mp) {p x : Txt} (v : Option En) (h : x ≠ p) : upd m p v x = m x := by simp [upd, h]
theorem upd_upd (m : Mp) (p : Txt) (v w : Option En) : upd (upd m p v) p w = upd m p w := by
  funext x; unfold upd; by_cases h1 : x = p <;> simp [h1]
theorem mp_mem {l : List Fil} (hs : Srt l) {p : Txt} {e : En} : mp l p = some e ↔ (p, e) ∈ l := by
  unfold mp
  constructor
  · intro h
    split at h
    · rename_i hh
      obtain ⟨h1, h2⟩ := getP_mem hh
      cases h
      have : ((getP l p).1.1, (getP l p).1.2) ∈ l := h1
      rw [h2] at this; exact this
    · cases h
  · intro h
    have h1 := getP_of hs h
    have h2 : getP l p = ((p, e), true) := h1
    have h3 : hasP l p = true := by rw [← getP_snd, h2]
    rw [if_pos h3, h2]
theorem mp_none {l : List Fil} (hs : Srt l) {p : Txt} : mp l p = none ↔ hasP l p = false := by
  unfold mp
  cases hasP l p <;> simp
theorem srt_ext : ∀ {l m : List Fil}, Srt l → Srt m → (∀ e, e ∈ l ↔ e ∈ m) → l = m
  | [], [], _, _, _ => rfl
  | [], b :: m, _, _, h => by have := (h b).2 (by simp); cases this
  | a :: l, [], _, _, h => by have := (h a).1 (by simp); cases this
  | a :: l, b :: m, h1, h2, h => by
    have k1 := List.pairwise_cons.1 h1
    have k2 := List.pairwise_cons.1 h2
    have e : a = b := by
      rcases List.mem_cons.1 ((h a).1 (by simp)) with e | e
      · exact e
      · rcases List.mem_cons.1 ((h b).2 (by simp)) with f | f
        · exact f.symm
        · have := lessP_asym (k2.1 a e)
          rw [k1.1 b f] at this; cases this
    subst e
    refine congrArg (a :: ·) (srt_ext k1.2 k2.2 fun x => ⟨fun hx => ?_, fun hx => ?_⟩)
    · rcases List.mem_cons.1 ((h x).1 (List.mem_cons_of_mem _ hx)) with e | e
      · subst e; have := k1.1 x hx; rw [lessP_irrefl] at this; cases this
      · exact e
    · rcases List.mem_cons.1 ((h x).2 (List.mem_cons_of_mem _ hx)) with e | e
      · subst e; have := k2.1 x hx; rw [lessP_irrefl] at this; cases this
      · exact e
theorem mp_ext {l m : List Fil} (h1 : Srt l) (h2 : Srt m) (h : mp l = mp m) : l = m :=
  srt_ext h1 h2 fun e => by
    have k1 := mp_mem h1 (p := e.1) (e := e.2)
    have k2 := mp_mem h2 (p := e.1) (e := e.2)
    rw [h] at k1
    exact k1.symm.trans k2
theorem opt_ext {α : Type} {a b : Option α} (h : ∀ e, a = some e ↔ b = some e) : a = b := by
  cases a with
  | none => cases b with
    | none => rfl
    | some y => exact absurd ((h y).2 rfl) (by simp)
  | some x => exact ((h x).1 rfl).symm
theorem mp_put {l : List Fil} (hs : Srt l) (f : Fil) : mp (put l f) = upd (mp l) f.1 (some f.2) := by
  funext x
  refine opt_ext fun e => ?_
  rw [mp_mem (srt_put hs f), mem_put]
  unfold upd
  by_cases hx : x = f.1
  · rw [if_pos hx]
    constructor
    · rintro (h | ⟨h1, h2⟩)
      · rw [← h]
      · exact absurd hx h2
    · intro h; cases h; left; rw [hx]
  · rw [if_neg hx, mp_mem hs]
    constructor
    · rintro (h | ⟨h1, h2⟩)
      · rw [← h] at hx; exact absurd rfl hx
      · exact h1
    · exact fun h => .inr ⟨h, hx⟩
theorem mp_del {l : List Fil} (hs : Srt l) (p : Txt) : mp (del l p) = upd (mp l) p none := by
  funext x
  refine opt_ext fun e => ?_
  rw [mp_mem (srt_del hs p)]
  unfold upd del
  rw [List.mem_filter]
  by_cases hx : x = p
  · rw [if_pos hx]; simp [hx]
  · rw [if_neg hx, mp_mem hs]; simp [hx]

/-! ### What a step does to a map -/
def dirM (m : Mp) (p : Txt) : Prop := p = nope ∨ ∃ ls, m p = some (true, ls)
theorem dirM_iff {l : List Fil} (hs : Srt l) (p : Txt) : dirB l p = true ↔ dirM (mp l) p := by
  constructor
  · intro h
    rcases dir_get hs h with h | ⟨g, hg, e1, e2⟩
    · exact .inl h
    · refine .inr ⟨g.2.2, (mp_mem hs).2 ?_⟩
      rw [← e1, ← e2]; exact hg
  · rintro (h | ⟨ls, h⟩)
    · unfold dirB; rw [h]; simp
    · have := getP_of hs ((mp_mem hs).1 h)
      unfold dirB
      rw [show getP l p = ((p, true, ls), true) from this]
      simp
def Hnk (ls : List Txt) (p : Prm) (ls' : List Txt) : Prop := ∃ a b, ls = a ++ p.2.2.2.2.1 ++ b ∧ (a.length : Int) = p.2.2.2.1 ∧ ls' = a ++ p.2.2.2.2.2 ++ b
def Stp (p : Prm) (m m' : Mp) : Prop :=
  (p.1 = 1 ∧ m p.2.1 = none ∧ dirM m (upP p.2.1) ∧ m' = upd m p.2.1 (some (true, []))) ∨
  (p.1 = 2 ∧ m p.2.1 = some (true, []) ∧ (∀ e, m e ≠ none → upP e ≠ p.2.1) ∧ m' = upd m p.2.1 none) ∨
  (p.1 = 3 ∧ m p.2.1 = none ∧ dirM m (upP p.2.1) ∧ m' = upd m p.2.1 (some (false, []))) ∨
  (p.1 = 4 ∧ m p.2.1 = some (false, []) ∧ m' = upd m p.2.1 none) ∨
  (p.1 = 5 ∧ ∃ ls, m p.2.1 = some (false, ls) ∧ m p.2.2.1 = none ∧ dirM m (upP p.2.2.1) ∧ m' = upd (upd m p.2.1 none) p.2.2.1 (some (false, ls))) ∨
  (p.1 = 6 ∧ ∃ ls ls', m p.2.1 = some (false, ls) ∧ Hnk ls p ls' ∧ m' = upd m p.2.1 (some (false, ls')))

theorem inP_nil {l : List Fil} (hs : Srt l) (p : Txt) : inP l p = [] ↔ ∀ e, mp l e ≠ none → upP e ≠ p := by
  unfold inP
  rw [List.map_eq_nil_iff, List.filter_eq_nil_iff]
  constructor
  · intro h e he hu
    cases hm : mp l e with
    | none => exact he hm
    | some x => exact h _ ((mp_mem hs).1 hm) (by simpa using hu)
  · intro h e he
    simp only [decide_eq_true_eq]
    exact h e.1 (by rw [(mp_mem hs (e := e.2)).2 he]; simp)

/-! ### What a step does to the files -/
def hdo (ls : List Txt) (p : Prm) : Option (List Txt) :=
  if p.2.2.2.1.toNat + p.2.2.2.2.1.length ≤ ls.length ∧ (ls.drop p.2.2.2.1.toNat).take p.2.2.2.2.1.length = p.2.2.2.2.1 then
    some (ls.take p.2.2.2.1.toNat ++ p.2.2.2.2.2 ++ ls.drop (p.2.2.2.1.toNat + p.2.2.2.2.1.length)) else none
theorem hdo_iff {ls ls' : List Txt} {p : Prm} (h0 : 0 ≤ p.2.2.2.1) : hdo ls p = some ls' ↔ Hnk ls p ls' := by
  unfold hdo Hnk
  generalize hn : p.2.2.2.1.toNat = n
  have hn' : p.2.2.2.1 = (n : Int) := by omega
  rw [hn']
  generalize p.2.2.2.2.1 = o
  generalize p.2.2.2.2.2 = w
  constructor
  · intro h
    split at h
    · rename_i hc
      cases h
      refine ⟨ls.take n, ls.drop (n + o.length), ?_, by rw [List.length_take]; omega, rfl⟩
      have e := List.take_append_drop n ls
      have e2 := List.take_append_drop o.length (ls.drop n)
      rw [hc.2, List.drop_drop] at e2
      rw [List.append_assoc, e2, e]
    · cases h
  · rintro ⟨a, b, rfl, ha, rfl⟩
    have ha' : a.length = n := by omega
    subst ha'
    rw [if_pos]
    · congr 1
      rw [List.append_assoc a o b, List.take_left, ← List.drop_drop, List.drop_left, List.drop_left]
    · refine ⟨by simp only [List.length_append]; omega, ?_⟩
      rw [List.append_assoc, List.drop_left, List.take_left]

def goneP (l : List Fil) (p : Txt) (d : Bool) : List Fil × Int :=
  if hasP l p = false then ([], 9) else if (getP l p).1.2.1 ≠ d then ([], 11) else if (getP l p).1.2.2 ≠ [] then ([], 13) else rmP l p
def hunkP (l : List Fil) (p : Prm) : List Fil × Int :=
  if hasP l p.2.1 = false then ([], 9) else if (getP l p.2.1).1.2.1 = true then ([], 11) else
    match hdo (getP l p.2.1).1.2.2 p with
    | none => ([], 13)
    | some x => wrP l p.2.1 x
def applyP (l : List Fil) (p : Prm) : List Fil × Int :=
  if chk p ≠ 0 then ([], chk p) else if p.1 = 1 then mkP l p.2.1 else if p.1 = 2 ∨ p.1 = 4 then goneP l p.2.1 (decide (p.1 = 2)) else if p.1 = 5 then mvP l p.2.1 p.2.2.1
  else if p.1 = 6 then hunkP l p else if hasP l p.2.1 = true then ([], 10) else wrP l p.2.1 []

/-- Files as they may be in a tree: at most so many. -/
structure Gd (l : List Fil) (n : Nat) : Prop where
  tk : Tk l
  n : l.length ≤ n
  c : ∀ f ∈ l, checkL f.2.2 = 0
theorem Gd.weak {l : List Fil} {n k : Nat} (h : Gd l n) (hk : n ≤ k) : Gd l k := ⟨h.tk, Nat.le_trans h.n hk, h.c⟩
theorem Gd.line {l : List Fil} {n : Nat} (h : Gd l n) {p : Txt} {e : En} (he : mp l p = some e) : checkL e.2 = 0 := h.c (p, e) ((mp_mem h.tk.s).1 he)
theorem get_mp {l : List Fil} (hs : Srt l) {p : Txt} {e : En} (h : mp l p = some e) : hasP l p = true ∧ (getP l p).1 = (p, e) := by
  have h1 := getP_of hs ((mp_mem hs).1 h)
  have h2 : getP l p = ((p, e), true) := h1
  exact ⟨by rw [← getP_snd, h2], by rw [h2]⟩
theorem checkL_LOk {l : List Txt} (h : checkL l = 0) : LOk l ∧ l.length ≤ 2000 := by
  have h0 := h
  unfold checkL at h
  split at h
  · cases h
  · rename_i h1
    split at h
    · rename_i h2
      have ht : (2000 : Nat) ≤ top := by decide
      refine ⟨⟨by omega, fun s hs => ?_⟩, by omega⟩
      have := List.all_eq_true.1 h2 s hs
      unfold lineB at this
      simp only [Bool.and_eq_true, decide_eq_true_eq] at this
      have h200 : (200 : Nat) ≤ top := by decide
      omega
    · cases h
theorem chk_path {p : Prm} (h : chk p = 0) : rightP p.2.1 = true := by
  unfold chk at h
  split at h
  · cases h
  · split at h
    · cases h
    · rename_i h1
      cases hr : rightP p.2.1 with
      | true => rfl
      | false => exact absurd (.inl hr) h1
theorem chk_to {p : Prm} (h : chk p = 0) (h5 : p.1 = 5) : rightP p.2.2.1 = true ∧ p.2.1 ≠ p.2.2.1 := by
  unfold chk at h
  split at h
  · cases h
  · split at h
    · cases h
    · rename_i h1
      refine ⟨?_, fun e => h1 (.inr ⟨h5, .inr e⟩)⟩
      cases hr : rightP p.2.2.1 with
      | true => rfl
      | false => exact absurd (.inr ⟨h5, .inl hr⟩) h1

theorem gd_put {l : List Fil} {n : Nat} (h : Gd l n) {f : Fil} (hr : rightP f.1 = true) (hc : checkL f.2.2 = 0) (hn : n ≤ 900) : Gd (put l f) (n + 1) := by
  have h0 := h.n
  obtain ⟨h1, h2⟩ := checkL_LOk hc
  exact ⟨tk_put h.tk ⟨hr, h1, by omega⟩ (by omega), by have := put_len h.tk.s f; omega, fun e he => by
    rcases mem_put.1 he with rfl | ⟨h3, _⟩
    · exact hc
    · exact h.c e h3⟩
theorem gd_del {l : List Fil} {n : Nat} (h : Gd l n) (p : Txt) : Gd (del l p) n :=
  ⟨tk_del h.tk p, Nat.le_trans (List.length_filter_le _ _) h.n, fun e he => h.c e (List.mem_filter.1 he).1⟩
theorem roomB_zero {l : List Fil} {p : Txt} (hn : l.length < 500) : roomB l p = 0 ↔ dirB l (upP p) = true := by
  unfold roomB
  cases dirB l (upP p) with
  | true => rw [if_neg (by simp), if_neg (by omega)]; simp
  | false => simp

/-- A step that may be done is done. -/
theorem apply_of {l : List Fil} {n : Nat} (h : Gd l n) (hn : n < 500) {p : Prm} (hc : chk p = 0) {m' : Mp} (hs : Stp p (mp l) m') (hm : ∀ x e, m' x = some e → checkL e.2 = 0) :
    ∃ l', applyP l p = (l', 0) ∧ mp l' = m' ∧ Gd l' (n + 1) := by
  have hS := h.tk.s
  have hr := chk_path hc
  have hlen : l.length < 500 := Nat.lt_of_le_of_lt h.n hn
  unfold applyP
  rw [if_neg (by simp [hc])]
  rcases hs with ⟨k, h1, h2, rfl⟩ | ⟨k, h1, h2, rfl⟩ | ⟨k, h1, h2, rfl⟩ | ⟨k, h1, rfl⟩ | ⟨k, ls, h1, h2, h3, rfl⟩ | ⟨k, ls, ls', h1, h2, rfl⟩
  · rw [if_pos k]
    unfold mkP
    rw [if_neg (by simp [hr]), if_neg (by simp [(mp_none hS).1 h1]), if_neg (by simp [(roomB_zero hlen).2 ((dirM_iff hS _).2 h2)])]
    exact ⟨_, rfl, mp_put hS _, gd_put h hr (show checkL [] = 0 by decide) (by omega)⟩
  · obtain ⟨g1, g2⟩ := get_mp hS h1
    rw [if_neg (by omega), if_pos (.inl k)]
    unfold goneP
    rw [if_neg (by simp [g1]), if_neg (by simp [g2, k]), if_neg (by simp [g2])]
    unfold rmP
    rw [if_neg (by simp [hr]), if_neg (by simp [g1]), if_neg (by simp [(inP_nil hS _).2 h2])]
    exact ⟨_, rfl, mp_del hS _, (gd_del h _).weak (by omega)⟩
  · rw [if_neg (by omega), if_neg (by omega), if_neg (by omega), if_neg (by omega), if_neg (by simp [(mp_none hS).1 h1])]
    unfold wrP
    have hg : (getP l p.2.1).1.2.1 = false := by rw [getP_no ((mp_none hS).1 h1)]; rfl
    rw [if_neg (by simp [hr]), if_neg (by simp [hg]), if_neg (by decide), if_neg (by simp [(roomB_zero hlen).2 ((dirM_iff hS _).2 h2)])]
    exact ⟨_, rfl, mp_put hS _, gd_put h hr (show checkL [] = 0 by decide) (by omega)⟩
  · obtain ⟨g1, g2⟩ := get_mp hS h1
    rw [if_neg (by omega), if_pos (.inr k)]
    unfold goneP
    rw [if_neg (by simp [g1]), if_neg (by simp [g2, k]), if_neg (by simp [g2])]
    unfold rmP
    rw [if_neg (by simp [hr]), if_neg (by simp [g1]), if_neg (by simp [g2])]
    exact ⟨_, rfl, mp_del hS _, (gd_del h _).weak (by omega)⟩
  · obtain ⟨g1, g2⟩ := get_mp hS h1
    obtain ⟨hr2, hne⟩ := chk_to hc k
    rw [if_neg (by omega), if_neg (by omega), if_pos k]
    unfold mvP
    rw [if_neg (by simp [hr, hr2]), if_neg (by simp [g1]), if_neg (by simp [g2]), if_neg (by simp [(mp_none hS).1 h2]), if_neg (by simp [(dirM_iff hS _).2 h3])]
    refine ⟨_, rfl, ?_, gd_put (gd_del h _) hr2 (by rw [g2]; exact h.line h1) (by omega)⟩
    rw [mp_put (srt_del hS _), mp_del hS, g2]
  · obtain ⟨g1, g2⟩ := get_mp hS h1
    have hat := (chk_hunk hc k).1
    rw [if_neg (by omega), if_neg (by omega), if_neg (by omega), if_pos k]
    unfold hunkP
    rw [if_neg (by simp [g1]), if_neg (by simp [g2]), g2]
    simp only [(hdo_iff hat).2 h2]
    have hcl : checkL ls' = 0 := hm p.2.1 (false, ls') (by rw [upd_at])
    unfold wrP
    rw [if_neg (by simp [hr]), if_neg (by simp [g2]), if_neg (by simp [hcl]), if_neg (by simp [g1])]
    exact ⟨_, rfl, mp_put hS _, gd_put h hr hcl (by omega)⟩
end Go.Proofs.YtabhngbpkfdeiaaGreatDoor.Sp
end
section
/- slices.SortStableFunc at files (symMerge and on), and tree.Of: a tree as it may be. Conditions: lengths as they stand in each statement. -/
set_option linter.unusedVariables false
set_option linter.unusedSimpArgs false
namespace Go.Proofs.YtabhngbpkfdeiaaGreatDoor.Sp
open Go Go.Proofs.YtabhngbpkfdeiaaGreatDoor.Ab Go.Proofs.YtabhngbpkfdeiaaGreatDoor.Tb Go.Proofs.YtabhngbpkfdeiaaGreatDoor.EText

noncomputable def symC (N : Nat) (a m b : Int) (ys : List Fil) : Option (dens [] × dens ([inpF].map RT.d)) :=
  cR2 123 [] [inpF] [A.c (C.ow 0 N), inj (.int .i64) a, inj (.int .i64) m, inj (.int .i64) b, A.c (C.cl 45 []), inj inpF ((), ys)]
noncomputable def t2 (N : Nat) (b mid en : Int) (zs : List Fil) : Option (List RV) :=
  ifs (decide (mid < en) = true) (ifs (decide (en < b) = true) (Option.bind (symC N mid en b zs) fun r => some (injRs [] () ++ injRs [RT.d inpF] ((), r.2.2))) (some (injRs [] () ++ injRs [RT.d inpF] ((), zs)))) (some (injRs [] () ++ injRs [RT.d inpF] ((), zs)))
noncomputable def t1 (N : Nat) (a b mid start en : Int) (zs : List Fil) : Option (List RV) :=
  ifs (decide (a < start) = true) (ifs (decide (start < mid) = true) (Option.bind (symC N a start mid zs) fun r => t2 N b mid en r.2.2) (t2 N b mid en zs)) (t2 N b mid en zs)
def SymH (d : Nat) : Prop := ∀ (a m b N : Nat) (ys : List Fil), b - a ≤ d → a < m → m < b → b ≤ ys.length → Sz ys → N = ys.length → Ans2 ys (symC N (a : Int) (m : Int) (b : Int) ys)
theorem t2_ok {d : Nat} (ih : SymH d) (N b mid en : Nat) (zs : List Fil) (hd : b - mid ≤ d) (hb : b ≤ zs.length) (hs : Sz zs) (hN : N = zs.length) : Ans zs (t2 N (b : Int) (mid : Int) (en : Int) zs) := by
  unfold t2
  by_cases h1 : mid < en
  · rw [ifs_pos (by simp; omega)]
    by_cases h2 : en < b
    · rw [ifs_pos (by simp; omega)]
      obtain ⟨z, e, f⟩ := ih mid en b N zs hd h1 h2 hb hs hN
      exact ⟨z, by rw [e, Option.bind_some], f⟩
    · rw [ifs_neg (by simp; omega)]
      exact ⟨zs, rfl, .refl _⟩
  · rw [ifs_neg (by simp; omega)]
    exact ⟨zs, rfl, .refl _⟩
theorem t1_ok {d : Nat} (ih : SymH d) (N a b mid start en : Nat) (zs : List Fil) (hd : b - mid ≤ d) (hd2 : mid - a ≤ d) (hm : mid ≤ b) (hb : b ≤ zs.length) (hs : Sz zs) (hN : N = zs.length) : Ans zs (t1 N (a : Int) (b : Int) (mid : Int) (start : Int) (en : Int) zs) := by
  unfold t1
  have h0 := t2_ok ih N b mid en zs hd hb hs hN
  by_cases h1 : a < start
  · rw [ifs_pos (by simp; omega)]
    by_cases h2 : start < mid
    · rw [ifs_pos (by simp; omega)]
      obtain ⟨z, e, f⟩ := ih a start mid N zs hd2 h1 h2 (by omega) hs hN
      rw [e, Option.bind_some]
      exact (t2_ok ih N b mid en z hd (by rw [f.1]; exact hb) (f.sz hs) (by rw [f.1]; exact hN)).from f
    · rw [ifs_neg (by simp; omega)]; exact h0
  · rw [ifs_neg (by simp; omega)]; exact h0
theorem mid_loop {D : Nat} (ih : SymH D) (a m b mid n : Nat) (ys : List Fil) (hs : Sz ys) (hb : b ≤ ys.length) (hd : b - mid ≤ D) (hd2 : mid - a ≤ D) (hm : mid ≤ b) (hn : n = mid + m) (hmb : m < b) (lo hi : Nat) (hlo : n ≤ b + lo) (hhi : hi ≤ n) (hh : hi ≤ b) :
    ∀ (d start r : Nat), r - start ≤ d → lo ≤ start → start ≤ r → r ≤ hi → Ans ys (l123_33 ys.length (a : Int) (m : Int) (b : Int) (mid : Int) (n : Int) (start : Int) (r : Int) ((n : Int) - 1) ys) := by
  have h100 := hs.2
  intro d
  induction d with
  | zero =>
    intro start r h1 h2 h3 h4
    have hend : IntKind.i64.wrap ((n : Int) - (start : Int)) = ((n - start : Nat) : Int) := by rw [wr _ (by omega)]; omega
    have hT := t1_ok ih ys.length a b mid start (n - start) ys hd hd2 hm hb hs rfl
    suffices hR : Ans ys (ifs (decide ((start : Int) < (m : Int)) = true) (ifs (decide ((m : Int) < IntKind.i64.wrap ((n : Int) - (start : Int))) = true)
        (Option.bind (cR2 144 [] [inpF] [A.c (C.ow 0 ys.length), inj (.int .i64) (start : Int), inj (.int .i64) (m : Int), inj (.int .i64) (IntKind.i64.wrap ((n : Int) - (start : Int))), A.c (C.cl 45 []), inj inpF ((), ys)]) fun r => t1 ys.length (a : Int) (b : Int) (mid : Int) (start : Int) (IntKind.i64.wrap ((n : Int) - (start : Int))) r.2.2)
        (t1 ys.length (a : Int) (b : Int) (mid : Int) (start : Int) (IntKind.i64.wrap ((n : Int) - (start : Int))) ys)) (t1 ys.length (a : Int) (b : Int) (mid : Int) (start : Int) (IntKind.i64.wrap ((n : Int) - (start : Int))) ys)) by
      obtain ⟨z, e, f⟩ := hR
      refine ⟨z, cutG_step ((q123_33 ..).trans ?_), f⟩
      rw [ifs_neg (by simp; omega)]
      exact e
    rw [hend]
    by_cases c1 : start < m
    · rw [ifs_pos (by simp; omega)]
      by_cases c2 : m < n - start
      · rw [ifs_pos (by simp; omega)]
        obtain ⟨z, e, f⟩ := rotat_ok start m (n - start) ys.length ys rfl c1 c2 (by omega) hs.2
        rw [e, Option.bind_some]
        have := t1_ok ih ys.length a b mid start (n - start) z hd hd2 hm (by rw [f.1]; exact hb) (f.sz hs) f.1.symm
        exact this.from f
      · rw [ifs_neg (by simp; omega)]; exact hT
    · rw [ifs_neg (by simp; omega)]; exact hT
  | succ d ihd =>
    intro start r h1 h2 h3 h4
    by_cases hlt : start < r
    · have hmid := mid_ok start r (by omega)
      have hc1 : (start + r) / 2 < r := by omega
      have hc2 : start ≤ (start + r) / 2 := by omega
      have e1 : IntKind.i64.wrap ((((start + r) / 2 : Nat) : Int) + 1) = (((start + r) / 2 + 1 : Nat) : Int) := by rw [wr _ (by omega)]; omega
      have e2 : IntKind.i64.wrap (((n : Int) - 1) - (((start + r) / 2 : Nat) : Int)) = ((n - 1 - (start + r) / 2 : Nat) : Int) := by rw [wr _ (by omega)]; omega
      have r1 := ihd ((start + r) / 2 + 1) r (by omega) (by omega) (by omega) h4
      have r2 := ihd start ((start + r) / 2) (by omega) h2 (by omega) (by omega)
      have hm1 : ys[n - 1 - (start + r) / 2]'(by omega) ∈ ys := List.getElem_mem _
      have hm2 : ys[(start + r) / 2]'(by omega) ∈ ys := List.getElem_mem _
      by_cases hc : ordP (ys[n - 1 - (start + r) / 2]'(by omega)).1 (ys[(start + r) / 2]'(by omega)).1 < 0
      · obtain ⟨z, e, f⟩ := r2
        refine ⟨z, cutG_step ((q123_33 ..).trans ?_), f⟩
        rw [ifs_pos (by simp; omega), hmid, e2, ifs_pos (by omega), Int.toNat_natCast, at_ok (by omega), ifs_pos (by omega), Int.toNat_natCast, at_ok (by omega), torder_ok _ _ (hs.1 _ hm1) (hs.1 _ hm2), Option.bind_some, ifs_neg (by simpa using hc)]
        exact e
      · obtain ⟨z, e, f⟩ := r1
        refine ⟨z, cutG_step ((q123_33 ..).trans ?_), f⟩
        rw [ifs_pos (by simp; omega), hmid, e2, ifs_pos (by omega), Int.toNat_natCast, at_ok (by omega), ifs_pos (by omega), Int.toNat_natCast, at_ok (by omega), torder_ok _ _ (hs.1 _ hm1) (hs.1 _ hm2), Option.bind_some, ifs_pos (by simpa using hc), e1]
        exact e
    · have hz := h3
      have hsr : start = r := by omega
      -- as at the end
      have hend : IntKind.i64.wrap ((n : Int) - (start : Int)) = ((n - start : Nat) : Int) := by rw [wr _ (by omega)]; omega
      have hT := t1_ok ih ys.length a b mid start (n - start) ys hd hd2 hm hb hs rfl
      suffices hR : Ans ys (ifs (decide ((start : Int) < (m : Int)) = true) (ifs (decide ((m : Int) < IntKind.i64.wrap ((n : Int) - (start : Int))) = true)
          (Option.bind (cR2 144 [] [inpF] [A.c (C.ow 0 ys.length), inj (.int .i64) (start : Int), inj (.int .i64) (m : Int), inj (.int .i64) (IntKind.i64.wrap ((n : Int) - (start : Int))), A.c (C.cl 45 []), inj inpF ((), ys)]) fun r => t1 ys.length (a : Int) (b : Int) (mid : Int) (start : Int) (IntKind.i64.wrap ((n : Int) - (start : Int))) r.2.2)
          (t1 ys.length (a : Int) (b : Int) (mid : Int) (start : Int) (IntKind.i64.wrap ((n : Int) - (start : Int))) ys)) (t1 ys.length (a : Int) (b : Int) (mid : Int) (start : Int) (IntKind.i64.wrap ((n : Int) - (start : Int))) ys)) by
        obtain ⟨z, e, f⟩ := hR
        refine ⟨z, cutG_step ((q123_33 ..).trans ?_), f⟩
        rw [ifs_neg (by simp; omega)]
        exact e
      rw [hend]
      by_cases c1 : start < m
      · rw [ifs_pos (by simp; omega)]
        by_cases c2 : m < n - start
        · rw [ifs_pos (by simp; omega)]
          obtain ⟨z, e, f⟩ := rotat_ok start m (n - start) ys.length ys rfl c1 c2 (by omega) hs.2
          rw [e, Option.bind_some]
          have := t1_ok ih ys.length a b mid start (n - start) z hd hd2 hm (by rw [f.1]; exact hb) (f.sz hs) f.1.symm
          exact this.from f
        · rw [ifs_neg (by simp; omega)]; exact hT
      · rw [ifs_neg (by simp; omega)]; exact hT
theorem symm_ok : ∀ d, SymH d
  | 0 => fun a m b N ys h1 h2 h3 => by omega
  | d + 1 => by
    intro a m b N ys hd ham hmb hb hs hN
    have ih := symm_ok d
    have h100 := hs.2
    subst hN
    suffices hR : ∃ o, callG W0 (callW W0) (cutW W0) 123 [A.c (C.ow (0 : Nat) (List.length ys)), inj (.int .i64) (a : Int), inj (.int .i64) (m : Int), inj (.int .i64) (b : Int), A.c (C.cl 45 []), A.ag [C.sl ty35 ys]] = o ∧ Ans ys o by
      obtain ⟨o, e, z, e2, f⟩ := hR
      exact ⟨z, callT2_of (e.trans e2), f⟩
    refine ⟨_, e123 .., ?_⟩
    have e1 : IntKind.i64.wrap ((m : Int) - (a : Int)) = ((m - a : Nat) : Int) := by rw [wr _ (by omega)]; omega
    have e2 : IntKind.i64.wrap ((b : Int) - (m : Int)) = ((b - m : Nat) : Int) := by rw [wr _ (by omega)]; omega
    rw [e1, e2]
    by_cases c1 : m - a = 1
    · rw [ifs_pos (by simp; omega)]
      exact bin1_loop a ys hs (by omega) _ m b (Nat.le_refl _) (by omega) hb
    · rw [ifs_neg (by simp; omega)]
      by_cases c2 : b - m = 1
      · rw [ifs_pos (by simp; omega)]
        exact bin2_loop m ys hs (by omega) _ a m (Nat.le_refl _) (by omega) (by omega)
      · rw [ifs_neg (by simp; omega), mid_ok a b (by omega)]
        generalize hmid : (a + b) / 2 = mid
        have e3 : IntKind.i64.wrap ((mid : Int) + (m : Int)) = ((mid + m : Nat) : Int) := by rw [wr _ (by omega)]; omega
        have e4 : IntKind.i64.wrap (((mid + m : Nat) : Int) - 1) = ((mid + m : Nat) : Int) - 1 := wr _ (by omega)
        have e5 : m > mid → IntKind.i64.wrap (((mid + m : Nat) : Int) - (b : Int)) = ((mid + m - b : Nat) : Int) := fun h => by rw [wr _ (by omega)]; omega
        rw [e3, e4]
        by_cases c3 : m > mid
        · rw [ifs_pos (by simp; omega), e5 c3]
          exact mid_loop ih a m b mid (mid + m) ys hs hb (by omega) (by omega) (by omega) rfl hmb (mid + m - b) mid (by omega) (by omega) (by omega) _ _ _ (Nat.le_refl _) (Nat.le_refl _) (by omega) (Nat.le_refl _)
        · rw [ifs_neg (by simp; omega)]
          exact mid_loop ih a m b mid (mid + m) ys hs hb (by omega) (by omega) (by omega) rfl hmb a m (by omega) (by omega) (by omega) _ _ _ (Nat.le_refl _) (Nat.le_refl _) (by omega) (Nat.le_refl _)

/-! ### All blocks -/
theorem stab7_loop : ∀ (d bs : Nat) (ys : List Fil), ys.length - bs ≤ d → 0 < bs → bs ≤ 200000 → Sz ys → Ans ys (l85_7 ys.length (ys.length : Int) (bs : Int) ys)
  | 0, bs, ys, hd, h0, hb, hs => by
    refine ⟨ys, cutG_step ((q85_7 ..).trans ?_), .refl _⟩
    rw [ifs_neg (by simp; omega)]
  | d + 1, bs, ys, hd, h0, hb, hs => by
    have h100 := hs.2
    by_cases hlt : bs < ys.length
    · have inner : ∀ (e a : Nat) (zs : List Fil), zs.length - a ≤ e → zs.length = ys.length → Sz zs → a ≤ zs.length → Ans zs (l85_9 ys.length (ys.length : Int) (bs : Int) (a : Int) ((a + 2 * bs : Nat) : Int) zs) := by
        intro e
        induction e with
        | zero =>
          intro a zs he hz hsz ha
          have e1 : IntKind.i64.wrap ((a : Int) + (bs : Int)) = ((a + bs : Nat) : Int) := by rw [wr _ (by omega)]; omega
          have e2 : IntKind.i64.wrap ((bs : Int) * 2) = ((2 * bs : Nat) : Int) := by rw [wr _ (by omega)]; omega
          obtain ⟨z, h1, h2⟩ := stab7_loop d (2 * bs) zs (by omega) (by omega) (by omega) hsz
          refine ⟨z, cutG_step ((q85_9 ..).trans ?_), h2⟩
          rw [ifs_neg (by simp; omega), e1, ifs_neg (by simp; omega), e2]
          rw [hz] at h1; exact h1
        | succ e ihe =>
          intro a zs he hz hsz ha
          have e1 : IntKind.i64.wrap ((a : Int) + (bs : Int)) = ((a + bs : Nat) : Int) := by rw [wr _ (by omega)]; omega
          have e2 : IntKind.i64.wrap ((bs : Int) * 2) = ((2 * bs : Nat) : Int) := by rw [wr _ (by omega)]; omega
          have e3 : IntKind.i64.wrap ((2 : Int) * (bs : Int)) = ((2 * bs : Nat) : Int) := by rw [wr _ (by omega)]; omega
          by_cases c : a + 2 * bs ≤ ys.length
          · obtain ⟨z, h1, h2⟩ := symm_ok _ a (a + bs) (a + 2 * bs) ys.length zs (Nat.le_refl _) (by omega) (by omega) (by omega) hsz hz.symm
            obtain ⟨z2, h3, h4⟩ := ihe (a + 2 * bs) z (by rw [h2.1]; omega) (by rw [h2.1]; exact hz) (h2.sz hsz) (by rw [h2.1]; omega)
            have e4 : IntKind.i64.wrap (((a + 2 * bs : Nat) : Int) + ((2 * bs : Nat) : Int)) = ((a + 2 * bs + 2 * bs : Nat) : Int) := by rw [wr _ (by omega)]; omega
            refine ⟨z2, cutG_step ((q85_9 ..).trans ?_), h2.trans h4⟩
            have h1' := h1
            unfold symC at h1'
            rw [ifs_pos (by simp; omega), e1, h1', Option.bind_some, e3, e4]
            exact h3
          · by_cases c2 : a + bs < ys.length
            · obtain ⟨z, h1, h2⟩ := symm_ok _ a (a + bs) ys.length ys.length zs (Nat.le_refl _) (by omega) (by omega) (by omega) hsz hz.symm
              obtain ⟨z2, h3, h4⟩ := stab7_loop d (2 * bs) z (by rw [h2.1]; omega) (by omega) (by omega) (h2.sz hsz)
              refine ⟨z2, cutG_step ((q85_9 ..).trans ?_), h2.trans h4⟩
              have h1' := h1
              unfold symC at h1'
              rw [ifs_neg (by simp; omega), e1, ifs_pos (by simp; omega), h1', Option.bind_some, e2]
              rw [h2.1, hz] at h3; exact h3
            · obtain ⟨z, h1, h2⟩ := stab7_loop d (2 * bs) zs (by omega) (by omega) (by omega) hsz
              refine ⟨z, cutG_step ((q85_9 ..).trans ?_), h2⟩
              rw [ifs_neg (by simp; omega), e1, ifs_neg (by simp; omega), e2]
              rw [hz] at h1; exact h1
      obtain ⟨z, h1, h2⟩ := inner _ 0 ys (Nat.le_refl _) rfl hs (Nat.zero_le _)
      refine ⟨z, cutG_step ((q85_7 ..).trans ?_), h2⟩
      have e3 : IntKind.i64.wrap ((2 : Int) * (bs : Int)) = ((2 * bs : Nat) : Int) := by rw [wr _ (by omega)]; omega
      rw [ifs_pos (by simp; omega), e3]
      rw [Nat.zero_add] at h1
      exact h1
    · refine ⟨ys, cutG_step ((q85_7 ..).trans ?_), .refl _⟩
      rw [ifs_neg (by simp; omega)]
theorem stab2_loop : ∀ (d a : Nat) (ys : List Fil), ys.length - a ≤ d → a ≤ ys.length → Sz ys → Ans ys (l85_2 ys.length (ys.length : Int) 20 (a : Int) ((a + 20 : Nat) : Int) ys)
  | 0, a, ys, hd, ha, hs => by
    have h100 := hs.2
    obtain ⟨z, h1, h2⟩ := inss_ok a ys.length ys.length ys rfl (by omega) (Nat.le_refl _) hs
    obtain ⟨z2, h3, h4⟩ := stab7_loop _ 20 z (Nat.le_refl _) (by omega) (by omega) (h2.sz hs)
    refine ⟨z2, cutG_step ((q85_2 ..).trans ?_), h2.trans h4⟩
    rw [ifs_neg (by simp; omega), h1, Option.bind_some]
    rw [h2.1] at h3; exact h3
  | d + 1, a, ys, hd, ha, hs => by
    have h100 := hs.2
    by_cases c : a + 20 ≤ ys.length
    · obtain ⟨z, h1, h2⟩ := inss_ok a (a + 20) ys.length ys rfl (by omega) c hs
      obtain ⟨z2, h3, h4⟩ := stab2_loop d (a + 20) z (by rw [h2.1]; omega) (by rw [h2.1]; exact c) (h2.sz hs)
      refine ⟨z2, cutG_step ((q85_2 ..).trans ?_), h2.trans h4⟩
      have e4 : IntKind.i64.wrap (((a + 20 : Nat) : Int) + 20) = ((a + 20 + 20 : Nat) : Int) := by rw [wr _ (by omega)]; omega
      rw [ifs_pos (by simp; omega), h1, Option.bind_some, e4]
      rw [h2.1] at h3; exact h3
    · obtain ⟨z, h1, h2⟩ := inss_ok a ys.length ys.length ys rfl (by omega) (Nat.le_refl _) hs
      obtain ⟨z2, h3, h4⟩ := stab7_loop _ 20 z (Nat.le_refl _) (by omega) (by omega) (h2.sz hs)
      refine ⟨z2, cutG_step ((q85_2 ..).trans ?_), h2.trans h4⟩
      rw [ifs_neg (by simp; omega), h1, Option.bind_some]
      rw [h2.1] at h3; exact h3
theorem sortst_ok (ys : List Fil) (hs : Sz ys) : Ans2 ys (cR2 44 [] [inpF] [A.c (C.ow 0 ys.length), A.c (C.cl 45 []), inj inpF ((), ys)]) := by
  obtain ⟨z, h1, h2⟩ := stab2_loop _ 0 ys (Nat.le_refl _) (Nat.zero_le _) hs
  refine ⟨z, callT2_of ((e44 ..).trans ?_), h2⟩
  have h3 : cR2 85 [] [inpF] [A.c (C.ow 0 ys.length), inj (.int .i64) ((ys.length : Nat) : Int), A.c (C.cl 45 []), inj inpF ((), ys)] = some ((), ((), z)) := callT2_of ((e85 ..).trans h1)
  rw [h3, Option.bind_some]
  rfl

/-! ### tree.Of -/
theorem gd_nil (n : Nat) : Gd [] n := ⟨⟨List.Pairwise.nil, (fun f hf => (by cases hf)), Nat.zero_le _⟩, Nat.zero_le _, (fun f hf => (by cases hf))⟩
def comeP (l : List Fil) (f : Fil) : List Fil × Int :=
  if rightP f.1 = false then ([], 8) else if hasP l f.1 = true then ([], 10) else if dirB l (upP f.1) = false then ([], 9) else if checkL f.2.2 ≠ 0 then ([], checkL f.2.2) else if f.2.1 = true ∧ f.2.2 ≠ [] then ([], 6) else (put l f, 0)
theorem come_ok (l : List Fil) (hl : Tk l) (f : Fil) (hf : f.1.size ≤ 100000) (hls : LOk f.2.2) : cR 46 [RT.d ty31, RT.d (.int .i64)] [inj ty31 (l, ()), inj ty35 f] = some (((comeP l f).1, ()), (comeP l f).2) := by
  refine callT_of ((e46 (l, ()) f).trans ?_)
  have hu : (upP f.1).size ≤ 10000 := joinN_up_size f.1
  rw [pright_ok _ hf, Option.bind_some]
  unfold comeP
  cases hr : rightP f.1 with
  | false => rw [ifs_pos (by rfl), if_pos rfl]
  | true =>
    rw [ifs_neg (by simp), if_neg (by simp), get_ok l hl _ hf, Option.bind_some, lcheck_ok _ hls, Option.bind_some, getP_snd]
    cases hh : hasP l f.1 with
    | true => rw [ifs_pos rfl, if_pos rfl]
    | false =>
      rw [ifs_neg (by simp), if_neg (by simp), pdir_ok _ hf, Option.bind_some, tdir_ok l hl _ (by omega), Option.bind_some]
      cases hd : dirB l (upP f.1) with
      | false => rw [ifs_pos (by rfl), if_pos rfl]
      | true =>
        rw [ifs_neg (by simp), if_neg (by simp)]
        by_cases hc : checkL f.2.2 = 0
        · rw [ifs_neg (by simp [hc]), if_neg (by simp [hc])]
          obtain ⟨h1, h2⟩ := checkL_LOk hc
          have hw := with_ok l hl f ⟨hr, h1, by omega⟩
          cases hk : f.2.1 with
          | false => rw [ifs_neg (by simp), if_neg (by simp), hw, Option.bind_some]
          | true =>
            rw [ifs_pos rfl, lenpos]
            by_cases h0 : f.2.2 = []
            · rw [ifs_neg (by simp [h0]), if_neg (by simp [h0]), hw, Option.bind_some]
            · rw [ifs_pos (by simpa using h0), if_pos ⟨rfl, h0⟩]
        · rw [ifs_pos (by simpa using hc), if_pos hc]
end Go.Proofs.YtabhngbpkfdeiaaGreatDoor.Sp
end
section
/- Two steps that change places come to the same map. Conditions: the steps may be, and the lengths as they stand in each statement. -/
set_option linter.unusedVariables false
set_option linter.unusedSimpArgs false
namespace Go.Proofs.YtabhngbpkfdeiaaGreatDoor.Sp
open Go Go.Proofs.YtabhngbpkfdeiaaGreatDoor.Ab Go.Proofs.YtabhngbpkfdeiaaGreatDoor.Tb Go.Proofs.YtabhngbpkfdeiaaGreatDoor.EText

theorem apart_spec {p q : Prm} (h : apartB p q = true) : (chk p = 0 ∧ chk q = 0) ∧ ∀ a ∈ touchesL p, ∀ b ∈ touchesL q, a ≠ b ∧ aboveB q a = false ∧ aboveB p b = false := by
  unfold apartB at h
  simp only [Bool.and_eq_true, decide_eq_true_eq, Bool.not_eq_true', List.any_eq_false, Bool.or_eq_true, not_or] at h
  obtain ⟨h1, h2, h3, h4⟩ := h
  have hc : ∀ r : Prm, touchesL r ≠ [] → chk r = 0 := fun r hr => by
    unfold touchesL at hr
    by_cases hc : chk r = 0
    · exact hc
    · rw [if_pos hc] at hr; exact absurd rfl hr
  refine ⟨⟨hc p h1, hc q h2⟩, fun a ha b hb => ⟨fun e => ?_, ?_, ?_⟩⟩
  · have h5 := (h3 a ha).1
    rw [Bool.not_eq_true, List.any_eq_false] at h5
    have := h5 b hb
    simp [e] at this
  · have := (h3 a ha).2
    simpa using this
  · have := h4 b hb
    simpa using this
/-! ### What a step leaves as it is, and what it asks -/
/-! ### Two hunks of one file -/
end Go.Proofs.YtabhngbpkfdeiaaGreatDoor.Sp
end
section
/- Steps that pass rows, in plain words. No condition: these are definitions. -/
namespace Go.Proofs.YtabhngbpkfdeiaaGreatDoor.Sp
open Go Go.Proofs.YtabhngbpkfdeiaaGreatDoor.Ab Go.Proofs.YtabhngbpkfdeiaaGreatDoor.Tb Go.Proofs.YtabhngbpkfdeiaaGreatDoor.EText

end Go.Proofs.YtabhngbpkfdeiaaGreatDoor.Sp
end
section
/- Rows of steps on maps; rows that change places, and a step that comes to the front, come to the same map. Conditions: the lengths as they stand in each statement. -/
set_option linter.unusedVariables false
set_option linter.unusedSimpArgs false
namespace Go.Proofs.YtabhngbpkfdeiaaGreatDoor.Sp
open Go Go.Proofs.YtabhngbpkfdeiaaGreatDoor.Ab Go.Proofs.YtabhngbpkfdeiaaGreatDoor.Tb Go.Proofs.YtabhngbpkfdeiaaGreatDoor.EText

/-- Files of at most so many lines, each of them right. -/
def Bm (m : Mp) (k : Nat) : Prop := ∀ x e, m x = some e → e.2.length ≤ k ∧ e.2.all lineB = true
theorem checkL_all {l : List Txt} (h : checkL l = 0) : l.all lineB = true := by
  unfold checkL at h
  split at h
  · cases h
  · split at h
    · rename_i h2; exact h2
    · cases h
theorem Bm.upd {m : Mp} {k : Nat} (h : Bm m k) (p : Txt) (v : Option En) (hv : ∀ e, v = some e → e.2.length ≤ k ∧ e.2.all lineB = true) : Bm (upd m p v) k := fun x e hx => by
  unfold Sp.upd at hx
  split at hx
  · exact hv e hx
  · exact h x e hx
theorem Bm.weak {m : Mp} {k j : Nat} (h : Bm m k) (hk : k ≤ j) : Bm m j := fun x e hx => ⟨Nat.le_trans (h x e hx).1 hk, (h x e hx).2⟩
/-! ### Rows done to files -/
/-! ### Steps that change places -/
/-! ### Rows -/
end Go.Proofs.YtabhngbpkfdeiaaGreatDoor.Sp
end
section
/- Two steps that have changed places change back. Conditions: lengths and places as they stand in each statement. -/
set_option linter.unusedVariables false
set_option linter.unusedSimpArgs false
namespace Go.Proofs.YtabhngbpkfdeiaaGreatDoor.Sp
open Go Go.Proofs.YtabhngbpkfdeiaaGreatDoor.Ab Go.Proofs.YtabhngbpkfdeiaaGreatDoor.Tb Go.Proofs.YtabhngbpkfdeiaaGreatDoor.EText

end Go.Proofs.YtabhngbpkfdeiaaGreatDoor.Sp
end
section
/- prim.Apply and prim.All in plain words. Conditions: lengths as they stand in each statement. -/
set_option linter.unusedVariables false
set_option linter.unusedSimpArgs false
namespace Go.Proofs.YtabhngbpkfdeiaaGreatDoor.Sp
open Go Go.Proofs.YtabhngbpkfdeiaaGreatDoor.Ab Go.Proofs.YtabhngbpkfdeiaaGreatDoor.Tb Go.Proofs.YtabhngbpkfdeiaaGreatDoor.EText

abbrev hk (p : Prm) : Int × List Txt × List Txt := p.2.2.2
theorem dcheck1_ok (p : Prm) (h0 : 0 ≤ p.2.2.2.1) (h1 : p.2.2.2.2.1.length + p.2.2.2.2.2.length ≠ 0) (hm : Md p) : cR 131 [RT.d (.int .i64)] [inj (.sl ty43) [hk p]] = some 0 := by
  have e1 : IntKind.i64.wrap ((0 : Int) + 1) = 1 := wr _ (by omega)
  have e2 : IntKind.i64.wrap ((p.2.2.2.2.1.length : Int) + (p.2.2.2.2.2.length : Int)) = ((p.2.2.2.2.1.length + p.2.2.2.2.2.length : Nat) : Int) := by
    have := hm.old.1; have := hm.new.1
    rw [wr _ (by omega)]; omega
  have hend : l131_2 [hk p] [hk p] 1 1 = some (injRs [RT.d (.int .i64)] 0) := by
    refine cutG_step ((q131_2 ..).trans ?_)
    rw [ifs_neg (by simp)]
  have hst : l131_2 [hk p] [hk p] 1 0 = some (injRs [RT.d (.int .i64)] 0) := by
    refine cutG_step ((q131_2 ..).trans ?_)
    rw [ifs_pos (by simp), ifs_pos (by omega), show ([hk p] : List (Int × List Txt × List Txt))[Int.toNat 0]? = some (hk p) from rfl, Option.bind_some, ifs_pos (by simp; omega), e2, ifs_pos (by simp; omega), ifs_neg (by simp), e1]
    exact hend
  exact callT_of ((e131 [hk p]).trans hst)
theorem dapply1_ok (ls : List Txt) (p : Prm) (h0 : 0 ≤ p.2.2.2.1) (h1 : p.2.2.2.2.1.length + p.2.2.2.2.2.length ≠ 0) (hm : Md p) (hls : ls.length ≤ 100000) :
    cR 95 [RT.own 9 .str, RT.d (.int .i64)] [inj (.sl .str) ls, inj (.sl ty43) [hk p]] = some (match hdo ls p with | some x => (x, 0) | none => ([], 13)) := by
  have ho := hm.old.1
  have hw := hm.new.1
  have hw' : (hk p).2.2.length ≤ 1000000 := hw
  refine callT_of ((e95 ls [hk p]).trans ?_)
  rw [dcheck1_ok p h0 h1 hm, Option.bind_some, ifs_neg (by simp)]
  refine cutG_step ((q95_7 ..).trans ?_)
  rw [ifs_pos (by simp), ifs_pos (by omega), show ([hk p] : List (Int × List Txt × List Txt))[Int.toNat 0]? = some (hk p) from rfl, Option.bind_some]
  obtain ⟨n, hn⟩ : ∃ n : Nat, p.2.2.2.1 = n := ⟨p.2.2.2.1.toNat, by omega⟩
  unfold hdo
  show ifs (decide (p.2.2.2.1 > (ls.length : Int)) = false) _ _ = _
  rw [hn, Int.toNat_natCast]
  by_cases c1 : n > ls.length
  · rw [ifs_neg (by simp; omega), if_neg (by omega)]
  · rw [ifs_pos (by simp; omega)]
    show ifs (decide ((p.2.2.2.2.1.length : Int) > IntKind.i64.wrap ((ls.length : Int) - (n : Int))) = false) _ _ = _
    have e1 : IntKind.i64.wrap ((ls.length : Int) - (n : Int)) = (ls.length : Int) - (n : Int) := wr _ (by omega)
    rw [e1]
    by_cases c2 : p.2.2.2.2.1.length > ls.length - n
    · rw [ifs_neg (by simp; omega), if_neg (by omega)]
    · rw [ifs_pos (by simp; omega)]
      have e2 : IntKind.i64.wrap ((n : Int) + (p.2.2.2.2.1.length : Int)) = ((n + p.2.2.2.2.1.length : Nat) : Int) := by rw [wr _ (by omega)]; omega
      simp only [e2]
      rw [ifs_pos (by omega), ifs_pos (by omega)]
      simp only [Int.toNat_natCast]
      rw [lsame_ok _ _ (by rw [List.length_drop, List.length_take]; have : (100000 : Nat) ≤ top := by decide
                           omega), Option.bind_some]
      have e3 : List.drop n (List.take (n + p.2.2.2.2.1.length) ls) = (ls.drop n).take p.2.2.2.2.1.length := by rw [List.drop_take]; congr 1; omega
      rw [e3]
      by_cases c3 : (ls.drop n).take p.2.2.2.2.1.length = p.2.2.2.2.1
      · rw [ifs_neg (by simp [c3]), ifs_pos (by omega), ifs_pos (by omega), if_pos ⟨by omega, c3⟩]
        have e4 : IntKind.i64.wrap ((0 : Int) + 1) = 1 := wr _ (by omega)
        rw [ifs_pos (by simp only [List.length_nil, List.length_drop, List.length_take]; omega), ifs_pos (by simp only [List.length_nil, List.length_drop, List.length_take, List.length_append]; omega), e4]
        refine cutG_step ((q95_7 ..).trans ?_)
        rw [ifs_neg (by simp), ifs_pos (by omega), ifs_pos (by omega)]
        rw [ifs_pos (by simp only [List.length_nil, List.length_drop, List.length_take, List.length_append, Int.toNat_natCast]; omega)]
        simp only [Int.toNat_natCast, List.take_length, List.take_nil, List.nil_append, Int.toNat_zero, List.drop_zero]
      · rw [ifs_pos (by simp [c3]), if_neg (by rintro ⟨_, h⟩; exact c3 h)]
theorem pgone_ok (l : List Fil) (hl : Tk l) (p : Txt) (hp : p.size ≤ 100000) (d : Bool) : cR 50 [RT.d ty31, RT.d (.int .i64)] [inj ty31 (l, ()), inj .str p, inj .bool d] = some (((goneP l p d).1, ()), (goneP l p d).2) := by
  refine callT_of ((e50 (l, ()) p d).trans ?_)
  rw [get_ok l hl p hp, Option.bind_some, getP_snd]
  unfold goneP
  cases hh : hasP l p with
  | false => rw [ifs_pos (by rfl), if_pos rfl]
  | true =>
    rw [ifs_neg (by simp), if_neg (by simp)]
    by_cases hd : (getP l p).1.2.1 = d
    · rw [ifs_neg (by simp [hd]), if_neg (by simp [hd]), lenpos]
      by_cases h0 : (getP l p).1.2.2 = []
      · rw [ifs_neg (by simp [h0]), if_neg (by simp [h0]), remove_ok l hl p hp, Option.bind_some]
      · rw [ifs_pos (by simpa using h0), if_pos h0]
    · rw [ifs_pos (by simpa using hd), if_pos hd]
theorem write2_ok (l : List Fil) (hl : Tk l) (p : Txt) (hp : p.size ≤ 100000) (ls : List Txt) (hls : LOk ls) : cR 53 [RT.d ty31, RT.d (.int .i64)] [inj ty31 (l, ()), inj .str p, inj (.sl .str) ls] = some (((wrP l p ls).1, ()), (wrP l p ls).2) := by
  refine callT_of ((e53 (l, ()) p ls).trans ?_)
  rw [pright_ok p hp, Option.bind_some, get_ok l hl p hp, Option.bind_some, getP_snd, room_ok l hl p hp, Option.bind_some, lcheck_ok ls hls, Option.bind_some]
  unfold wrP
  cases hr : rightP p with
  | false => rw [ifs_pos (by rfl), if_pos rfl]
  | true =>
    rw [ifs_neg (by simp), if_neg (by simp)]
    cases hd : (getP l p).1.2.1 with
    | true => rw [ifs_pos rfl, if_pos rfl]
    | false =>
      rw [ifs_neg (by simp), if_neg (by simp)]
      by_cases hc : checkL ls = 0
      · rw [ifs_neg (by simp [hc]), if_neg (by simp [hc])]
        have h2 := (checkL_LOk hc).2
        have hw := with_ok l hl (p, false, ls) ⟨hr, hls, (by show ls.length ≤ 3000; omega)⟩
        by_cases h0 : roomB l p = 0
        · rw [ifs_neg (by simp [h0]), if_neg (by simp [h0]), hw, Option.bind_some]
        · rw [ifs_pos (by simpa using h0)]
          cases hh : hasP l p with
          | false => rw [ifs_pos (by rfl), if_pos ⟨h0, rfl⟩]
          | true => rw [ifs_neg (by simp), if_neg (by simp), hw, Option.bind_some]
      · rw [ifs_pos (by simpa using hc), if_pos hc]
theorem hdo_LOk {ls x : List Txt} {p : Prm} (hm : Md p) (h : hdo ls p = some x) (hl : LOk ls) (hn : ls.length ≤ 100000) : LOk x := by
  unfold hdo at h
  split at h
  · cases h
    have := hm.new.1
    have ht : (10000000 : Nat) ≤ top := by decide
    refine ⟨by simp only [List.length_append, List.length_take, List.length_drop]; omega, fun s hs => ?_⟩
    rcases List.mem_append.1 hs with hs | hs
    · rcases List.mem_append.1 hs with hs | hs
      · exact hl.2 s (List.mem_of_mem_take hs)
      · exact hm.new.ok.2 s hs
    · exact hl.2 s (List.mem_of_mem_drop hs)
  · cases h
theorem phunk_ok (l : List Fil) (hl : Tk l) (p : Prm) (hm : Md p) (hc : chk p = 0) (k : p.1 = 6) : cR 52 [RT.d ty31, RT.d (.int .i64)] [inj ty31 (l, ()), inj ty40 p] = some (((hunkP l p).1, ()), (hunkP l p).2) := by
  have h6 := chk_hunk hc k
  refine callT_of ((e52 (l, ()) p).trans ?_)
  rw [get_ok l hl _ hm.path, Option.bind_some, getP_snd]
  unfold hunkP
  cases hh : hasP l p.2.1 with
  | false => rw [ifs_pos (by rfl), if_pos rfl]
  | true =>
    have hf := hl.f _ (getP_mem hh).1
    rw [ifs_neg (by simp), if_neg (by simp)]
    cases hd : (getP l p.2.1).1.2.1 with
    | true => rw [ifs_pos rfl, if_pos rfl]
    | false =>
      have hn := hf.n
      have ha := dapply1_ok (getP l p.2.1).1.2.2 p h6.1 h6.2.1 hm (by omega)
      rw [ifs_neg (by simp), if_neg (by simp)]
      refine (congrArg (fun o => Option.bind o _) ha).trans ?_
      rw [Option.bind_some]
      cases hx : hdo (getP l p.2.1).1.2.2 p with
      | none =>
        simp only
        rw [ifs_pos (by simp)]
      | some x =>
        simp only
        rw [ifs_neg (by simp), List.take_length, write2_ok l hl _ hm.path x (hdo_LOk hm hx hf.l (by omega)), Option.bind_some]
theorem papply_ok (l : List Fil) (hl : Tk l) (p : Prm) (hm : Md p) : cR 15 [RT.d ty31, RT.d (.int .i64)] [inj ty31 (l, ()), inj ty40 p] = some (((applyP l p).1, ()), (applyP l p).2) := by
  refine callT_of ((e15 (l, ()) p).trans ?_)
  rw [pcheck_ok p hm, Option.bind_some]
  unfold applyP
  by_cases hc : chk p = 0
  · rw [ifs_neg (by simp [hc]), if_neg (by simp [hc])]
    by_cases k1 : p.1 = 1
    · rw [ifs_pos (by simp [k1]), if_pos k1, mkdir_ok l hl _ hm.path, Option.bind_some]
    rw [ifs_neg (by simpa using k1), if_neg k1]
    by_cases k2 : p.1 = 2
    · rw [ifs_pos (by simp [k2]), if_pos (.inl k2), show (p.1 == (2 : Int)) = decide (p.1 = 2) from rfl, pgone_ok l hl _ hm.path, Option.bind_some]
    rw [ifs_neg (by simpa using k2)]
    by_cases k4 : p.1 = 4
    · rw [ifs_pos (by simp [k4]), if_pos (.inr k4), show (p.1 == (2 : Int)) = decide (p.1 = 2) from rfl, pgone_ok l hl _ hm.path, Option.bind_some]
    rw [ifs_neg (by simpa using k4), if_neg (by omega)]
    by_cases k5 : p.1 = 5
    · rw [ifs_pos (by simp [k5]), if_pos k5, move_ok l hl _ _ hm.path hm.dst, Option.bind_some]
    rw [ifs_neg (by simpa using k5), if_neg k5]
    by_cases k6 : p.1 = 6
    · rw [ifs_pos (by simp [k6]), if_pos k6, phunk_ok l hl p hm hc k6, Option.bind_some]
    rw [ifs_neg (by simpa using k6), if_neg k6, get_ok l hl _ hm.path, Option.bind_some, getP_snd]
    cases hh : hasP l p.2.1 with
    | true => rw [ifs_pos rfl, if_pos rfl]
    | false =>
      rw [ifs_neg (by simp), if_neg (by simp), write2_ok l hl _ hm.path [] ⟨Nat.zero_le _, fun s hs => (by cases hs)⟩, Option.bind_some]
  · rw [ifs_pos (by simpa using hc), if_pos hc]
/-! ### tree.Same; light files -/
theorem light3_spec {l : List Txt} (h : light3 l = true) : l.length ≤ 60 ∧ ∀ s ∈ l, s.size ≤ 300 := by
  unfold light3 at h
  simp only [Bool.and_eq_true, List.all_eq_true, decide_eq_true_eq] at h
  exact ⟨h.2, h.1⟩
end Go.Proofs.YtabhngbpkfdeiaaGreatDoor.Sp
end
section
/- How a row of files, and a law's struct of them, stand in memory. No condition. -/
set_option linter.unusedVariables false
namespace Go.Proofs.YtabhngbpkfdeiaaGreatDoor.SpR
open Go Go.ChangeShapes Go.WideShapes Go.Proofs.YtabhngbpkfdeiaaGreatDoor.Ab Go.Proofs.YtabhngbpkfdeiaaGreatDoor.AbO Go.Proofs.YtabhngbpkfdeiaaGreatDoor.Tb
end Go.Proofs.YtabhngbpkfdeiaaGreatDoor.SpR
namespace Go.Proofs.YtabhngbpkfdeiaaGreatDoor.Sp
open Go
theorem lenF_of {n : Nat} (h : n ≤ maxLen) : n ≤ top := Nat.le_trans h (by decide)
end Go.Proofs.YtabhngbpkfdeiaaGreatDoor.Sp
end
section
/- The laws FusePairs and FuseAll as plain Lean: each answers true. Conditions: lengths and numbers are those of the machine. -/
set_option linter.unusedVariables false
set_option linter.unusedSimpArgs false
namespace Go.Proofs.YtabhngbpkfdeiaaGreatDoor.Sp
open Go Go.Proofs.YtabhngbpkfdeiaaGreatDoor.Ab Go.Proofs.YtabhngbpkfdeiaaGreatDoor.Tb Go.Proofs.YtabhngbpkfdeiaaGreatDoor.EText

/-- An answer found by running the machine. -/
theorem callT_ofN {f : FuncId} {args : List A} {rts : List RT} {d : dens rts} (k : Nat) (h : callN W0 k f args = some (injRs rts d)) : cR f rts args = some d := by
  show (callW W0 f args).bind (prjRs rts) = some d
  have : callW W0 f args = some (injRs rts d) := limO_of (fun k q x hkq hx => callN_le hkq hx) h
  rw [this]
  exact prj_injRs rts d

/-! ### FuseAll -/
/-! ### FusePairs -/
end Go.Proofs.YtabhngbpkfdeiaaGreatDoor.Sp
end
section
/- The law CommuteThree as plain Lean: it answers true. Conditions: lengths and numbers are those of the machine. -/
set_option linter.unusedVariables false
set_option linter.unusedSimpArgs false
namespace Go.Proofs.YtabhngbpkfdeiaaGreatDoor.Sp
open Go Go.Proofs.YtabhngbpkfdeiaaGreatDoor.Ab Go.Proofs.YtabhngbpkfdeiaaGreatDoor.Tb Go.Proofs.YtabhngbpkfdeiaaGreatDoor.EText

/-- Where two hunks stand the other way round. -/
def Step (same : Prop) (P pn po Q qn qo Q' P' : Int) : Prop :=
  (¬ same ∧ Q' = Q ∧ P' = P) ∨ (same ∧ W64 (Q - pn) > P ∧ Q' = W64 (Q - W64 (pn - po)) ∧ P' = P) ∨ (same ∧ ¬ W64 (Q - pn) > P ∧ W64 (P - qo) > Q ∧ Q' = Q ∧ P' = W64 (P + W64 (qn - qo)))

/-- Of hunks in their range: no number is too great. -/
theorem Step.plain {same : Prop} {P pn po Q qn qo Q' P' : Int} (h : Step same P pn po Q qn qo Q' P') (hP : 0 ≤ P ∧ P ≤ 9223372036854775807) (hQ : 0 ≤ Q ∧ Q ≤ 9223372036854775807) (l1 : 0 ≤ pn ∧ pn ≤ 60) (l2 : 0 ≤ po ∧ po ≤ 60) (l3 : 0 ≤ qn ∧ qn ≤ 60) (l4 : 0 ≤ qo ∧ qo ≤ 60) :
    (¬ same ∧ Q' = Q ∧ P' = P) ∨ (same ∧ Q - pn > P ∧ Q' = W64 (Q - (pn - po)) ∧ P' = P) ∨ (same ∧ ¬ Q - pn > P ∧ P - qo > Q ∧ Q' = Q ∧ P' = W64 (P + (qn - qo))) := by
  unfold Step W64 at h
  unfold W64
  rw [wr (Q - pn) ⟨by omega, by omega⟩, wr (P - qo) ⟨by omega, by omega⟩, wr (pn - po) ⟨by omega, by omega⟩, wr (qn - qo) ⟨by omega, by omega⟩] at h
  exact h

end Go.Proofs.YtabhngbpkfdeiaaGreatDoor.Sp
end
section
/- The law CommuteThree as plain Lean: it answers true. Conditions: lengths and numbers are those of the machine. -/
set_option linter.unusedVariables false
set_option linter.unusedSimpArgs false
namespace Go.Proofs.YtabhngbpkfdeiaaGreatDoor.Sp
open Go Go.Proofs.YtabhngbpkfdeiaaGreatDoor.Ab Go.Proofs.YtabhngbpkfdeiaaGreatDoor.Tb Go.Proofs.YtabhngbpkfdeiaaGreatDoor.EText

theorem Md.setAt {p : Prm} (h : Md p) (n : Int) : Md (setAt p n) := ⟨h.path, h.dst, h.old, h.new⟩
end Go.Proofs.YtabhngbpkfdeiaaGreatDoor.Sp
end
section
/- CommuteSame answers true. Conditions: what the parameters' kinds tell. -/
set_option linter.unusedVariables false
set_option linter.unusedSimpArgs false
namespace Go.Proofs.YtabhngbpkfdeiaaGreatDoor.Sp
open Go Go.Proofs.YtabhngbpkfdeiaaGreatDoor.Ab Go.Proofs.YtabhngbpkfdeiaaGreatDoor.Tb Go.Proofs.YtabhngbpkfdeiaaGreatDoor.EText

end Go.Proofs.YtabhngbpkfdeiaaGreatDoor.Sp
end
section
/- What steps become comes to the same map as they do; and no neighbours are left that become one. Conditions: as they stand in each statement. -/
set_option linter.unusedVariables false
set_option linter.unusedSimpArgs false
namespace Go.Proofs.YtabhngbpkfdeiaaGreatDoor.Sp
open Go Go.Proofs.YtabhngbpkfdeiaaGreatDoor.Ab Go.Proofs.YtabhngbpkfdeiaaGreatDoor.Tb Go.Proofs.YtabhngbpkfdeiaaGreatDoor.EText

/-! ### Two hunks as one -/
/-! ### All steps -/
end Go.Proofs.YtabhngbpkfdeiaaGreatDoor.Sp
end
section
/- What takes a step back does so; directories stay above what lies in them. Conditions: as they stand in each statement. -/
set_option linter.unusedVariables false
set_option linter.unusedSimpArgs false
namespace Go.Proofs.YtabhngbpkfdeiaaGreatDoor.Sp
open Go Go.Proofs.YtabhngbpkfdeiaaGreatDoor.Ab Go.Proofs.YtabhngbpkfdeiaaGreatDoor.Tb Go.Proofs.YtabhngbpkfdeiaaGreatDoor.EText

end Go.Proofs.YtabhngbpkfdeiaaGreatDoor.Sp
end
section
/- What each function comes to on data: printed equations. No condition. -/
set_option linter.unusedVariables false
set_option maxRecDepth 100000
namespace Go.Proofs.YtabhngbpkfdeiaaGreatDoor.Tb
open Go Go.Proofs.YtabhngbpkfdeiaaGreatDoor.Ab
end Go.Proofs.YtabhngbpkfdeiaaGreatDoor.Tb
end
section
/- What each function comes to on data: printed equations. No condition. -/
set_option linter.unusedVariables false
set_option maxRecDepth 100000
namespace Go.Proofs.YtabhngbpkfdeiaaGreatDoor.Tb
open Go Go.Proofs.YtabhngbpkfdeiaaGreatDoor.Ab
noncomputable def td4_10 : List Item := (findT (code Tryz.f4) [] 10).getD []
noncomputable def l4_10 (x0 : List (Int × ByteArray × ByteArray × Int × List ByteArray × List ByteArray)) (x1 : Int) (x2 : Int) (x3 : Int) (x4 : List (ByteArray × Bool × List ByteArray)) (x5 : List (ByteArray × Bool × List ByteArray)) (x6 : List (ByteArray × Bool × List ByteArray)) : Option (List RV) := cutW W0 n4 td4_10 { fr := [((1 : Nat), F.a (A.c (C.sl ty40 x0))), ((5 : Nat), F.a (A.c (C.pt (Pt.own (0 : Nat) (0 : Nat) (0 : Nat))))), ((7 : Nat), F.a (A.c (C.pt (Pt.own (1 : Nat) (0 : Nat) (0 : Nat))))), ((8 : Nat), F.a (A.c (C.sc (Go.Value.int Go.IntKind.i64 x1)))), ((9 : Nat), F.a (A.c (C.ow (2 : Nat) (List.length x6)))), ((10 : Nat), F.a (A.c (C.sc (Go.Value.int Go.IntKind.i64 x2)))), ((11 : Nat), F.a (A.c (C.sc (Go.Value.int Go.IntKind.i64 x3))))], mem := [some (Row.box (31 : Nat) (some ty31) [C.sl ty35 x4] false), some (Row.box (31 : Nat) (some ty31) [C.sl ty35 x5] false), some (Row.arr (35 : Nat) ty35 x6 false)], nx := (3 : Nat) }
theorem e4 (a0 : List (ByteArray × Bool × List ByteArray)) (a1 : List (Int × ByteArray × ByteArray × Int × List ByteArray × List ByteArray)) : callG W0 (callW W0) (cutW W0) 4 [inj (Ty.sl ty35) a0, inj (Ty.sl ty40) a1] = Option.bind (cR (nat_lit 19) [RT.d Ty.bool] [inj (Ty.sl ty35) a0]) fun r => ifs ((!r) = false) (Option.bind (cR (nat_lit 20) [RT.d Ty.bool] [inj (Ty.sl ty40) a1]) fun r => ifs ((!r) = true) (Option.bind (cR (nat_lit 12) [RT.d Ty.bool] []) fun r => some (injRs [RT.d Ty.bool] r)) (Option.bind (cR (nat_lit 13) [RT.d ty31, RT.d (Ty.int Go.IntKind.i64)] [inj (Ty.sl ty35) a0]) fun r => ifs ((r.snd != (0 : Int)) = true) (Option.bind (cR (nat_lit 12) [RT.d Ty.bool] []) fun r => some (injRs [RT.d Ty.bool] r)) (Option.bind (cR (nat_lit 21) [RT.d ty31, RT.d (Ty.int Go.IntKind.i64)] [inj ty31 (r.fst.fst, ()), inj (Ty.sl ty40) a1]) fun r_1 => Option.bind (cR (nat_lit 22) [RT.own (35 : Go.TypeId) ty35] [inj ty31 (r.fst.fst, ())]) fun r_2 => l4_10 a1 r_1.snd (0 : Int) (0 : Int) r.fst.fst r_1.fst.fst r_2))) (Option.bind (cR (nat_lit 12) [RT.d Ty.bool] []) fun r => some (injRs [RT.d Ty.bool] r)) := by kernel_rfl
theorem e16 (a0 : ByteArray) (a1 : Int × List ByteArray × List ByteArray) : callG W0 (callW W0) (cutW W0) 16 [inj Ty.str a0, inj ty43 a1] = Option.bind (cR (nat_lit 54) [RT.own (9 : Go.TypeId) Ty.str] [inj (Ty.sl Ty.str) a1.snd.fst]) fun r => Option.bind (cR (nat_lit 54) [RT.own (9 : Go.TypeId) Ty.str] [inj (Ty.sl Ty.str) a1.snd.snd]) fun r_1 => some (injRs [RT.d ty40] ((6 : Int), a0, { data := #[] }, a1.fst, List.take (List.length r) r, List.take (List.length r_1) r_1)) := by kernel_rfl
theorem e90 (a0 : List ByteArray) : callG W0 (callW W0) (cutW W0) 90 [inj (Ty.sl Ty.str) a0] = ifs (decide ((↑(List.length a0) : Int) > (400 : Int)) = true) (ifs ((0 : Int) ≤ (400 : Int) ∧ (400 : Int) ≤ (↑(List.length a0) : Int)) (some (injRs [RT.d (Ty.sl Ty.str)] (List.drop (Int.toNat (0 : Int)) (List.take (Int.toNat (400 : Int)) a0)))) none) (some (injRs [RT.d (Ty.sl Ty.str)] a0)) := by kernel_rfl
noncomputable def td14_8 : List Item := (findT (code Tryz.f14) [] 8).getD []
noncomputable def l14_8 (x0 : List ByteArray) (x1 : List ByteArray) (x2 : Int) (x3 : Int) (x4 : List (List Int)) (x5 : Int) (x6 : List (Int × List ByteArray × List ByteArray)) (x7 : List ByteArray) (x8 : List ByteArray) : Option (List RV) := cutW W0 n14 td14_8 { fr := [((0 : Nat), F.a (A.c (C.sl Ty.str x0))), ((1 : Nat), F.a (A.c (C.sl Ty.str x1))), ((5 : Nat), F.a (A.c (C.ow (0 : Nat) (List.length x4)))), ((6 : Nat), F.a (A.c (C.ow (2 : Nat) (List.length x6)))), ((7 : Nat), F.a (A.c (C.pt (Pt.own (1 : Nat) (0 : Nat) (0 : Nat))))), ((8 : Nat), F.a (A.c (C.sc (Go.Value.int Go.IntKind.i64 x2)))), ((9 : Nat), F.a (A.c (C.sc (Go.Value.int Go.IntKind.i64 x3))))], mem := [some (Row.arr (81 : Nat) (Ty.sl (Ty.int Go.IntKind.i64)) x4 false), some (Row.box (43 : Nat) (some ty43) [C.sc (Go.Value.int Go.IntKind.i64 x5), C.ow (3 : Nat) (List.length x7), C.ow (4 : Nat) (List.length x8)] false), some (Row.arr (43 : Nat) ty43 x6 false), some (Row.arr (9 : Nat) Ty.str x7 false), some (Row.arr (9 : Nat) Ty.str x8 false)], nx := (5 : Nat) }
noncomputable def l14_8v1 (x0 : List ByteArray) (x1 : List ByteArray) (x2 : Int) (x3 : Int) (x4 : List (List Int)) (x5 : List (Int × List ByteArray × List ByteArray)) (x6 : Int) (x7 : List ByteArray) (x8 : List ByteArray) : Option (List RV) := cutW W0 n14 td14_8 { fr := [((0 : Nat), F.a (A.c (C.sl Ty.str x0))), ((1 : Nat), F.a (A.c (C.sl Ty.str x1))), ((5 : Nat), F.a (A.c (C.ow (0 : Nat) (List.length x4)))), ((6 : Nat), F.a (A.c (C.ow (1 : Nat) (List.length x5)))), ((7 : Nat), F.a (A.c (C.pt (Pt.own (2 : Nat) (0 : Nat) (0 : Nat))))), ((8 : Nat), F.a (A.c (C.sc (Go.Value.int Go.IntKind.i64 x2)))), ((9 : Nat), F.a (A.c (C.sc (Go.Value.int Go.IntKind.i64 x3))))], mem := [some (Row.arr (81 : Nat) (Ty.sl (Ty.int Go.IntKind.i64)) x4 false), some (Row.arr (43 : Nat) ty43 x5 false), some (Row.box (43 : Nat) (some ty43) [C.sc (Go.Value.int Go.IntKind.i64 x6), C.ow (3 : Nat) (List.length x7), C.ow (4 : Nat) (List.length x8)] false), some (Row.arr (9 : Nat) Ty.str x7 false), some (Row.arr (9 : Nat) Ty.str x8 false)], nx := (5 : Nat) }
theorem e14 (a0 : List ByteArray) (a1 : List ByteArray) : callG W0 (callW W0) (cutW W0) 14 [inj (Ty.sl Ty.str) a0, inj (Ty.sl Ty.str) a1] = ifs (decide ((↑(List.length a0) : Int) > (400 : Int)) = false) (ifs (decide ((↑(List.length a1) : Int) > (400 : Int)) = true) (Option.bind (cR (nat_lit 47) [RT.own (43 : Go.TypeId) ty43] [inj (Ty.sl Ty.str) a0, inj (Ty.sl Ty.str) a1]) fun r => some (injRs [RT.own (43 : Go.TypeId) ty43] (List.take (List.length r) r))) (Option.bind (cR (nat_lit 48) [RT.own (81 : Go.TypeId) (Ty.sl (Ty.int Go.IntKind.i64))] [inj (Ty.sl Ty.str) a0, inj (Ty.sl Ty.str) a1]) fun r => l14_8 a0 a1 (0 : Int) (0 : Int) r (0 : Int) [] [] [])) (Option.bind (cR (nat_lit 47) [RT.own (43 : Go.TypeId) ty43] [inj (Ty.sl Ty.str) a0, inj (Ty.sl Ty.str) a1]) fun r => some (injRs [RT.own (43 : Go.TypeId) ty43] (List.take (List.length r) r))) := by kernel_rfl
theorem q14_8 (x0 : List ByteArray) (x1 : List ByteArray) (x2 : Int) (x3 : Int) (x4 : List (List Int)) (x5 : Int) (x6 : List (Int × List ByteArray × List ByteArray)) (x7 : List ByteArray) (x8 : List ByteArray) : cutG W0 (callW W0) (cutW W0) n14 td14_8 { fr := [((0 : Nat), F.a (A.c (C.sl Ty.str x0))), ((1 : Nat), F.a (A.c (C.sl Ty.str x1))), ((5 : Nat), F.a (A.c (C.ow (0 : Nat) (List.length x4)))), ((6 : Nat), F.a (A.c (C.ow (2 : Nat) (List.length x6)))), ((7 : Nat), F.a (A.c (C.pt (Pt.own (1 : Nat) (0 : Nat) (0 : Nat))))), ((8 : Nat), F.a (A.c (C.sc (Go.Value.int Go.IntKind.i64 x2)))), ((9 : Nat), F.a (A.c (C.sc (Go.Value.int Go.IntKind.i64 x3))))], mem := [some (Row.arr (81 : Nat) (Ty.sl (Ty.int Go.IntKind.i64)) x4 false), some (Row.box (43 : Nat) (some ty43) [C.sc (Go.Value.int Go.IntKind.i64 x5), C.ow (3 : Nat) (List.length x7), C.ow (4 : Nat) (List.length x8)] false), some (Row.arr (43 : Nat) ty43 x6 false), some (Row.arr (9 : Nat) Ty.str x7 false), some (Row.arr (9 : Nat) Ty.str x8 false)], nx := (5 : Nat) } = ifs (decide (x2 < (↑(List.length x0) : Int)) = false) (ifs (decide (x3 < (↑(List.length x1) : Int)) = true) (ifs (decide (x2 < (↑(List.length x0) : Int)) = true) (ifs (decide (x3 < (↑(List.length x1) : Int)) = true) (ifs ((0 : Int) ≤ x2) (Option.bind x0[Int.toNat x2]? fun r => ifs ((0 : Int) ≤ x3) (Option.bind x1[Int.toNat x3]? fun r_1 => ifs ((ByteArray.toList r == ByteArray.toList r_1) = true) (ifs (decide (Go.IntKind.wrap Go.IntKind.i64 ((↑(List.length x7) : Int) + (↑(List.length x8) : Int)) > (0 : Int)) = true) (ifs ((List.length x6 + (1 : Nat)) * nat_lit 56 ≤ (140737488355328 : Nat)) (l14_8v1 x0 x1 (Go.IntKind.wrap Go.IntKind.i64 (x2 + (1 : Int))) (Go.IntKind.wrap Go.IntKind.i64 (x3 + (1 : Int))) x4 (List.take (List.length x6) x6 ++ [(x5, List.take (List.length x7) x7, List.take (List.length x8) x8)]) (Go.IntKind.wrap Go.IntKind.i64 (x2 + (1 : Int))) [] []) none) (l14_8v1 x0 x1 (Go.IntKind.wrap Go.IntKind.i64 (x2 + (1 : Int))) (Go.IntKind.wrap Go.IntKind.i64 (x3 + (1 : Int))) x4 x6 (Go.IntKind.wrap Go.IntKind.i64 (x2 + (1 : Int))) [] [])) (ifs ((x3 == (↑(List.length x1) : Int)) = true) (ifs ((0 : Int) ≤ x2) (Option.bind x0[Int.toNat x2]? fun r => ifs ((List.length x7 + (1 : Nat)) * nat_lit 16 ≤ (140737488355328 : Nat)) (l14_8v1 x0 x1 (Go.IntKind.wrap Go.IntKind.i64 (x2 + (1 : Int))) x3 x4 x6 x5 (List.take (List.length x7) x7 ++ [r]) x8) none) none) (ifs (decide (x2 < (↑(List.length x0) : Int)) = true) (ifs ((0 : Int) ≤ Go.IntKind.wrap Go.IntKind.i64 (Go.IntKind.wrap Go.IntKind.i64 ((↑(List.length x0) : Int) - x2) - (1 : Int)) ∧ Go.IntKind.wrap Go.IntKind.i64 (Go.IntKind.wrap Go.IntKind.i64 ((↑(List.length x0) : Int) - x2) - (1 : Int)) < (↑(List.length x4) : Int)) (Option.bind x4[Int.toNat (Go.IntKind.wrap Go.IntKind.i64 (Go.IntKind.wrap Go.IntKind.i64 ((↑(List.length x0) : Int) - x2) - (1 : Int)))]? fun r => ifs ((0 : Int) ≤ x3) (Option.bind r[Int.toNat x3]? fun r => ifs ((0 : Int) ≤ Go.IntKind.wrap Go.IntKind.i64 ((↑(List.length x0) : Int) - x2) ∧ Go.IntKind.wrap Go.IntKind.i64 ((↑(List.length x0) : Int) - x2) < (↑(List.length x4) : Int)) (Option.bind x4[Int.toNat (Go.IntKind.wrap Go.IntKind.i64 ((↑(List.length x0) : Int) - x2))]? fun r_2 => ifs ((0 : Int) ≤ Go.IntKind.wrap Go.IntKind.i64 (x3 + (1 : Int))) (Option.bind r_2[Int.toNat (Go.IntKind.wrap Go.IntKind.i64 (x3 + (1 : Int)))]? fun r_3 => ifs (decide (r ≥ r_3) = true) (ifs ((0 : Int) ≤ x2) (Option.bind x0[Int.toNat x2]? fun r => ifs ((List.length x7 + (1 : Nat)) * nat_lit 16 ≤ (140737488355328 : Nat)) (l14_8v1 x0 x1 (Go.IntKind.wrap Go.IntKind.i64 (x2 + (1 : Int))) x3 x4 x6 x5 (List.take (List.length x7) x7 ++ [r]) x8) none) none) (ifs ((0 : Int) ≤ x3) (Option.bind x1[Int.toNat x3]? fun r => ifs ((List.length x8 + (1 : Nat)) * nat_lit 16 ≤ (140737488355328 : Nat)) (l14_8v1 x0 x1 x2 (Go.IntKind.wrap Go.IntKind.i64 (x3 + (1 : Int))) x4 x6 x5 x7 (List.take (List.length x8) x8 ++ [r])) none) none)) none) none) none) none) (ifs ((0 : Int) ≤ x3) (Option.bind x1[Int.toNat x3]? fun r => ifs ((List.length x8 + (1 : Nat)) * nat_lit 16 ≤ (140737488355328 : Nat)) (l14_8v1 x0 x1 x2 (Go.IntKind.wrap Go.IntKind.i64 (x3 + (1 : Int))) x4 x6 x5 x7 (List.take (List.length x8) x8 ++ [r])) none) none)))) none) none) (ifs ((x3 == (↑(List.length x1) : Int)) = true) (ifs ((0 : Int) ≤ x2) (Option.bind x0[Int.toNat x2]? fun r => ifs ((List.length x7 + (1 : Nat)) * nat_lit 16 ≤ (140737488355328 : Nat)) (l14_8v1 x0 x1 (Go.IntKind.wrap Go.IntKind.i64 (x2 + (1 : Int))) x3 x4 x6 x5 (List.take (List.length x7) x7 ++ [r]) x8) none) none) (ifs (decide (x2 < (↑(List.length x0) : Int)) = true) (ifs ((0 : Int) ≤ Go.IntKind.wrap Go.IntKind.i64 (Go.IntKind.wrap Go.IntKind.i64 ((↑(List.length x0) : Int) - x2) - (1 : Int)) ∧ Go.IntKind.wrap Go.IntKind.i64 (Go.IntKind.wrap Go.IntKind.i64 ((↑(List.length x0) : Int) - x2) - (1 : Int)) < (↑(List.length x4) : Int)) (Option.bind x4[Int.toNat (Go.IntKind.wrap Go.IntKind.i64 (Go.IntKind.wrap Go.IntKind.i64 ((↑(List.length x0) : Int) - x2) - (1 : Int)))]? fun r => ifs ((0 : Int) ≤ x3) (Option.bind r[Int.toNat x3]? fun r => ifs ((0 : Int) ≤ Go.IntKind.wrap Go.IntKind.i64 ((↑(List.length x0) : Int) - x2) ∧ Go.IntKind.wrap Go.IntKind.i64 ((↑(List.length x0) : Int) - x2) < (↑(List.length x4) : Int)) (Option.bind x4[Int.toNat (Go.IntKind.wrap Go.IntKind.i64 ((↑(List.length x0) : Int) - x2))]? fun r_1 => ifs ((0 : Int) ≤ Go.IntKind.wrap Go.IntKind.i64 (x3 + (1 : Int))) (Option.bind r_1[Int.toNat (Go.IntKind.wrap Go.IntKind.i64 (x3 + (1 : Int)))]? fun r_2 => ifs (decide (r ≥ r_2) = true) (ifs ((0 : Int) ≤ x2) (Option.bind x0[Int.toNat x2]? fun r => ifs ((List.length x7 + (1 : Nat)) * nat_lit 16 ≤ (140737488355328 : Nat)) (l14_8v1 x0 x1 (Go.IntKind.wrap Go.IntKind.i64 (x2 + (1 : Int))) x3 x4 x6 x5 (List.take (List.length x7) x7 ++ [r]) x8) none) none) (ifs ((0 : Int) ≤ x3) (Option.bind x1[Int.toNat x3]? fun r => ifs ((List.length x8 + (1 : Nat)) * nat_lit 16 ≤ (140737488355328 : Nat)) (l14_8v1 x0 x1 x2 (Go.IntKind.wrap Go.IntKind.i64 (x3 + (1 : Int))) x4 x6 x5 x7 (List.take (List.length x8) x8 ++ [r])) none) none)) none) none) none) none) (ifs ((0 : Int) ≤ x3) (Option.bind x1[Int.toNat x3]? fun r => ifs ((List.length x8 + (1 : Nat)) * nat_lit 16 ≤ (140737488355328 : Nat)) (l14_8v1 x0 x1 x2 (Go.IntKind.wrap Go.IntKind.i64 (x3 + (1 : Int))) x4 x6 x5 x7 (List.take (List.length x8) x8 ++ [r])) none) none)))) (ifs ((x3 == (↑(List.length x1) : Int)) = true) (ifs ((0 : Int) ≤ x2) (Option.bind x0[Int.toNat x2]? fun r => ifs ((List.length x7 + (1 : Nat)) * nat_lit 16 ≤ (140737488355328 : Nat)) (l14_8v1 x0 x1 (Go.IntKind.wrap Go.IntKind.i64 (x2 + (1 : Int))) x3 x4 x6 x5 (List.take (List.length x7) x7 ++ [r]) x8) none) none) (ifs (decide (x2 < (↑(List.length x0) : Int)) = true) (ifs ((0 : Int) ≤ Go.IntKind.wrap Go.IntKind.i64 (Go.IntKind.wrap Go.IntKind.i64 ((↑(List.length x0) : Int) - x2) - (1 : Int)) ∧ Go.IntKind.wrap Go.IntKind.i64 (Go.IntKind.wrap Go.IntKind.i64 ((↑(List.length x0) : Int) - x2) - (1 : Int)) < (↑(List.length x4) : Int)) (Option.bind x4[Int.toNat (Go.IntKind.wrap Go.IntKind.i64 (Go.IntKind.wrap Go.IntKind.i64 ((↑(List.length x0) : Int) - x2) - (1 : Int)))]? fun r => ifs ((0 : Int) ≤ x3) (Option.bind r[Int.toNat x3]? fun r => ifs ((0 : Int) ≤ Go.IntKind.wrap Go.IntKind.i64 ((↑(List.length x0) : Int) - x2) ∧ Go.IntKind.wrap Go.IntKind.i64 ((↑(List.length x0) : Int) - x2) < (↑(List.length x4) : Int)) (Option.bind x4[Int.toNat (Go.IntKind.wrap Go.IntKind.i64 ((↑(List.length x0) : Int) - x2))]? fun r_1 => ifs ((0 : Int) ≤ Go.IntKind.wrap Go.IntKind.i64 (x3 + (1 : Int))) (Option.bind r_1[Int.toNat (Go.IntKind.wrap Go.IntKind.i64 (x3 + (1 : Int)))]? fun r_2 => ifs (decide (r ≥ r_2) = true) (ifs ((0 : Int) ≤ x2) (Option.bind x0[Int.toNat x2]? fun r => ifs ((List.length x7 + (1 : Nat)) * nat_lit 16 ≤ (140737488355328 : Nat)) (l14_8v1 x0 x1 (Go.IntKind.wrap Go.IntKind.i64 (x2 + (1 : Int))) x3 x4 x6 x5 (List.take (List.length x7) x7 ++ [r]) x8) none) none) (ifs ((0 : Int) ≤ x3) (Option.bind x1[Int.toNat x3]? fun r => ifs ((List.length x8 + (1 : Nat)) * nat_lit 16 ≤ (140737488355328 : Nat)) (l14_8v1 x0 x1 x2 (Go.IntKind.wrap Go.IntKind.i64 (x3 + (1 : Int))) x4 x6 x5 x7 (List.take (List.length x8) x8 ++ [r])) none) none)) none) none) none) none) (ifs ((0 : Int) ≤ x3) (Option.bind x1[Int.toNat x3]? fun r => ifs ((List.length x8 + (1 : Nat)) * nat_lit 16 ≤ (140737488355328 : Nat)) (l14_8v1 x0 x1 x2 (Go.IntKind.wrap Go.IntKind.i64 (x3 + (1 : Int))) x4 x6 x5 x7 (List.take (List.length x8) x8 ++ [r])) none) none)))) (ifs (decide (Go.IntKind.wrap Go.IntKind.i64 ((↑(List.length x7) : Int) + (↑(List.length x8) : Int)) > (0 : Int)) = true) (ifs ((List.length x6 + (1 : Nat)) * nat_lit 56 ≤ (140737488355328 : Nat)) (some (injRs [RT.own (43 : Go.TypeId) ty43] (List.take (List.length (List.take (List.length x6) x6 ++ [(x5, List.take (List.length x7) x7, List.take (List.length x8) x8)])) (List.take (List.length x6) x6 ++ [(x5, List.take (List.length x7) x7, List.take (List.length x8) x8)])))) none) (some (injRs [RT.own (43 : Go.TypeId) ty43] (List.take (List.length x6) x6))))) (ifs (decide (x2 < (↑(List.length x0) : Int)) = true) (ifs (decide (x3 < (↑(List.length x1) : Int)) = true) (ifs ((0 : Int) ≤ x2) (Option.bind x0[Int.toNat x2]? fun r => ifs ((0 : Int) ≤ x3) (Option.bind x1[Int.toNat x3]? fun r_1 => ifs ((ByteArray.toList r == ByteArray.toList r_1) = true) (ifs (decide (Go.IntKind.wrap Go.IntKind.i64 ((↑(List.length x7) : Int) + (↑(List.length x8) : Int)) > (0 : Int)) = true) (ifs ((List.length x6 + (1 : Nat)) * nat_lit 56 ≤ (140737488355328 : Nat)) (l14_8v1 x0 x1 (Go.IntKind.wrap Go.IntKind.i64 (x2 + (1 : Int))) (Go.IntKind.wrap Go.IntKind.i64 (x3 + (1 : Int))) x4 (List.take (List.length x6) x6 ++ [(x5, List.take (List.length x7) x7, List.take (List.length x8) x8)]) (Go.IntKind.wrap Go.IntKind.i64 (x2 + (1 : Int))) [] []) none) (l14_8v1 x0 x1 (Go.IntKind.wrap Go.IntKind.i64 (x2 + (1 : Int))) (Go.IntKind.wrap Go.IntKind.i64 (x3 + (1 : Int))) x4 x6 (Go.IntKind.wrap Go.IntKind.i64 (x2 + (1 : Int))) [] [])) (ifs ((x3 == (↑(List.length x1) : Int)) = true) (ifs ((0 : Int) ≤ x2) (Option.bind x0[Int.toNat x2]? fun r => ifs ((List.length x7 + (1 : Nat)) * nat_lit 16 ≤ (140737488355328 : Nat)) (l14_8v1 x0 x1 (Go.IntKind.wrap Go.IntKind.i64 (x2 + (1 : Int))) x3 x4 x6 x5 (List.take (List.length x7) x7 ++ [r]) x8) none) none) (ifs (decide (x2 < (↑(List.length x0) : Int)) = true) (ifs ((0 : Int) ≤ Go.IntKind.wrap Go.IntKind.i64 (Go.IntKind.wrap Go.IntKind.i64 ((↑(List.length x0) : Int) - x2) - (1 : Int)) ∧ Go.IntKind.wrap Go.IntKind.i64 (Go.IntKind.wrap Go.IntKind.i64 ((↑(List.length x0) : Int) - x2) - (1 : Int)) < (↑(List.length x4) : Int)) (Option.bind x4[Int.toNat (Go.IntKind.wrap Go.IntKind.i64 (Go.IntKind.wrap Go.IntKind.i64 ((↑(List.length x0) : Int) - x2) - (1 : Int)))]? fun r => ifs ((0 : Int) ≤ x3) (Option.bind r[Int.toNat x3]? fun r => ifs ((0 : Int) ≤ Go.IntKind.wrap Go.IntKind.i64 ((↑(List.length x0) : Int) - x2) ∧ Go.IntKind.wrap Go.IntKind.i64 ((↑(List.length x0) : Int) - x2) < (↑(List.length x4) : Int)) (Option.bind x4[Int.toNat (Go.IntKind.wrap Go.IntKind.i64 ((↑(List.length x0) : Int) - x2))]? fun r_2 => ifs ((0 : Int) ≤ Go.IntKind.wrap Go.IntKind.i64 (x3 + (1 : Int))) (Option.bind r_2[Int.toNat (Go.IntKind.wrap Go.IntKind.i64 (x3 + (1 : Int)))]? fun r_3 => ifs (decide (r ≥ r_3) = true) (ifs ((0 : Int) ≤ x2) (Option.bind x0[Int.toNat x2]? fun r => ifs ((List.length x7 + (1 : Nat)) * nat_lit 16 ≤ (140737488355328 : Nat)) (l14_8v1 x0 x1 (Go.IntKind.wrap Go.IntKind.i64 (x2 + (1 : Int))) x3 x4 x6 x5 (List.take (List.length x7) x7 ++ [r]) x8) none) none) (ifs ((0 : Int) ≤ x3) (Option.bind x1[Int.toNat x3]? fun r => ifs ((List.length x8 + (1 : Nat)) * nat_lit 16 ≤ (140737488355328 : Nat)) (l14_8v1 x0 x1 x2 (Go.IntKind.wrap Go.IntKind.i64 (x3 + (1 : Int))) x4 x6 x5 x7 (List.take (List.length x8) x8 ++ [r])) none) none)) none) none) none) none) (ifs ((0 : Int) ≤ x3) (Option.bind x1[Int.toNat x3]? fun r => ifs ((List.length x8 + (1 : Nat)) * nat_lit 16 ≤ (140737488355328 : Nat)) (l14_8v1 x0 x1 x2 (Go.IntKind.wrap Go.IntKind.i64 (x3 + (1 : Int))) x4 x6 x5 x7 (List.take (List.length x8) x8 ++ [r])) none) none)))) none) none) (ifs ((x3 == (↑(List.length x1) : Int)) = true) (ifs ((0 : Int) ≤ x2) (Option.bind x0[Int.toNat x2]? fun r => ifs ((List.length x7 + (1 : Nat)) * nat_lit 16 ≤ (140737488355328 : Nat)) (l14_8v1 x0 x1 (Go.IntKind.wrap Go.IntKind.i64 (x2 + (1 : Int))) x3 x4 x6 x5 (List.take (List.length x7) x7 ++ [r]) x8) none) none) (ifs (decide (x2 < (↑(List.length x0) : Int)) = true) (ifs ((0 : Int) ≤ Go.IntKind.wrap Go.IntKind.i64 (Go.IntKind.wrap Go.IntKind.i64 ((↑(List.length x0) : Int) - x2) - (1 : Int)) ∧ Go.IntKind.wrap Go.IntKind.i64 (Go.IntKind.wrap Go.IntKind.i64 ((↑(List.length x0) : Int) - x2) - (1 : Int)) < (↑(List.length x4) : Int)) (Option.bind x4[Int.toNat (Go.IntKind.wrap Go.IntKind.i64 (Go.IntKind.wrap Go.IntKind.i64 ((↑(List.length x0) : Int) - x2) - (1 : Int)))]? fun r => ifs ((0 : Int) ≤ x3) (Option.bind r[Int.toNat x3]? fun r => ifs ((0 : Int) ≤ Go.IntKind.wrap Go.IntKind.i64 ((↑(List.length x0) : Int) - x2) ∧ Go.IntKind.wrap Go.IntKind.i64 ((↑(List.length x0) : Int) - x2) < (↑(List.length x4) : Int)) (Option.bind x4[Int.toNat (Go.IntKind.wrap Go.IntKind.i64 ((↑(List.length x0) : Int) - x2))]? fun r_1 => ifs ((0 : Int) ≤ Go.IntKind.wrap Go.IntKind.i64 (x3 + (1 : Int))) (Option.bind r_1[Int.toNat (Go.IntKind.wrap Go.IntKind.i64 (x3 + (1 : Int)))]? fun r_2 => ifs (decide (r ≥ r_2) = true) (ifs ((0 : Int) ≤ x2) (Option.bind x0[Int.toNat x2]? fun r => ifs ((List.length x7 + (1 : Nat)) * nat_lit 16 ≤ (140737488355328 : Nat)) (l14_8v1 x0 x1 (Go.IntKind.wrap Go.IntKind.i64 (x2 + (1 : Int))) x3 x4 x6 x5 (List.take (List.length x7) x7 ++ [r]) x8) none) none) (ifs ((0 : Int) ≤ x3) (Option.bind x1[Int.toNat x3]? fun r => ifs ((List.length x8 + (1 : Nat)) * nat_lit 16 ≤ (140737488355328 : Nat)) (l14_8v1 x0 x1 x2 (Go.IntKind.wrap Go.IntKind.i64 (x3 + (1 : Int))) x4 x6 x5 x7 (List.take (List.length x8) x8 ++ [r])) none) none)) none) none) none) none) (ifs ((0 : Int) ≤ x3) (Option.bind x1[Int.toNat x3]? fun r => ifs ((List.length x8 + (1 : Nat)) * nat_lit 16 ≤ (140737488355328 : Nat)) (l14_8v1 x0 x1 x2 (Go.IntKind.wrap Go.IntKind.i64 (x3 + (1 : Int))) x4 x6 x5 x7 (List.take (List.length x8) x8 ++ [r])) none) none)))) (ifs ((x3 == (↑(List.length x1) : Int)) = true) (ifs ((0 : Int) ≤ x2) (Option.bind x0[Int.toNat x2]? fun r => ifs ((List.length x7 + (1 : Nat)) * nat_lit 16 ≤ (140737488355328 : Nat)) (l14_8v1 x0 x1 (Go.IntKind.wrap Go.IntKind.i64 (x2 + (1 : Int))) x3 x4 x6 x5 (List.take (List.length x7) x7 ++ [r]) x8) none) none) (ifs (decide (x2 < (↑(List.length x0) : Int)) = true) (ifs ((0 : Int) ≤ Go.IntKind.wrap Go.IntKind.i64 (Go.IntKind.wrap Go.IntKind.i64 ((↑(List.length x0) : Int) - x2) - (1 : Int)) ∧ Go.IntKind.wrap Go.IntKind.i64 (Go.IntKind.wrap Go.IntKind.i64 ((↑(List.length x0) : Int) - x2) - (1 : Int)) < (↑(List.length x4) : Int)) (Option.bind x4[Int.toNat (Go.IntKind.wrap Go.IntKind.i64 (Go.IntKind.wrap Go.IntKind.i64 ((↑(List.length x0) : Int) - x2) - (1 : Int)))]? fun r => ifs ((0 : Int) ≤ x3) (Option.bind r[Int.toNat x3]? fun r => ifs ((0 : Int) ≤ Go.IntKind.wrap Go.IntKind.i64 ((↑(List.length x0) : Int) - x2) ∧ Go.IntKind.wrap Go.IntKind.i64 ((↑(List.length x0) : Int) - x2) < (↑(List.length x4) : Int)) (Option.bind x4[Int.toNat (Go.IntKind.wrap Go.IntKind.i64 ((↑(List.length x0) : Int) - x2))]? fun r_1 => ifs ((0 : Int) ≤ Go.IntKind.wrap Go.IntKind.i64 (x3 + (1 : Int))) (Option.bind r_1[Int.toNat (Go.IntKind.wrap Go.IntKind.i64 (x3 + (1 : Int)))]? fun r_2 => ifs (decide (r ≥ r_2) = true) (ifs ((0 : Int) ≤ x2) (Option.bind x0[Int.toNat x2]? fun r => ifs ((List.length x7 + (1 : Nat)) * nat_lit 16 ≤ (140737488355328 : Nat)) (l14_8v1 x0 x1 (Go.IntKind.wrap Go.IntKind.i64 (x2 + (1 : Int))) x3 x4 x6 x5 (List.take (List.length x7) x7 ++ [r]) x8) none) none) (ifs ((0 : Int) ≤ x3) (Option.bind x1[Int.toNat x3]? fun r => ifs ((List.length x8 + (1 : Nat)) * nat_lit 16 ≤ (140737488355328 : Nat)) (l14_8v1 x0 x1 x2 (Go.IntKind.wrap Go.IntKind.i64 (x3 + (1 : Int))) x4 x6 x5 x7 (List.take (List.length x8) x8 ++ [r])) none) none)) none) none) none) none) (ifs ((0 : Int) ≤ x3) (Option.bind x1[Int.toNat x3]? fun r => ifs ((List.length x8 + (1 : Nat)) * nat_lit 16 ≤ (140737488355328 : Nat)) (l14_8v1 x0 x1 x2 (Go.IntKind.wrap Go.IntKind.i64 (x3 + (1 : Int))) x4 x6 x5 x7 (List.take (List.length x8) x8 ++ [r])) none) none)))) := by kernel_rfl
theorem q14_8v1 (x0 : List ByteArray) (x1 : List ByteArray) (x2 : Int) (x3 : Int) (x4 : List (List Int)) (x5 : List (Int × List ByteArray × List ByteArray)) (x6 : Int) (x7 : List ByteArray) (x8 : List ByteArray) : cutG W0 (callW W0) (cutW W0) n14 td14_8 { fr := [((0 : Nat), F.a (A.c (C.sl Ty.str x0))), ((1 : Nat), F.a (A.c (C.sl Ty.str x1))), ((5 : Nat), F.a (A.c (C.ow (0 : Nat) (List.length x4)))), ((6 : Nat), F.a (A.c (C.ow (1 : Nat) (List.length x5)))), ((7 : Nat), F.a (A.c (C.pt (Pt.own (2 : Nat) (0 : Nat) (0 : Nat))))), ((8 : Nat), F.a (A.c (C.sc (Go.Value.int Go.IntKind.i64 x2)))), ((9 : Nat), F.a (A.c (C.sc (Go.Value.int Go.IntKind.i64 x3))))], mem := [some (Row.arr (81 : Nat) (Ty.sl (Ty.int Go.IntKind.i64)) x4 false), some (Row.arr (43 : Nat) ty43 x5 false), some (Row.box (43 : Nat) (some ty43) [C.sc (Go.Value.int Go.IntKind.i64 x6), C.ow (3 : Nat) (List.length x7), C.ow (4 : Nat) (List.length x8)] false), some (Row.arr (9 : Nat) Ty.str x7 false), some (Row.arr (9 : Nat) Ty.str x8 false)], nx := (5 : Nat) } = ifs (decide (x2 < (↑(List.length x0) : Int)) = false) (ifs (decide (x3 < (↑(List.length x1) : Int)) = true) (ifs (decide (x2 < (↑(List.length x0) : Int)) = true) (ifs (decide (x3 < (↑(List.length x1) : Int)) = true) (ifs ((0 : Int) ≤ x2) (Option.bind x0[Int.toNat x2]? fun r => ifs ((0 : Int) ≤ x3) (Option.bind x1[Int.toNat x3]? fun r_1 => ifs ((ByteArray.toList r == ByteArray.toList r_1) = true) (ifs (decide (Go.IntKind.wrap Go.IntKind.i64 ((↑(List.length x7) : Int) + (↑(List.length x8) : Int)) > (0 : Int)) = true) (ifs ((List.length x5 + (1 : Nat)) * nat_lit 56 ≤ (140737488355328 : Nat)) (l14_8v1 x0 x1 (Go.IntKind.wrap Go.IntKind.i64 (x2 + (1 : Int))) (Go.IntKind.wrap Go.IntKind.i64 (x3 + (1 : Int))) x4 (List.take (List.length x5) x5 ++ [(x6, List.take (List.length x7) x7, List.take (List.length x8) x8)]) (Go.IntKind.wrap Go.IntKind.i64 (x2 + (1 : Int))) [] []) none) (l14_8v1 x0 x1 (Go.IntKind.wrap Go.IntKind.i64 (x2 + (1 : Int))) (Go.IntKind.wrap Go.IntKind.i64 (x3 + (1 : Int))) x4 x5 (Go.IntKind.wrap Go.IntKind.i64 (x2 + (1 : Int))) [] [])) (ifs ((x3 == (↑(List.length x1) : Int)) = true) (ifs ((0 : Int) ≤ x2) (Option.bind x0[Int.toNat x2]? fun r => ifs ((List.length x7 + (1 : Nat)) * nat_lit 16 ≤ (140737488355328 : Nat)) (l14_8v1 x0 x1 (Go.IntKind.wrap Go.IntKind.i64 (x2 + (1 : Int))) x3 x4 x5 x6 (List.take (List.length x7) x7 ++ [r]) x8) none) none) (ifs (decide (x2 < (↑(List.length x0) : Int)) = true) (ifs ((0 : Int) ≤ Go.IntKind.wrap Go.IntKind.i64 (Go.IntKind.wrap Go.IntKind.i64 ((↑(List.length x0) : Int) - x2) - (1 : Int)) ∧ Go.IntKind.wrap Go.IntKind.i64 (Go.IntKind.wrap Go.IntKind.i64 ((↑(List.length x0) : Int) - x2) - (1 : Int)) < (↑(List.length x4) : Int)) (Option.bind x4[Int.toNat (Go.IntKind.wrap Go.IntKind.i64 (Go.IntKind.wrap Go.IntKind.i64 ((↑(List.length x0) : Int) - x2) - (1 : Int)))]? fun r => ifs ((0 : Int) ≤ x3) (Option.bind r[Int.toNat x3]? fun r => ifs ((0 : Int) ≤ Go.IntKind.wrap Go.IntKind.i64 ((↑(List.length x0) : Int) - x2) ∧ Go.IntKind.wrap Go.IntKind.i64 ((↑(List.length x0) : Int) - x2) < (↑(List.length x4) : Int)) (Option.bind x4[Int.toNat (Go.IntKind.wrap Go.IntKind.i64 ((↑(List.length x0) : Int) - x2))]? fun r_2 => ifs ((0 : Int) ≤ Go.IntKind.wrap Go.IntKind.i64 (x3 + (1 : Int))) (Option.bind r_2[Int.toNat (Go.IntKind.wrap Go.IntKind.i64 (x3 + (1 : Int)))]? fun r_3 => ifs (decide (r ≥ r_3) = true) (ifs ((0 : Int) ≤ x2) (Option.bind x0[Int.toNat x2]? fun r => ifs ((List.length x7 + (1 : Nat)) * nat_lit 16 ≤ (140737488355328 : Nat)) (l14_8v1 x0 x1 (Go.IntKind.wrap Go.IntKind.i64 (x2 + (1 : Int))) x3 x4 x5 x6 (List.take (List.length x7) x7 ++ [r]) x8) none) none) (ifs ((0 : Int) ≤ x3) (Option.bind x1[Int.toNat x3]? fun r => ifs ((List.length x8 + (1 : Nat)) * nat_lit 16 ≤ (140737488355328 : Nat)) (l14_8v1 x0 x1 x2 (Go.IntKind.wrap Go.IntKind.i64 (x3 + (1 : Int))) x4 x5 x6 x7 (List.take (List.length x8) x8 ++ [r])) none) none)) none) none) none) none) (ifs ((0 : Int) ≤ x3) (Option.bind x1[Int.toNat x3]? fun r => ifs ((List.length x8 + (1 : Nat)) * nat_lit 16 ≤ (140737488355328 : Nat)) (l14_8v1 x0 x1 x2 (Go.IntKind.wrap Go.IntKind.i64 (x3 + (1 : Int))) x4 x5 x6 x7 (List.take (List.length x8) x8 ++ [r])) none) none)))) none) none) (ifs ((x3 == (↑(List.length x1) : Int)) = true) (ifs ((0 : Int) ≤ x2) (Option.bind x0[Int.toNat x2]? fun r => ifs ((List.length x7 + (1 : Nat)) * nat_lit 16 ≤ (140737488355328 : Nat)) (l14_8v1 x0 x1 (Go.IntKind.wrap Go.IntKind.i64 (x2 + (1 : Int))) x3 x4 x5 x6 (List.take (List.length x7) x7 ++ [r]) x8) none) none) (ifs (decide (x2 < (↑(List.length x0) : Int)) = true) (ifs ((0 : Int) ≤ Go.IntKind.wrap Go.IntKind.i64 (Go.IntKind.wrap Go.IntKind.i64 ((↑(List.length x0) : Int) - x2) - (1 : Int)) ∧ Go.IntKind.wrap Go.IntKind.i64 (Go.IntKind.wrap Go.IntKind.i64 ((↑(List.length x0) : Int) - x2) - (1 : Int)) < (↑(List.length x4) : Int)) (Option.bind x4[Int.toNat (Go.IntKind.wrap Go.IntKind.i64 (Go.IntKind.wrap Go.IntKind.i64 ((↑(List.length x0) : Int) - x2) - (1 : Int)))]? fun r => ifs ((0 : Int) ≤ x3) (Option.bind r[Int.toNat x3]? fun r => ifs ((0 : Int) ≤ Go.IntKind.wrap Go.IntKind.i64 ((↑(List.length x0) : Int) - x2) ∧ Go.IntKind.wrap Go.IntKind.i64 ((↑(List.length x0) : Int) - x2) < (↑(List.length x4) : Int)) (Option.bind x4[Int.toNat (Go.IntKind.wrap Go.IntKind.i64 ((↑(List.length x0) : Int) - x2))]? fun r_1 => ifs ((0 : Int) ≤ Go.IntKind.wrap Go.IntKind.i64 (x3 + (1 : Int))) (Option.bind r_1[Int.toNat (Go.IntKind.wrap Go.IntKind.i64 (x3 + (1 : Int)))]? fun r_2 => ifs (decide (r ≥ r_2) = true) (ifs ((0 : Int) ≤ x2) (Option.bind x0[Int.toNat x2]? fun r => ifs ((List.length x7 + (1 : Nat)) * nat_lit 16 ≤ (140737488355328 : Nat)) (l14_8v1 x0 x1 (Go.IntKind.wrap Go.IntKind.i64 (x2 + (1 : Int))) x3 x4 x5 x6 (List.take (List.length x7) x7 ++ [r]) x8) none) none) (ifs ((0 : Int) ≤ x3) (Option.bind x1[Int.toNat x3]? fun r => ifs ((List.length x8 + (1 : Nat)) * nat_lit 16 ≤ (140737488355328 : Nat)) (l14_8v1 x0 x1 x2 (Go.IntKind.wrap Go.IntKind.i64 (x3 + (1 : Int))) x4 x5 x6 x7 (List.take (List.length x8) x8 ++ [r])) none) none)) none) none) none) none) (ifs ((0 : Int) ≤ x3) (Option.bind x1[Int.toNat x3]? fun r => ifs ((List.length x8 + (1 : Nat)) * nat_lit 16 ≤ (140737488355328 : Nat)) (l14_8v1 x0 x1 x2 (Go.IntKind.wrap Go.IntKind.i64 (x3 + (1 : Int))) x4 x5 x6 x7 (List.take (List.length x8) x8 ++ [r])) none) none)))) (ifs ((x3 == (↑(List.length x1) : Int)) = true) (ifs ((0 : Int) ≤ x2) (Option.bind x0[Int.toNat x2]? fun r => ifs ((List.length x7 + (1 : Nat)) * nat_lit 16 ≤ (140737488355328 : Nat)) (l14_8v1 x0 x1 (Go.IntKind.wrap Go.IntKind.i64 (x2 + (1 : Int))) x3 x4 x5 x6 (List.take (List.length x7) x7 ++ [r]) x8) none) none) (ifs (decide (x2 < (↑(List.length x0) : Int)) = true) (ifs ((0 : Int) ≤ Go.IntKind.wrap Go.IntKind.i64 (Go.IntKind.wrap Go.IntKind.i64 ((↑(List.length x0) : Int) - x2) - (1 : Int)) ∧ Go.IntKind.wrap Go.IntKind.i64 (Go.IntKind.wrap Go.IntKind.i64 ((↑(List.length x0) : Int) - x2) - (1 : Int)) < (↑(List.length x4) : Int)) (Option.bind x4[Int.toNat (Go.IntKind.wrap Go.IntKind.i64 (Go.IntKind.wrap Go.IntKind.i64 ((↑(List.length x0) : Int) - x2) - (1 : Int)))]? fun r => ifs ((0 : Int) ≤ x3) (Option.bind r[Int.toNat x3]? fun r => ifs ((0 : Int) ≤ Go.IntKind.wrap Go.IntKind.i64 ((↑(List.length x0) : Int) - x2) ∧ Go.IntKind.wrap Go.IntKind.i64 ((↑(List.length x0) : Int) - x2) < (↑(List.length x4) : Int)) (Option.bind x4[Int.toNat (Go.IntKind.wrap Go.IntKind.i64 ((↑(List.length x0) : Int) - x2))]? fun r_1 => ifs ((0 : Int) ≤ Go.IntKind.wrap Go.IntKind.i64 (x3 + (1 : Int))) (Option.bind r_1[Int.toNat (Go.IntKind.wrap Go.IntKind.i64 (x3 + (1 : Int)))]? fun r_2 => ifs (decide (r ≥ r_2) = true) (ifs ((0 : Int) ≤ x2) (Option.bind x0[Int.toNat x2]? fun r => ifs ((List.length x7 + (1 : Nat)) * nat_lit 16 ≤ (140737488355328 : Nat)) (l14_8v1 x0 x1 (Go.IntKind.wrap Go.IntKind.i64 (x2 + (1 : Int))) x3 x4 x5 x6 (List.take (List.length x7) x7 ++ [r]) x8) none) none) (ifs ((0 : Int) ≤ x3) (Option.bind x1[Int.toNat x3]? fun r => ifs ((List.length x8 + (1 : Nat)) * nat_lit 16 ≤ (140737488355328 : Nat)) (l14_8v1 x0 x1 x2 (Go.IntKind.wrap Go.IntKind.i64 (x3 + (1 : Int))) x4 x5 x6 x7 (List.take (List.length x8) x8 ++ [r])) none) none)) none) none) none) none) (ifs ((0 : Int) ≤ x3) (Option.bind x1[Int.toNat x3]? fun r => ifs ((List.length x8 + (1 : Nat)) * nat_lit 16 ≤ (140737488355328 : Nat)) (l14_8v1 x0 x1 x2 (Go.IntKind.wrap Go.IntKind.i64 (x3 + (1 : Int))) x4 x5 x6 x7 (List.take (List.length x8) x8 ++ [r])) none) none)))) (ifs (decide (Go.IntKind.wrap Go.IntKind.i64 ((↑(List.length x7) : Int) + (↑(List.length x8) : Int)) > (0 : Int)) = true) (ifs ((List.length x5 + (1 : Nat)) * nat_lit 56 ≤ (140737488355328 : Nat)) (some (injRs [RT.own (43 : Go.TypeId) ty43] (List.take (List.length (List.take (List.length x5) x5 ++ [(x6, List.take (List.length x7) x7, List.take (List.length x8) x8)])) (List.take (List.length x5) x5 ++ [(x6, List.take (List.length x7) x7, List.take (List.length x8) x8)])))) none) (some (injRs [RT.own (43 : Go.TypeId) ty43] (List.take (List.length x5) x5))))) (ifs (decide (x2 < (↑(List.length x0) : Int)) = true) (ifs (decide (x3 < (↑(List.length x1) : Int)) = true) (ifs ((0 : Int) ≤ x2) (Option.bind x0[Int.toNat x2]? fun r => ifs ((0 : Int) ≤ x3) (Option.bind x1[Int.toNat x3]? fun r_1 => ifs ((ByteArray.toList r == ByteArray.toList r_1) = true) (ifs (decide (Go.IntKind.wrap Go.IntKind.i64 ((↑(List.length x7) : Int) + (↑(List.length x8) : Int)) > (0 : Int)) = true) (ifs ((List.length x5 + (1 : Nat)) * nat_lit 56 ≤ (140737488355328 : Nat)) (l14_8v1 x0 x1 (Go.IntKind.wrap Go.IntKind.i64 (x2 + (1 : Int))) (Go.IntKind.wrap Go.IntKind.i64 (x3 + (1 : Int))) x4 (List.take (List.length x5) x5 ++ [(x6, List.take (List.length x7) x7, List.take (List.length x8) x8)]) (Go.IntKind.wrap Go.IntKind.i64 (x2 + (1 : Int))) [] []) none) (l14_8v1 x0 x1 (Go.IntKind.wrap Go.IntKind.i64 (x2 + (1 : Int))) (Go.IntKind.wrap Go.IntKind.i64 (x3 + (1 : Int))) x4 x5 (Go.IntKind.wrap Go.IntKind.i64 (x2 + (1 : Int))) [] [])) (ifs ((x3 == (↑(List.length x1) : Int)) = true) (ifs ((0 : Int) ≤ x2) (Option.bind x0[Int.toNat x2]? fun r => ifs ((List.length x7 + (1 : Nat)) * nat_lit 16 ≤ (140737488355328 : Nat)) (l14_8v1 x0 x1 (Go.IntKind.wrap Go.IntKind.i64 (x2 + (1 : Int))) x3 x4 x5 x6 (List.take (List.length x7) x7 ++ [r]) x8) none) none) (ifs (decide (x2 < (↑(List.length x0) : Int)) = true) (ifs ((0 : Int) ≤ Go.IntKind.wrap Go.IntKind.i64 (Go.IntKind.wrap Go.IntKind.i64 ((↑(List.length x0) : Int) - x2) - (1 : Int)) ∧ Go.IntKind.wrap Go.IntKind.i64 (Go.IntKind.wrap Go.IntKind.i64 ((↑(List.length x0) : Int) - x2) - (1 : Int)) < (↑(List.length x4) : Int)) (Option.bind x4[Int.toNat (Go.IntKind.wrap Go.IntKind.i64 (Go.IntKind.wrap Go.IntKind.i64 ((↑(List.length x0) : Int) - x2) - (1 : Int)))]? fun r => ifs ((0 : Int) ≤ x3) (Option.bind r[Int.toNat x3]? fun r => ifs ((0 : Int) ≤ Go.IntKind.wrap Go.IntKind.i64 ((↑(List.length x0) : Int) - x2) ∧ Go.IntKind.wrap Go.IntKind.i64 ((↑(List.length x0) : Int) - x2) < (↑(List.length x4) : Int)) (Option.bind x4[Int.toNat (Go.IntKind.wrap Go.IntKind.i64 ((↑(List.length x0) : Int) - x2))]? fun r_2 => ifs ((0 : Int) ≤ Go.IntKind.wrap Go.IntKind.i64 (x3 + (1 : Int))) (Option.bind r_2[Int.toNat (Go.IntKind.wrap Go.IntKind.i64 (x3 + (1 : Int)))]? fun r_3 => ifs (decide (r ≥ r_3) = true) (ifs ((0 : Int) ≤ x2) (Option.bind x0[Int.toNat x2]? fun r => ifs ((List.length x7 + (1 : Nat)) * nat_lit 16 ≤ (140737488355328 : Nat)) (l14_8v1 x0 x1 (Go.IntKind.wrap Go.IntKind.i64 (x2 + (1 : Int))) x3 x4 x5 x6 (List.take (List.length x7) x7 ++ [r]) x8) none) none) (ifs ((0 : Int) ≤ x3) (Option.bind x1[Int.toNat x3]? fun r => ifs ((List.length x8 + (1 : Nat)) * nat_lit 16 ≤ (140737488355328 : Nat)) (l14_8v1 x0 x1 x2 (Go.IntKind.wrap Go.IntKind.i64 (x3 + (1 : Int))) x4 x5 x6 x7 (List.take (List.length x8) x8 ++ [r])) none) none)) none) none) none) none) (ifs ((0 : Int) ≤ x3) (Option.bind x1[Int.toNat x3]? fun r => ifs ((List.length x8 + (1 : Nat)) * nat_lit 16 ≤ (140737488355328 : Nat)) (l14_8v1 x0 x1 x2 (Go.IntKind.wrap Go.IntKind.i64 (x3 + (1 : Int))) x4 x5 x6 x7 (List.take (List.length x8) x8 ++ [r])) none) none)))) none) none) (ifs ((x3 == (↑(List.length x1) : Int)) = true) (ifs ((0 : Int) ≤ x2) (Option.bind x0[Int.toNat x2]? fun r => ifs ((List.length x7 + (1 : Nat)) * nat_lit 16 ≤ (140737488355328 : Nat)) (l14_8v1 x0 x1 (Go.IntKind.wrap Go.IntKind.i64 (x2 + (1 : Int))) x3 x4 x5 x6 (List.take (List.length x7) x7 ++ [r]) x8) none) none) (ifs (decide (x2 < (↑(List.length x0) : Int)) = true) (ifs ((0 : Int) ≤ Go.IntKind.wrap Go.IntKind.i64 (Go.IntKind.wrap Go.IntKind.i64 ((↑(List.length x0) : Int) - x2) - (1 : Int)) ∧ Go.IntKind.wrap Go.IntKind.i64 (Go.IntKind.wrap Go.IntKind.i64 ((↑(List.length x0) : Int) - x2) - (1 : Int)) < (↑(List.length x4) : Int)) (Option.bind x4[Int.toNat (Go.IntKind.wrap Go.IntKind.i64 (Go.IntKind.wrap Go.IntKind.i64 ((↑(List.length x0) : Int) - x2) - (1 : Int)))]? fun r => ifs ((0 : Int) ≤ x3) (Option.bind r[Int.toNat x3]? fun r => ifs ((0 : Int) ≤ Go.IntKind.wrap Go.IntKind.i64 ((↑(List.length x0) : Int) - x2) ∧ Go.IntKind.wrap Go.IntKind.i64 ((↑(List.length x0) : Int) - x2) < (↑(List.length x4) : Int)) (Option.bind x4[Int.toNat (Go.IntKind.wrap Go.IntKind.i64 ((↑(List.length x0) : Int) - x2))]? fun r_1 => ifs ((0 : Int) ≤ Go.IntKind.wrap Go.IntKind.i64 (x3 + (1 : Int))) (Option.bind r_1[Int.toNat (Go.IntKind.wrap Go.IntKind.i64 (x3 + (1 : Int)))]? fun r_2 => ifs (decide (r ≥ r_2) = true) (ifs ((0 : Int) ≤ x2) (Option.bind x0[Int.toNat x2]? fun r => ifs ((List.length x7 + (1 : Nat)) * nat_lit 16 ≤ (140737488355328 : Nat)) (l14_8v1 x0 x1 (Go.IntKind.wrap Go.IntKind.i64 (x2 + (1 : Int))) x3 x4 x5 x6 (List.take (List.length x7) x7 ++ [r]) x8) none) none) (ifs ((0 : Int) ≤ x3) (Option.bind x1[Int.toNat x3]? fun r => ifs ((List.length x8 + (1 : Nat)) * nat_lit 16 ≤ (140737488355328 : Nat)) (l14_8v1 x0 x1 x2 (Go.IntKind.wrap Go.IntKind.i64 (x3 + (1 : Int))) x4 x5 x6 x7 (List.take (List.length x8) x8 ++ [r])) none) none)) none) none) none) none) (ifs ((0 : Int) ≤ x3) (Option.bind x1[Int.toNat x3]? fun r => ifs ((List.length x8 + (1 : Nat)) * nat_lit 16 ≤ (140737488355328 : Nat)) (l14_8v1 x0 x1 x2 (Go.IntKind.wrap Go.IntKind.i64 (x3 + (1 : Int))) x4 x5 x6 x7 (List.take (List.length x8) x8 ++ [r])) none) none)))) (ifs ((x3 == (↑(List.length x1) : Int)) = true) (ifs ((0 : Int) ≤ x2) (Option.bind x0[Int.toNat x2]? fun r => ifs ((List.length x7 + (1 : Nat)) * nat_lit 16 ≤ (140737488355328 : Nat)) (l14_8v1 x0 x1 (Go.IntKind.wrap Go.IntKind.i64 (x2 + (1 : Int))) x3 x4 x5 x6 (List.take (List.length x7) x7 ++ [r]) x8) none) none) (ifs (decide (x2 < (↑(List.length x0) : Int)) = true) (ifs ((0 : Int) ≤ Go.IntKind.wrap Go.IntKind.i64 (Go.IntKind.wrap Go.IntKind.i64 ((↑(List.length x0) : Int) - x2) - (1 : Int)) ∧ Go.IntKind.wrap Go.IntKind.i64 (Go.IntKind.wrap Go.IntKind.i64 ((↑(List.length x0) : Int) - x2) - (1 : Int)) < (↑(List.length x4) : Int)) (Option.bind x4[Int.toNat (Go.IntKind.wrap Go.IntKind.i64 (Go.IntKind.wrap Go.IntKind.i64 ((↑(List.length x0) : Int) - x2) - (1 : Int)))]? fun r => ifs ((0 : Int) ≤ x3) (Option.bind r[Int.toNat x3]? fun r => ifs ((0 : Int) ≤ Go.IntKind.wrap Go.IntKind.i64 ((↑(List.length x0) : Int) - x2) ∧ Go.IntKind.wrap Go.IntKind.i64 ((↑(List.length x0) : Int) - x2) < (↑(List.length x4) : Int)) (Option.bind x4[Int.toNat (Go.IntKind.wrap Go.IntKind.i64 ((↑(List.length x0) : Int) - x2))]? fun r_1 => ifs ((0 : Int) ≤ Go.IntKind.wrap Go.IntKind.i64 (x3 + (1 : Int))) (Option.bind r_1[Int.toNat (Go.IntKind.wrap Go.IntKind.i64 (x3 + (1 : Int)))]? fun r_2 => ifs (decide (r ≥ r_2) = true) (ifs ((0 : Int) ≤ x2) (Option.bind x0[Int.toNat x2]? fun r => ifs ((List.length x7 + (1 : Nat)) * nat_lit 16 ≤ (140737488355328 : Nat)) (l14_8v1 x0 x1 (Go.IntKind.wrap Go.IntKind.i64 (x2 + (1 : Int))) x3 x4 x5 x6 (List.take (List.length x7) x7 ++ [r]) x8) none) none) (ifs ((0 : Int) ≤ x3) (Option.bind x1[Int.toNat x3]? fun r => ifs ((List.length x8 + (1 : Nat)) * nat_lit 16 ≤ (140737488355328 : Nat)) (l14_8v1 x0 x1 x2 (Go.IntKind.wrap Go.IntKind.i64 (x3 + (1 : Int))) x4 x5 x6 x7 (List.take (List.length x8) x8 ++ [r])) none) none)) none) none) none) none) (ifs ((0 : Int) ≤ x3) (Option.bind x1[Int.toNat x3]? fun r => ifs ((List.length x8 + (1 : Nat)) * nat_lit 16 ≤ (140737488355328 : Nat)) (l14_8v1 x0 x1 x2 (Go.IntKind.wrap Go.IntKind.i64 (x3 + (1 : Int))) x4 x5 x6 x7 (List.take (List.length x8) x8 ++ [r])) none) none)))) := by kernel_rfl
noncomputable def td3_6 : List Item := (findT (code Tryz.f3) [] 6).getD []
noncomputable def l3_6 (x0 : ByteArray) (x1 : List ByteArray) (x2 : Int) (x3 : List (ByteArray × Bool × List ByteArray)) (x4 : List (Int × List ByteArray × List ByteArray)) : Option (List RV) := cutW W0 n3 td3_6 { fr := [((0 : Nat), F.a (A.c (C.sc (Go.Value.string x0)))), ((2 : Nat), F.a (A.c (C.sl Ty.str x1))), ((7 : Nat), F.a (A.c (C.pt (Pt.own (0 : Nat) (0 : Nat) (0 : Nat))))), ((9 : Nat), F.a (A.c (C.ow (1 : Nat) (List.length x4)))), ((10 : Nat), F.a (A.c (C.sc (Go.Value.int Go.IntKind.i64 x2))))], mem := [some (Row.box (31 : Nat) (some ty31) [C.sl ty35 x3] false), some (Row.arr (43 : Nat) ty43 x4 false)], nx := (2 : Nat) }
theorem e3 (a0 : ByteArray) (a1 : List ByteArray) (a2 : List ByteArray) : callG W0 (callW W0) (cutW W0) 3 [inj Ty.str a0, inj (Ty.sl Ty.str) a1, inj (Ty.sl Ty.str) a2] = ifs (decide ((↑(ByteArray.size a0) : Int) > (300 : Int)) = false) (Option.bind (cR (nat_lit 8) [RT.d Ty.bool] [inj Ty.str a0]) fun r => ifs ((!r) = false) (Option.bind (cR (nat_lit 9) [RT.own (9 : Go.TypeId) Ty.str] [inj Ty.str a0]) fun r => ifs (((↑(List.length r) : Int) != (1 : Int)) = false) (Option.bind (cR (nat_lit 10) [RT.d Ty.bool] [inj (Ty.sl Ty.str) a1]) fun r => ifs ((!r) = false) (Option.bind (cR (nat_lit 10) [RT.d Ty.bool] [inj (Ty.sl Ty.str) a2]) fun r => ifs ((!r) = false) (Option.bind (cR (nat_lit 11) [RT.d (Ty.int Go.IntKind.i64)] [inj (Ty.sl Ty.str) a1]) fun r => ifs ((r != (0 : Int)) = false) (Option.bind (cR (nat_lit 11) [RT.d (Ty.int Go.IntKind.i64)] [inj (Ty.sl Ty.str) a2]) fun r => ifs ((r != (0 : Int)) = true) (Option.bind (cR (nat_lit 12) [RT.d Ty.bool] []) fun r => some (injRs [RT.d Ty.bool] r)) (Option.bind (cR (nat_lit 13) [RT.d ty31, RT.d (Ty.int Go.IntKind.i64)] [inj (Ty.sl ty35) [(a0, false, a1)]]) fun r => Option.bind (cR (nat_lit 14) [RT.own (43 : Go.TypeId) ty43] [inj (Ty.sl Ty.str) a1, inj (Ty.sl Ty.str) a2]) fun r_1 => l3_6 a0 a2 (Go.IntKind.wrap Go.IntKind.i64 ((↑(List.length r_1) : Int) - (1 : Int))) r.fst.fst r_1)) (Option.bind (cR (nat_lit 12) [RT.d Ty.bool] []) fun r => some (injRs [RT.d Ty.bool] r))) (Option.bind (cR (nat_lit 12) [RT.d Ty.bool] []) fun r => some (injRs [RT.d Ty.bool] r))) (Option.bind (cR (nat_lit 12) [RT.d Ty.bool] []) fun r => some (injRs [RT.d Ty.bool] r))) (Option.bind (cR (nat_lit 12) [RT.d Ty.bool] []) fun r => some (injRs [RT.d Ty.bool] r))) (Option.bind (cR (nat_lit 12) [RT.d Ty.bool] []) fun r => some (injRs [RT.d Ty.bool] r))) (Option.bind (cR (nat_lit 12) [RT.d Ty.bool] []) fun r => some (injRs [RT.d Ty.bool] r)) := by kernel_rfl
theorem q3_6 (x0 : ByteArray) (x1 : List ByteArray) (x2 : Int) (x3 : List (ByteArray × Bool × List ByteArray)) (x4 : List (Int × List ByteArray × List ByteArray)) : cutG W0 (callW W0) (cutW W0) n3 td3_6 { fr := [((0 : Nat), F.a (A.c (C.sc (Go.Value.string x0)))), ((2 : Nat), F.a (A.c (C.sl Ty.str x1))), ((7 : Nat), F.a (A.c (C.pt (Pt.own (0 : Nat) (0 : Nat) (0 : Nat))))), ((9 : Nat), F.a (A.c (C.ow (1 : Nat) (List.length x4)))), ((10 : Nat), F.a (A.c (C.sc (Go.Value.int Go.IntKind.i64 x2))))], mem := [some (Row.box (31 : Nat) (some ty31) [C.sl ty35 x3] false), some (Row.arr (43 : Nat) ty43 x4 false)], nx := (2 : Nat) } = ifs (decide (x2 ≥ (0 : Int)) = true) (ifs ((0 : Int) ≤ x2 ∧ x2 < (↑(List.length x4) : Int)) (Option.bind x4[Int.toNat x2]? fun r => Option.bind (cR (nat_lit 16) [RT.d ty40] [inj Ty.str x0, inj ty43 r]) fun r => Option.bind (cR (nat_lit 15) [RT.d ty31, RT.d (Ty.int Go.IntKind.i64)] [inj ty31 (x3, ()), inj ty40 r]) fun r => ifs ((r.snd != (0 : Int)) = true) (some (injRs [RT.d Ty.bool] false)) (l3_6 x0 x1 (Go.IntKind.wrap Go.IntKind.i64 (x2 - (1 : Int))) r.fst.fst x4)) none) (Option.bind (cR (nat_lit 17) [RT.d ty35, RT.d Ty.bool] [inj ty31 (x3, ()), inj Ty.str x0]) fun r => Option.bind (cR (nat_lit 12) [RT.d Ty.bool] []) fun r_1 => ifs (r_1 = true) (ifs (r.snd = true) (Option.bind (cR (nat_lit 18) [RT.d Ty.bool] [inj (Ty.sl Ty.str) r.fst.snd.snd, inj (Ty.sl Ty.str) x1]) fun r => some (injRs [RT.d Ty.bool] r)) (some (injRs [RT.d Ty.bool] false))) (some (injRs [RT.d Ty.bool] false))) := by kernel_rfl
noncomputable def td48_6 : List Item := (findT (code Tryz.f48) [] 6).getD []
noncomputable def l48_6 (x0 : List ByteArray) (x1 : List ByteArray) (x2 : Nat) (x3 : Nat) (x4 : Int) (x5 : List Int) (x6 : List (List Int)) : Option (List RV) := cutW W0 n48 td48_6 { fr := [((0 : Nat), F.a (A.c (C.sl Ty.str x0))), ((1 : Nat), F.a (A.c (C.sl Ty.str x1))), ((5 : Nat), F.a (A.c (C.ow (1 : Nat) x2))), ((6 : Nat), F.a (A.c (C.ow (0 : Nat) x3))), ((7 : Nat), F.a (A.c (C.sc (Go.Value.int Go.IntKind.i64 x4))))], mem := [some (Row.arr (3 : Nat) (Ty.int Go.IntKind.i64) x5 false), some (Row.arr (81 : Nat) (Ty.sl (Ty.int Go.IntKind.i64)) x6 false)], nx := (2 : Nat) }
noncomputable def td48_10 : List Item := (findT (code Tryz.f48) [] 10).getD []
noncomputable def l48_10 (x0 : List ByteArray) (x1 : List ByteArray) (x2 : Nat) (x3 : Nat) (x4 : Int) (x5 : Nat) (x6 : Int) (x7 : List (List Int)) (x8 : List Int) (x9 : List Int) : Option (List RV) := cutW W0 n48 td48_10 { fr := [((0 : Nat), F.a (A.c (C.sl Ty.str x0))), ((1 : Nat), F.a (A.c (C.sl Ty.str x1))), ((5 : Nat), F.a (A.c (C.ow (0 : Nat) x2))), ((6 : Nat), F.a (A.c (C.ow (1 : Nat) x3))), ((7 : Nat), F.a (A.c (C.sc (Go.Value.int Go.IntKind.i64 x4)))), ((8 : Nat), F.a (A.c (C.ow (2 : Nat) x5))), ((9 : Nat), F.a (A.c (C.sc (Go.Value.int Go.IntKind.i64 x6))))], mem := [some (Row.arr (81 : Nat) (Ty.sl (Ty.int Go.IntKind.i64)) x7 false), some (Row.arr (3 : Nat) (Ty.int Go.IntKind.i64) x8 false), some (Row.arr (3 : Nat) (Ty.int Go.IntKind.i64) x9 false)], nx := (3 : Nat) }
noncomputable def l48_6v1 (x0 : List ByteArray) (x1 : List ByteArray) (x2 : Nat) (x3 : Nat) (x4 : Int) (x5 : List (List Int)) (x6 : List Int) : Option (List RV) := cutW W0 n48 td48_6 { fr := [((0 : Nat), F.a (A.c (C.sl Ty.str x0))), ((1 : Nat), F.a (A.c (C.sl Ty.str x1))), ((5 : Nat), F.a (A.c (C.ow (0 : Nat) x2))), ((6 : Nat), F.a (A.c (C.ow (1 : Nat) x3))), ((7 : Nat), F.a (A.c (C.sc (Go.Value.int Go.IntKind.i64 x4))))], mem := [some (Row.arr (81 : Nat) (Ty.sl (Ty.int Go.IntKind.i64)) x5 false), some (Row.arr (3 : Nat) (Ty.int Go.IntKind.i64) x6 false)], nx := (2 : Nat) }
theorem e48 (a0 : List ByteArray) (a1 : List ByteArray) : callG W0 (callW W0) (cutW W0) 48 [inj (Ty.sl Ty.str) a0, inj (Ty.sl Ty.str) a1] = Option.bind (cR (nat_lit 90) [RT.d (Ty.sl Ty.str)] [inj (Ty.sl Ty.str) a0]) fun r => Option.bind (cR (nat_lit 90) [RT.d (Ty.sl Ty.str)] [inj (Ty.sl Ty.str) a1]) fun r_1 => ifs ((0 : Int) ≤ Go.IntKind.wrap Go.IntKind.i64 ((↑(List.length r_1) : Int) + (1 : Int)) ∧ Go.IntKind.wrap Go.IntKind.i64 ((↑(List.length r_1) : Int) + (1 : Int)) ≤ Go.IntKind.wrap Go.IntKind.i64 ((↑(List.length r_1) : Int) + (1 : Int)) ∧ Go.IntKind.wrap Go.IntKind.i64 ((↑(List.length r_1) : Int) + (1 : Int)) * (↑(nat_lit 8) : Int) ≤ (140737488355328 : Int)) (l48_6 r r_1 (0 : Nat) (List.length (List.replicate (Int.toNat (Go.IntKind.wrap Go.IntKind.i64 ((↑(List.length r_1) : Int) + (1 : Int)))) (0 : Int))) (Go.IntKind.wrap Go.IntKind.i64 ((↑(List.length r) : Int) - (1 : Int))) (List.replicate (Int.toNat (Go.IntKind.wrap Go.IntKind.i64 ((↑(List.length r_1) : Int) + (1 : Int)))) (0 : Int)) []) none := by kernel_rfl
theorem q48_6 (x0 : List ByteArray) (x1 : List ByteArray) (x2 : Nat) (x3 : Nat) (x4 : Int) (x5 : List Int) (x6 : List (List Int)) : cutG W0 (callW W0) (cutW W0) n48 td48_6 { fr := [((0 : Nat), F.a (A.c (C.sl Ty.str x0))), ((1 : Nat), F.a (A.c (C.sl Ty.str x1))), ((5 : Nat), F.a (A.c (C.ow (1 : Nat) x2))), ((6 : Nat), F.a (A.c (C.ow (0 : Nat) x3))), ((7 : Nat), F.a (A.c (C.sc (Go.Value.int Go.IntKind.i64 x4))))], mem := [some (Row.arr (3 : Nat) (Ty.int Go.IntKind.i64) x5 false), some (Row.arr (81 : Nat) (Ty.sl (Ty.int Go.IntKind.i64)) x6 false)], nx := (2 : Nat) } = ifs (decide (x4 ≥ (0 : Int)) = true) (ifs ((0 : Int) ≤ Go.IntKind.wrap Go.IntKind.i64 ((↑(List.length x1) : Int) + (1 : Int)) ∧ Go.IntKind.wrap Go.IntKind.i64 ((↑(List.length x1) : Int) + (1 : Int)) ≤ Go.IntKind.wrap Go.IntKind.i64 ((↑(List.length x1) : Int) + (1 : Int)) ∧ Go.IntKind.wrap Go.IntKind.i64 ((↑(List.length x1) : Int) + (1 : Int)) * (↑(nat_lit 8) : Int) ≤ (140737488355328 : Int)) (l48_10 x0 x1 x2 x3 x4 (List.length (List.replicate (Int.toNat (Go.IntKind.wrap Go.IntKind.i64 ((↑(List.length x1) : Int) + (1 : Int)))) (0 : Int))) (Go.IntKind.wrap Go.IntKind.i64 ((↑(List.length x1) : Int) - (1 : Int))) x6 x5 (List.replicate (Int.toNat (Go.IntKind.wrap Go.IntKind.i64 ((↑(List.length x1) : Int) + (1 : Int)))) (0 : Int))) none) (ifs ((x2 + (1 : Nat)) * nat_lit 24 ≤ (140737488355328 : Nat)) (some (injRs [RT.own (81 : Go.TypeId) (Ty.sl (Ty.int Go.IntKind.i64))] (List.take (List.length (List.take x2 x6 ++ [List.take x3 x5])) (List.take x2 x6 ++ [List.take x3 x5])))) none) := by kernel_rfl
theorem q48_10 (x0 : List ByteArray) (x1 : List ByteArray) (x2 : Nat) (x3 : Nat) (x4 : Int) (x5 : Nat) (x6 : Int) (x7 : List (List Int)) (x8 : List Int) (x9 : List Int) : cutG W0 (callW W0) (cutW W0) n48 td48_10 { fr := [((0 : Nat), F.a (A.c (C.sl Ty.str x0))), ((1 : Nat), F.a (A.c (C.sl Ty.str x1))), ((5 : Nat), F.a (A.c (C.ow (0 : Nat) x2))), ((6 : Nat), F.a (A.c (C.ow (1 : Nat) x3))), ((7 : Nat), F.a (A.c (C.sc (Go.Value.int Go.IntKind.i64 x4)))), ((8 : Nat), F.a (A.c (C.ow (2 : Nat) x5))), ((9 : Nat), F.a (A.c (C.sc (Go.Value.int Go.IntKind.i64 x6))))], mem := [some (Row.arr (81 : Nat) (Ty.sl (Ty.int Go.IntKind.i64)) x7 false), some (Row.arr (3 : Nat) (Ty.int Go.IntKind.i64) x8 false), some (Row.arr (3 : Nat) (Ty.int Go.IntKind.i64) x9 false)], nx := (3 : Nat) } = ifs (decide (x6 ≥ (0 : Int)) = true) (ifs ((0 : Int) ≤ x4) (Option.bind x0[Int.toNat x4]? fun r => ifs ((0 : Int) ≤ x6) (Option.bind x1[Int.toNat x6]? fun r_1 => ifs ((ByteArray.toList r == ByteArray.toList r_1) = true) (ifs ((0 : Int) ≤ Go.IntKind.wrap Go.IntKind.i64 (x6 + (1 : Int)) ∧ Go.IntKind.wrap Go.IntKind.i64 (x6 + (1 : Int)) < (↑x3 : Int)) (Option.bind x8[Int.toNat (Go.IntKind.wrap Go.IntKind.i64 (x6 + (1 : Int)))]? fun r => ifs ((0 : Int) ≤ x6 ∧ x6 < (↑x5 : Int)) (Option.bind x9[Int.toNat x6]? fun r_2 => l48_10 x0 x1 x2 x3 x4 x5 (Go.IntKind.wrap Go.IntKind.i64 (x6 - (1 : Int))) x7 x8 (List.set x9 (Int.toNat x6) (Go.IntKind.wrap Go.IntKind.i64 (r + (1 : Int))))) none) none) (ifs ((0 : Int) ≤ x6 ∧ x6 < (↑x3 : Int)) (Option.bind x8[Int.toNat x6]? fun r => ifs ((0 : Int) ≤ Go.IntKind.wrap Go.IntKind.i64 (x6 + (1 : Int)) ∧ Go.IntKind.wrap Go.IntKind.i64 (x6 + (1 : Int)) < (↑x5 : Int)) (Option.bind x9[Int.toNat (Go.IntKind.wrap Go.IntKind.i64 (x6 + (1 : Int)))]? fun r_2 => Option.bind (cR (nat_lit 91) [RT.d (Ty.int Go.IntKind.i64)] [inj (Ty.int Go.IntKind.i64) r, inj (Ty.int Go.IntKind.i64) r_2]) fun r => ifs ((0 : Int) ≤ x6 ∧ x6 < (↑x5 : Int)) (Option.bind x9[Int.toNat x6]? fun r_3 => l48_10 x0 x1 x2 x3 x4 x5 (Go.IntKind.wrap Go.IntKind.i64 (x6 - (1 : Int))) x7 x8 (List.set x9 (Int.toNat x6) r)) none) none) none)) none) none) (ifs ((x2 + (1 : Nat)) * nat_lit 24 ≤ (140737488355328 : Nat)) (l48_6v1 x0 x1 (List.length (List.take x2 x7 ++ [List.take x3 x8])) x5 (Go.IntKind.wrap Go.IntKind.i64 (x4 - (1 : Int))) (List.take x2 x7 ++ [List.take x3 x8]) x9) none) := by kernel_rfl
theorem q48_6v1 (x0 : List ByteArray) (x1 : List ByteArray) (x2 : Nat) (x3 : Nat) (x4 : Int) (x5 : List (List Int)) (x6 : List Int) : cutG W0 (callW W0) (cutW W0) n48 td48_6 { fr := [((0 : Nat), F.a (A.c (C.sl Ty.str x0))), ((1 : Nat), F.a (A.c (C.sl Ty.str x1))), ((5 : Nat), F.a (A.c (C.ow (0 : Nat) x2))), ((6 : Nat), F.a (A.c (C.ow (1 : Nat) x3))), ((7 : Nat), F.a (A.c (C.sc (Go.Value.int Go.IntKind.i64 x4))))], mem := [some (Row.arr (81 : Nat) (Ty.sl (Ty.int Go.IntKind.i64)) x5 false), some (Row.arr (3 : Nat) (Ty.int Go.IntKind.i64) x6 false)], nx := (2 : Nat) } = ifs (decide (x4 ≥ (0 : Int)) = true) (ifs ((0 : Int) ≤ Go.IntKind.wrap Go.IntKind.i64 ((↑(List.length x1) : Int) + (1 : Int)) ∧ Go.IntKind.wrap Go.IntKind.i64 ((↑(List.length x1) : Int) + (1 : Int)) ≤ Go.IntKind.wrap Go.IntKind.i64 ((↑(List.length x1) : Int) + (1 : Int)) ∧ Go.IntKind.wrap Go.IntKind.i64 ((↑(List.length x1) : Int) + (1 : Int)) * (↑(nat_lit 8) : Int) ≤ (140737488355328 : Int)) (l48_10 x0 x1 x2 x3 x4 (List.length (List.replicate (Int.toNat (Go.IntKind.wrap Go.IntKind.i64 ((↑(List.length x1) : Int) + (1 : Int)))) (0 : Int))) (Go.IntKind.wrap Go.IntKind.i64 ((↑(List.length x1) : Int) - (1 : Int))) x5 x6 (List.replicate (Int.toNat (Go.IntKind.wrap Go.IntKind.i64 ((↑(List.length x1) : Int) + (1 : Int)))) (0 : Int))) none) (ifs ((x2 + (1 : Nat)) * nat_lit 24 ≤ (140737488355328 : Nat)) (some (injRs [RT.own (81 : Go.TypeId) (Ty.sl (Ty.int Go.IntKind.i64))] (List.take (List.length (List.take x2 x5 ++ [List.take x3 x6])) (List.take x2 x5 ++ [List.take x3 x6])))) none) := by kernel_rfl
end Go.Proofs.YtabhngbpkfdeiaaGreatDoor.Tb
end
section
/- The reference's steps, what takes steps back, and that PrimAll answers true. Conditions: lengths as they stand in each statement. -/
set_option linter.unusedVariables false
set_option linter.unusedSimpArgs false
namespace Go.Proofs.YtabhngbpkfdeiaaGreatDoor.Sp
open Go Go.Proofs.YtabhngbpkfdeiaaGreatDoor.Ab Go.Proofs.YtabhngbpkfdeiaaGreatDoor.Tb Go.Proofs.YtabhngbpkfdeiaaGreatDoor.EText

set_option maxRecDepth 100000 in
theorem awake7_ok : cR 12 [RT.d .bool] [] = some true := callT_ofN 60 (by kernel_rfl)
theorem sz16 (n : Nat) (h : n ≤ 5000000) : n * 16 ≤ 140737488355328 := by omega
/-! ### What takes steps back -/
end Go.Proofs.YtabhngbpkfdeiaaGreatDoor.Sp
end
section
/- Hunks that make one row of lines of another, the last one done first. Conditions: as they stand in each statement. -/
set_option linter.unusedVariables false
set_option linter.unusedSimpArgs false
namespace Go.Proofs.YtabhngbpkfdeiaaGreatDoor.Sp
open Go Go.Proofs.YtabhngbpkfdeiaaGreatDoor.Ab Go.Proofs.YtabhngbpkfdeiaaGreatDoor.Tb Go.Proofs.YtabhngbpkfdeiaaGreatDoor.EText

abbrev Hk3 := Int × List Txt × List Txt
/-- The hunks, from a place on, make the second rest of the first. -/
def Mk : List Txt → List Txt → Nat → List Hk3 → Prop
  | x, y, n, [] => x = y
  | x, y, n, h :: H => ∃ g x' y', x = g ++ h.2.1 ++ x' ∧ y = g ++ h.2.2 ++ y' ∧ h.1 = ((n + g.length : Nat) : Int) ∧ h.2.1.length + h.2.2.length ≠ 0 ∧ Mk x' y' (n + g.length + h.2.1.length) H
theorem mk_cons (c : Txt) : ∀ {H : List Hk3} {x y : List Txt} {n : Nat}, Mk x y (n + 1) H → Mk (c :: x) (c :: y) n H
  | [], x, y, n, h => by rw [Mk] at h ⊢; rw [h]
  | k :: H, x, y, n, ⟨g, x', y', h1, h2, h3, h4, h5⟩ => by
    refine ⟨c :: g, x', y', by rw [h1]; rfl, by rw [h2]; rfl, ?_, h4, ?_⟩
    · rw [h3, List.length_cons]; congr 1; omega
    · rw [List.length_cons, show n + (g.length + 1) + k.2.1.length = n + 1 + g.length + k.2.1.length by omega]; exact h5
/-- What is made of rows of which each is as it may be, is so. -/
structure In (z : List Txt) (b : Nat) (P : Txt → Prop) : Prop where
  n : z.length ≤ b
  p : ∀ s ∈ z, P s
theorem mk_run (pa : Txt) (P : Txt → Prop) : ∀ {H : List Hk3} {x y z : List Txt} {n : Nat}, Mk x y n H → z.length = n → (∀ s ∈ z, P s) → (∀ s ∈ x, P s) → (∀ s ∈ y, P s) →
    ∃ c : Nat → List Txt, c H.length = z ++ x ∧ c 0 = z ++ y ∧ ∀ (j : Nat) (hj : j < H.length), Hnk (c (j + 1)) (6, pa, zt, H[j]) (c j) ∧ 0 ≤ H[j].1 ∧ H[j].2.1.length + H[j].2.2.length ≠ 0 ∧
      In (c j) (z.length + x.length + y.length) P ∧ In H[j].2.1 x.length P ∧ In H[j].2.2 y.length P
  | [], x, y, z, n, h, hz, pz, px, py => by
    rw [Mk] at h
    subst h
    exact ⟨fun _ => z ++ x, rfl, rfl, fun j hj => absurd hj (by simp)⟩
  | h :: H, x, y, z, n, ⟨g, x', y', h1, h2, h3, h4, h5⟩, hz, pz, px, py => by
    subst h1 h2
    have pg : ∀ s ∈ g, P s := fun s hs => px s (by simp [hs])
    have po : ∀ s ∈ h.2.1, P s := fun s hs => px s (by simp [hs])
    have pw : ∀ s ∈ h.2.2, P s := fun s hs => py s (by simp [hs])
    have px' : ∀ s ∈ x', P s := fun s hs => px s (by simp [hs])
    have py' : ∀ s ∈ y', P s := fun s hs => py s (by simp [hs])
    obtain ⟨c, c1, c2, c3⟩ := mk_run pa P (z := z ++ g ++ h.2.1) h5 (by simp only [List.length_append]; omega) (fun s hs => by
      rcases List.mem_append.1 hs with hs | hs
      · exact (List.mem_append.1 hs).elim (pz s) (pg s)
      · exact po s hs) px' py'
    refine ⟨fun j => match j with | 0 => z ++ (g ++ h.2.2 ++ y') | j + 1 => c j, ?_, rfl, fun j hj => ?_⟩
    · show c H.length = _
      rw [c1]; simp only [List.append_assoc]
    · cases j with
      | zero =>
        refine ⟨⟨z ++ g, y', ?_, ?_, ?_⟩, ?_, h4, ⟨?_, ?_⟩, ⟨?_, po⟩, ⟨?_, pw⟩⟩
        · show c 0 = _
          rw [c2]; rfl
        · show ((z ++ g).length : Int) = h.1
          rw [h3, List.length_append, hz]
        · show z ++ (g ++ h.2.2 ++ y') = _
          simp only [List.append_assoc]; rfl
        · show 0 ≤ h.1
          rw [h3]; omega
        · show (z ++ (g ++ h.2.2 ++ y')).length ≤ _
          simp only [List.length_append]; omega
        · intro s hs
          rcases List.mem_append.1 hs with hs | hs
          · exact pz s hs
          · exact py s hs
        · show h.2.1.length ≤ _
          simp only [List.length_append]; omega
        · show h.2.2.length ≤ _
          simp only [List.length_append]; omega
      | succ j =>
        have hj' : j < H.length := by simpa using hj
        obtain ⟨k1, k2, k3, k4, k5, k6⟩ := c3 j hj'
        refine ⟨k1, k2, k3, ⟨Nat.le_trans k4.n ?_, k4.p⟩, ⟨Nat.le_trans k5.n ?_, k5.p⟩, ⟨Nat.le_trans k6.n ?_, k6.p⟩⟩
        · simp only [List.length_append]; omega
        · simp only [List.length_append]; omega
        · simp only [List.length_append]; omega
theorem mk_len : ∀ {H : List Hk3} {x y : List Txt} {n : Nat}, Mk x y n H → H.length ≤ x.length + y.length
  | [], x, y, n, _ => Nat.zero_le _
  | h :: H, x, y, n, ⟨g, x', y', h1, h2, h3, h4, h5⟩ => by
    have := mk_len h5
    subst h1 h2
    simp only [List.length_append, List.length_cons]; omega

end Go.Proofs.YtabhngbpkfdeiaaGreatDoor.Sp
end
section
/- The reference's hunks make one row of lines of another. Conditions: lengths as they stand in each statement. -/
set_option linter.unusedVariables false
set_option linter.unusedSimpArgs false
namespace Go.Proofs.YtabhngbpkfdeiaaGreatDoor.Sp
open Go Go.Proofs.YtabhngbpkfdeiaaGreatDoor.Ab Go.Proofs.YtabhngbpkfdeiaaGreatDoor.Tb Go.Proofs.YtabhngbpkfdeiaaGreatDoor.EText

theorem cut4_ok (a : List Txt) (ha : a.length ≤ 400) : cR 90 [RT.d (.sl .str)] [inj (.sl .str) a] = some a := by
  refine callT_of ((e90 a).trans ?_)
  rw [ifs_neg (by simp; omega)]
/-- Rows as they lie for lists of these lengths. -/
def Rw (rows : List (List Int)) (la lb : Nat) : Prop := rows.length = la + 1 ∧ ∀ r ∈ rows, r.length = lb + 1
theorem sz24 (n : Nat) (h : n ≤ 1000000) : n * 24 ≤ 140737488355328 := by omega
theorem sz56 (n : Nat) (h : n ≤ 1000000) : n * 56 ≤ 140737488355328 := by omega
theorem sz8 (n : Nat) (h : n ≤ 1000000) : 0 ≤ (n : Int) ∧ (n : Int) ≤ (n : Int) ∧ (n : Int) * ((8 : Nat) : Int) ≤ 140737488355328 := by omega
abbrev rowsAns (la lb : Nat) (o : Option (List RV)) : Prop := ∃ rows, o = some (injRs [RT.own 81 (.sl (.int .i64))] rows) ∧ Rw rows la lb
theorem row_loop (a b : List Txt) (ha : a.length ≤ 400) (hb : b.length ≤ 400) (i : Nat) (hi : i < a.length) (rows : List (List Int)) (row : List Int) (hrow : row.length = b.length + 1) (hn : rows.length ≤ 400)
    (K : ∀ next : List Int, next.length = b.length + 1 → rowsAns a.length b.length (l48_6v1 a b (rows.length + 1) (b.length + 1) ((i : Int) - 1) (rows ++ [row]) next)) :
    ∀ (k : Nat), k ≤ b.length → ∀ next : List Int, next.length = b.length + 1 → rowsAns a.length b.length (l48_10 a b rows.length (b.length + 1) (i : Int) (b.length + 1) ((k : Int) - 1) rows row next) := by
  intro k
  induction k with
  | zero =>
    intro _ next hx
    obtain ⟨r, h1, h2⟩ := K next hx
    refine ⟨r, cutG_step ((q48_10 ..).trans ?_), h2⟩
    have e1 : IntKind.i64.wrap ((i : Int) - 1) = (i : Int) - 1 := wr _ (by omega)
    rw [ifs_neg (by simp), ifs_pos (sz24 _ (by omega)), List.take_length, List.take_of_length_le (by omega), e1, List.length_append, List.length_singleton]
    exact h1
  | succ k ih =>
    intro hk next hx
    have e0 : (((k + 1 : Nat) : Int) - 1) = (k : Int) := by omega
    have e1 : IntKind.i64.wrap ((k : Int) + 1) = ((k + 1 : Nat) : Int) := by rw [wr _ (by omega)]; omega
    have e2 : IntKind.i64.wrap ((k : Int) - 1) = (k : Int) - 1 := wr _ (by omega)
    have hb1 : k < b.length := by omega
    have hr1 : k < row.length := by omega
    have hr2 : k + 1 < row.length := by omega
    have hx1 : k < next.length := by omega
    have hx2 : k + 1 < next.length := by omega
    rw [e0]
    by_cases h : a[i] = b[k]
    · obtain ⟨r, h1, h2⟩ := ih (by omega) (next.set k (IntKind.i64.wrap (row[k + 1] + 1))) (by rw [List.length_set]; exact hx)
      refine ⟨r, cutG_step ((q48_10 ..).trans ?_), h2⟩
      rw [ifs_pos (by simp), ifs_pos (by omega), Int.toNat_natCast, at_ok hi, ifs_pos (by omega), Int.toNat_natCast, at_ok hb1, bat, ifs_pos (by simp [h]), e1, ifs_pos (by omega), Int.toNat_natCast, at_ok hr2, ifs_pos (by omega), at_ok hx1, e2]
      exact h1
    · obtain ⟨r, h1, h2⟩ := ih (by omega) (next.set k (max row[k] next[k + 1])) (by rw [List.length_set]; exact hx)
      refine ⟨r, cutG_step ((q48_10 ..).trans ?_), h2⟩
      rw [ifs_pos (by simp), ifs_pos (by omega), Int.toNat_natCast, at_ok hi, ifs_pos (by omega), Int.toNat_natCast, at_ok hb1, bat, ifs_neg (by simp [h]), ifs_pos (by omega), at_ok hr1, e1, ifs_pos (by omega), Int.toNat_natCast, at_ok hx2, high_ok, Option.bind_some, ifs_pos (by omega), at_ok hx1, e2]
      exact h1
theorem rep_len (n : Nat) : (List.replicate n (0 : Int)).length = n := List.length_replicate
theorem rows_go (a b : List Txt) (ha : a.length ≤ 400) (hb : b.length ≤ 400) : ∀ (i : Nat), i ≤ a.length → ∀ (rows : List (List Int)) (row : List Int), rows.length + i = a.length → (∀ r ∈ rows, r.length = b.length + 1) → row.length = b.length + 1 →
    rowsAns a.length b.length (l48_6v1 a b rows.length (b.length + 1) ((i : Int) - 1) rows row)
  | 0, hi, rows, row, h1, h2, h3 => by
    refine ⟨rows ++ [row], cutG_step ((q48_6v1 ..).trans ?_), by rw [List.length_append, List.length_singleton]; omega, fun r hr => ?_⟩
    · rw [ifs_neg (by simp), ifs_pos (sz24 _ (by omega))]
      simp only [List.take_length, List.take_of_length_le (show row.length ≤ b.length + 1 by omega)]
    · rcases List.mem_append.1 hr with hr | hr
      · exact h2 r hr
      · rw [List.mem_singleton.1 hr]; exact h3
  | i + 1, hi, rows, row, h1, h2, h3 => by
    have e0 : (((i + 1 : Nat) : Int) - 1) = (i : Int) := by omega
    have e1 : IntKind.i64.wrap ((b.length : Int) + 1) = ((b.length + 1 : Nat) : Int) := by rw [wr _ (by omega)]; omega
    have e2 : IntKind.i64.wrap ((b.length : Int) - 1) = (b.length : Int) - 1 := wr _ (by omega)
    obtain ⟨r, k1, k2⟩ := row_loop a b ha hb i (by omega) rows row h3 (by omega) (fun next hx => by
      have := rows_go a b ha hb i (by omega) (rows ++ [row]) next (by rw [List.length_append, List.length_singleton]; omega) (fun r hr => by
        rcases List.mem_append.1 hr with hr | hr
        · exact h2 r hr
        · rw [List.mem_singleton.1 hr]; exact h3) hx
      rw [List.length_append, List.length_singleton] at this
      exact this) b.length (Nat.le_refl _) (List.replicate (b.length + 1) 0) (rep_len _)
    refine ⟨r, cutG_step ((q48_6v1 ..).trans ?_), k2⟩
    rw [e0, ifs_pos (by simp), e1, ifs_pos (sz8 _ (by omega)), Int.toNat_natCast, rep_len, e2]
    exact k1
theorem alike4_ok (a b : List Txt) (ha : a.length ≤ 400) (hb : b.length ≤ 400) : ∃ rows, cR 48 [RT.own 81 (.sl (.int .i64))] [inj (.sl .str) a, inj (.sl .str) b] = some rows ∧ Rw rows a.length b.length := by
  have e1 : IntKind.i64.wrap ((b.length : Int) + 1) = ((b.length + 1 : Nat) : Int) := by rw [wr _ (by omega)]; omega
  have e3 : IntKind.i64.wrap ((a.length : Int) - 1) = (a.length : Int) - 1 := wr _ (by omega)
  have hgo := rows_go a b ha hb a.length (Nat.le_refl _) [] (List.replicate (b.length + 1) 0) (by simp) (fun r hr => (by cases hr)) (rep_len _)
  suffices hS : rowsAns a.length b.length (l48_6 a b 0 (b.length + 1) ((a.length : Int) - 1) (List.replicate (b.length + 1) 0) []) by
    obtain ⟨r, h1, h2⟩ := hS
    refine ⟨r, callT_of ((e48 a b).trans ?_), h2⟩
    rw [cut4_ok a ha, Option.bind_some, cut4_ok b hb, Option.bind_some, e1, ifs_pos (sz8 _ (by omega)), Int.toNat_natCast, rep_len, e3]
    exact h1
  -- the first turn
  by_cases h0 : a.length = 0
  · refine ⟨[List.replicate (b.length + 1) 0], cutG_step ((q48_6 ..).trans ?_), by simp [h0], fun r hr => by rw [List.mem_singleton.1 hr]; exact rep_len _⟩
    rw [ifs_neg (by simp [h0]), ifs_pos (sz24 _ (by omega))]
    simp only [List.take_length, List.take_of_length_le (show (List.replicate (b.length + 1) (0 : Int)).length ≤ b.length + 1 by rw [rep_len]; omega), List.take_zero, List.nil_append]
  · obtain ⟨i, hi⟩ : ∃ i, a.length = i + 1 := ⟨a.length - 1, by omega⟩
    have e0 : ((a.length : Int) - 1) = (i : Int) := by omega
    have e2 : IntKind.i64.wrap ((b.length : Int) - 1) = (b.length : Int) - 1 := wr _ (by omega)
    obtain ⟨r, k1, k2⟩ := row_loop a b ha hb i (by omega) [] (List.replicate (b.length + 1) 0) (rep_len _) (by simp) (fun next hx => by
      have := rows_go a b ha hb i (by omega) [List.replicate (b.length + 1) 0] next (by simp; omega) (fun r hr => by rw [List.mem_singleton.1 hr]; exact rep_len _) hx
      exact this) b.length (Nat.le_refl _) (List.replicate (b.length + 1) 0) (rep_len _)
    refine ⟨r, cutG_step ((q48_6 ..).trans ?_), k2⟩
    rw [e0, ifs_pos (by simp), e1, ifs_pos (sz8 _ (by omega)), Int.toNat_natCast, rep_len, e2]
    exact k1

/-! ### The walk -/
abbrev Res (a b : List Txt) (rows : List (List Int)) (i k n : Nat) (out : List Hk3) (o w : List Txt) (L : Option (List RV)) : Prop :=
  ∃ H : List Hk3, L = some (injRs [RT.own 43 ty43] (out ++ H)) ∧ Mk (o ++ a.drop i) (w ++ b.drop k) n H
theorem walk_step {a b : List Txt} {rows : List (List Int)} (ha : a.length ≤ 400) (hb : b.length ≤ 400) (hr : Rw rows a.length b.length) (i k n : Nat) (out : List Hk3) (o w : List Txt) (hi : i ≤ a.length) (hk : k ≤ b.length) (hn : n + o.length = i) (hw : w.length ≤ k) (ho : out.length ≤ i + k)
    (ih : ∀ (i' k' n' : Nat) (out' : List Hk3) (o' w' : List Txt), i + k < i' + k' → i' ≤ a.length → k' ≤ b.length → n' + o'.length = i' → w'.length ≤ k' → out'.length ≤ i' + k' → Res a b rows i' k' n' out' o' w' (l14_8v1 a b (i' : Int) (k' : Int) rows out' (n' : Int) o' w')) :
    Res a b rows i k n out o w (l14_8v1 a b (i : Int) (k : Int) rows out (n : Int) o w) := by
  have ei : IntKind.i64.wrap ((i : Int) + 1) = ((i + 1 : Nat) : Int) := by rw [wr _ (by omega)]; omega
  have ek : IntKind.i64.wrap ((k : Int) + 1) = ((k + 1 : Nat) : Int) := by rw [wr _ (by omega)]; omega
  have ew : IntKind.i64.wrap ((o.length : Int) + (w.length : Int)) = ((o.length + w.length : Nat) : Int) := by rw [wr _ (by omega)]; omega
  have hold : ∀ (hlt : i < a.length) (L : Option (List RV)), L = ifs ((o.length + (1 : Nat)) * 16 ≤ (140737488355328 : Nat)) (l14_8v1 a b ((i + 1 : Nat) : Int) (k : Int) rows out (n : Int) (o ++ [a[i]]) w) none → Res a b rows i k n out o w L := fun hlt L e => by
    obtain ⟨H, h1, h2⟩ := ih (i + 1) k n out (o ++ [a[i]]) w (by omega) (by omega) hk (by rw [List.length_append, List.length_singleton]; omega) hw (by omega)
    refine ⟨H, ?_, ?_⟩
    · rw [e, ifs_pos (sz16 _ (by omega)), h1]
    · rw [List.drop_eq_getElem_cons hlt]
      simpa [List.append_assoc] using h2
  have hnew : ∀ (hlt : k < b.length) (L : Option (List RV)), L = ifs ((w.length + (1 : Nat)) * 16 ≤ (140737488355328 : Nat)) (l14_8v1 a b (i : Int) ((k + 1 : Nat) : Int) rows out (n : Int) o (w ++ [b[k]])) none → Res a b rows i k n out o w L := fun hlt L e => by
    obtain ⟨H, h1, h2⟩ := ih i (k + 1) n out o (w ++ [b[k]]) (by omega) hi (by omega) hn (by rw [List.length_append, List.length_singleton]; omega) (by omega)
    refine ⟨H, ?_, ?_⟩
    · rw [e, ifs_pos (sz16 _ (by omega)), h1]
    · rw [List.drop_eq_getElem_cons hlt]
      simpa [List.append_assoc] using h2
  have from_ : ∀ {L R : Option (List RV)}, (∀ r, R = some r → L = some r) → Res a b rows i k n out o w R → Res a b rows i k n out o w L := fun h ⟨H, h1, h2⟩ => ⟨H, h _ h1, h2⟩
  refine from_ (fun r h => cutG_step ((q14_8v1 ..).trans h)) ?_
  simp only [List.take_length, Int.toNat_natCast, ei, ek, ew]
  by_cases hia : i < a.length
  · rw [ifs_neg (by simpa using hia), ifs_pos (by simpa using hia)]
    by_cases hkb : k < b.length
    · rw [ifs_pos (by simpa using hkb), ifs_pos (by omega), at_ok hia, ifs_pos (by omega), at_ok hkb, bat]
      by_cases heq : a[i] = b[k]
      · rw [ifs_pos (by simpa using heq)]
        by_cases h0 : o.length + w.length = 0
        · rw [ifs_neg (by simp; omega)]
          have o0 : o = [] := List.eq_nil_of_length_eq_zero (by omega)
          have w0 : w = [] := List.eq_nil_of_length_eq_zero (by omega)
          subst o0 w0
          obtain ⟨H, h1, h2⟩ := ih (i + 1) (k + 1) (i + 1) out [] [] (by omega) (by omega) (by omega) (by simp) (by simp) (by omega)
          refine ⟨H, h1, ?_⟩
          have : n = i := by simpa using hn
          subst this
          rw [List.drop_eq_getElem_cons hia, List.drop_eq_getElem_cons hkb, heq]
          exact mk_cons _ h2
        · rw [ifs_pos (by simp; omega), ifs_pos (sz56 _ (by omega))]
          obtain ⟨H, h1, h2⟩ := ih (i + 1) (k + 1) (i + 1) (out ++ [((n : Int), o, w)]) [] [] (by omega) (by omega) (by omega) (by simp) (by simp) (by rw [List.length_append, List.length_singleton]; omega)
          refine ⟨((n : Int), o, w) :: H, ?_, [], a.drop i, b.drop k, by simp, by simp, by simp, h0, ?_⟩
          · rw [h1, List.append_assoc]; rfl
          · rw [List.drop_eq_getElem_cons hia, List.drop_eq_getElem_cons hkb, heq]
            show Mk _ _ (n + 0 + o.length) H
            rw [show n + 0 + o.length = i by omega]
            exact mk_cons _ h2
      · have hr1 : a.length - i - 1 < rows.length := by rw [hr.1]; omega
        have hr2 : a.length - i < rows.length := by rw [hr.1]; omega
        have hl1 := hr.2 _ (List.getElem_mem hr1)
        have hl2 := hr.2 _ (List.getElem_mem hr2)
        have e1 : IntKind.i64.wrap ((a.length : Int) - (i : Int)) = ((a.length - i : Nat) : Int) := by rw [wr _ (by omega)]; omega
        have e2 : IntKind.i64.wrap (((a.length - i : Nat) : Int) - 1) = ((a.length - i - 1 : Nat) : Int) := by rw [wr _ (by omega)]; omega
        have hk1 : k < (rows[a.length - i - 1]'hr1).length := by omega
        have hk2 : k + 1 < (rows[a.length - i]'hr2).length := by omega
        rw [ifs_neg (by simpa using heq), ifs_neg (by simp; omega), ifs_pos (by simpa using hia)]
        simp only [e1, e2, Int.toNat_natCast]
        rw [ifs_pos (by omega), at_ok hr1, ifs_pos (by omega), at_ok hk1, ifs_pos (by omega), at_ok hr2, ifs_pos (by omega), at_ok hk2]
        by_cases hc : (rows[a.length - i - 1]'hr1)[k] ≥ (rows[a.length - i]'hr2)[k + 1]
        · rw [ifs_pos (by simpa using hc), ifs_pos (by omega), at_ok hia]
          exact hold hia _ rfl
        · rw [ifs_neg (by simpa using hc), ifs_pos (by omega), at_ok hkb]
          exact hnew hkb _ rfl
    · have hkb' : k = b.length := by omega
      rw [ifs_neg (by simpa using hkb), ifs_pos (by simp [hkb']), ifs_pos (by omega), at_ok hia]
      exact hold hia _ rfl
  · rw [ifs_pos (by simpa using hia)]
    by_cases hkb : k < b.length
    · rw [ifs_pos (by simpa using hkb), ifs_neg (by simpa using hia), ifs_neg (by simp; omega), ifs_neg (by simpa using hia), ifs_pos (by omega), at_ok hkb]
      exact hnew hkb _ rfl
    · rw [ifs_neg (by simpa using hkb)]
      have da : a.drop i = [] := List.drop_of_length_le (by omega)
      have db : b.drop k = [] := List.drop_of_length_le (by omega)
      by_cases h0 : o.length + w.length = 0
      · have o0 : o = [] := List.eq_nil_of_length_eq_zero (by omega)
        have w0 : w = [] := List.eq_nil_of_length_eq_zero (by omega)
        subst o0 w0
        rw [ifs_neg (by simp)]
        exact ⟨[], by rw [List.append_nil], by rw [da, db]; rfl⟩
      · rw [ifs_pos (by simp; omega), ifs_pos (sz56 _ (by omega))]
        refine ⟨[((n : Int), o, w)], rfl, [], [], [], by rw [da]; simp, by rw [db]; simp, by simp, h0, rfl⟩
theorem walk_start {a b : List Txt} {rows : List (List Int)} (ha : a.length ≤ 400) (hb : b.length ≤ 400) (hr : Rw rows a.length b.length) (i k n : Nat) (out : List Hk3) (o w : List Txt) (hi : i ≤ a.length) (hk : k ≤ b.length) (hn : n + o.length = i) (hw : w.length ≤ k) (ho : out.length ≤ i + k)
    (ih : ∀ (i' k' n' : Nat) (out' : List Hk3) (o' w' : List Txt), i + k < i' + k' → i' ≤ a.length → k' ≤ b.length → n' + o'.length = i' → w'.length ≤ k' → out'.length ≤ i' + k' → Res a b rows i' k' n' out' o' w' (l14_8v1 a b (i' : Int) (k' : Int) rows out' (n' : Int) o' w')) :
    Res a b rows i k n out o w (l14_8 a b (i : Int) (k : Int) rows (n : Int) out o w) := by
  have ei : IntKind.i64.wrap ((i : Int) + 1) = ((i + 1 : Nat) : Int) := by rw [wr _ (by omega)]; omega
  have ek : IntKind.i64.wrap ((k : Int) + 1) = ((k + 1 : Nat) : Int) := by rw [wr _ (by omega)]; omega
  have ew : IntKind.i64.wrap ((o.length : Int) + (w.length : Int)) = ((o.length + w.length : Nat) : Int) := by rw [wr _ (by omega)]; omega
  have hold : ∀ (hlt : i < a.length) (L : Option (List RV)), L = ifs ((o.length + (1 : Nat)) * 16 ≤ (140737488355328 : Nat)) (l14_8v1 a b ((i + 1 : Nat) : Int) (k : Int) rows out (n : Int) (o ++ [a[i]]) w) none → Res a b rows i k n out o w L := fun hlt L e => by
    obtain ⟨H, h1, h2⟩ := ih (i + 1) k n out (o ++ [a[i]]) w (by omega) (by omega) hk (by rw [List.length_append, List.length_singleton]; omega) hw (by omega)
    refine ⟨H, ?_, ?_⟩
    · rw [e, ifs_pos (sz16 _ (by omega)), h1]
    · rw [List.drop_eq_getElem_cons hlt]
      simpa [List.append_assoc] using h2
  have hnew : ∀ (hlt : k < b.length) (L : Option (List RV)), L = ifs ((w.length + (1 : Nat)) * 16 ≤ (140737488355328 : Nat)) (l14_8v1 a b (i : Int) ((k + 1 : Nat) : Int) rows out (n : Int) o (w ++ [b[k]])) none → Res a b rows i k n out o w L := fun hlt L e => by
    obtain ⟨H, h1, h2⟩ := ih i (k + 1) n out o (w ++ [b[k]]) (by omega) hi (by omega) hn (by rw [List.length_append, List.length_singleton]; omega) (by omega)
    refine ⟨H, ?_, ?_⟩
    · rw [e, ifs_pos (sz16 _ (by omega)), h1]
    · rw [List.drop_eq_getElem_cons hlt]
      simpa [List.append_assoc] using h2
  have from_ : ∀ {L R : Option (List RV)}, (∀ r, R = some r → L = some r) → Res a b rows i k n out o w R → Res a b rows i k n out o w L := fun h ⟨H, h1, h2⟩ => ⟨H, h _ h1, h2⟩
  refine from_ (fun r h => cutG_step ((q14_8 ..).trans h)) ?_
  simp only [List.take_length, Int.toNat_natCast, ei, ek, ew]
  by_cases hia : i < a.length
  · rw [ifs_neg (by simpa using hia), ifs_pos (by simpa using hia)]
    by_cases hkb : k < b.length
    · rw [ifs_pos (by simpa using hkb), ifs_pos (by omega), at_ok hia, ifs_pos (by omega), at_ok hkb, bat]
      by_cases heq : a[i] = b[k]
      · rw [ifs_pos (by simpa using heq)]
        by_cases h0 : o.length + w.length = 0
        · rw [ifs_neg (by simp; omega)]
          have o0 : o = [] := List.eq_nil_of_length_eq_zero (by omega)
          have w0 : w = [] := List.eq_nil_of_length_eq_zero (by omega)
          subst o0 w0
          obtain ⟨H, h1, h2⟩ := ih (i + 1) (k + 1) (i + 1) out [] [] (by omega) (by omega) (by omega) (by simp) (by simp) (by omega)
          refine ⟨H, h1, ?_⟩
          have : n = i := by simpa using hn
          subst this
          rw [List.drop_eq_getElem_cons hia, List.drop_eq_getElem_cons hkb, heq]
          exact mk_cons _ h2
        · rw [ifs_pos (by simp; omega), ifs_pos (sz56 _ (by omega))]
          obtain ⟨H, h1, h2⟩ := ih (i + 1) (k + 1) (i + 1) (out ++ [((n : Int), o, w)]) [] [] (by omega) (by omega) (by omega) (by simp) (by simp) (by rw [List.length_append, List.length_singleton]; omega)
          refine ⟨((n : Int), o, w) :: H, ?_, [], a.drop i, b.drop k, by simp, by simp, by simp, h0, ?_⟩
          · rw [h1, List.append_assoc]; rfl
          · rw [List.drop_eq_getElem_cons hia, List.drop_eq_getElem_cons hkb, heq]
            show Mk _ _ (n + 0 + o.length) H
            rw [show n + 0 + o.length = i by omega]
            exact mk_cons _ h2
      · have hr1 : a.length - i - 1 < rows.length := by rw [hr.1]; omega
        have hr2 : a.length - i < rows.length := by rw [hr.1]; omega
        have hl1 := hr.2 _ (List.getElem_mem hr1)
        have hl2 := hr.2 _ (List.getElem_mem hr2)
        have e1 : IntKind.i64.wrap ((a.length : Int) - (i : Int)) = ((a.length - i : Nat) : Int) := by rw [wr _ (by omega)]; omega
        have e2 : IntKind.i64.wrap (((a.length - i : Nat) : Int) - 1) = ((a.length - i - 1 : Nat) : Int) := by rw [wr _ (by omega)]; omega
        have hk1 : k < (rows[a.length - i - 1]'hr1).length := by omega
        have hk2 : k + 1 < (rows[a.length - i]'hr2).length := by omega
        rw [ifs_neg (by simpa using heq), ifs_neg (by simp; omega), ifs_pos (by simpa using hia)]
        simp only [e1, e2, Int.toNat_natCast]
        rw [ifs_pos (by omega), at_ok hr1, ifs_pos (by omega), at_ok hk1, ifs_pos (by omega), at_ok hr2, ifs_pos (by omega), at_ok hk2]
        by_cases hc : (rows[a.length - i - 1]'hr1)[k] ≥ (rows[a.length - i]'hr2)[k + 1]
        · rw [ifs_pos (by simpa using hc), ifs_pos (by omega), at_ok hia]
          exact hold hia _ rfl
        · rw [ifs_neg (by simpa using hc), ifs_pos (by omega), at_ok hkb]
          exact hnew hkb _ rfl
    · have hkb' : k = b.length := by omega
      rw [ifs_neg (by simpa using hkb), ifs_pos (by simp [hkb']), ifs_pos (by omega), at_ok hia]
      exact hold hia _ rfl
  · rw [ifs_pos (by simpa using hia)]
    by_cases hkb : k < b.length
    · rw [ifs_pos (by simpa using hkb), ifs_neg (by simpa using hia), ifs_neg (by simp; omega), ifs_neg (by simpa using hia), ifs_pos (by omega), at_ok hkb]
      exact hnew hkb _ rfl
    · rw [ifs_neg (by simpa using hkb)]
      have da : a.drop i = [] := List.drop_of_length_le (by omega)
      have db : b.drop k = [] := List.drop_of_length_le (by omega)
      by_cases h0 : o.length + w.length = 0
      · have o0 : o = [] := List.eq_nil_of_length_eq_zero (by omega)
        have w0 : w = [] := List.eq_nil_of_length_eq_zero (by omega)
        subst o0 w0
        rw [ifs_neg (by simp)]
        exact ⟨[], by rw [List.append_nil], by rw [da, db]; rfl⟩
      · rw [ifs_pos (by simp; omega), ifs_pos (sz56 _ (by omega))]
        refine ⟨[((n : Int), o, w)], rfl, [], [], [], by rw [da]; simp, by rw [db]; simp, by simp, h0, rfl⟩
theorem walk_go {a b : List Txt} {rows : List (List Int)} (ha : a.length ≤ 400) (hb : b.length ≤ 400) (hr : Rw rows a.length b.length) : ∀ (d i k n : Nat) (out : List Hk3) (o w : List Txt), a.length + b.length ≤ d + i + k → i ≤ a.length → k ≤ b.length → n + o.length = i → w.length ≤ k → out.length ≤ i + k →
    Res a b rows i k n out o w (l14_8v1 a b (i : Int) (k : Int) rows out (n : Int) o w)
  | 0, i, k, n, out, o, w, hd, hi, hk, hn, hw, ho => walk_step ha hb hr i k n out o w hi hk hn hw ho (fun i' k' n' out' o' w' h1 h2 h3 _ _ _ => by omega)
  | d + 1, i, k, n, out, o, w, hd, hi, hk, hn, hw, ho => walk_step ha hb hr i k n out o w hi hk hn hw ho (fun i' k' n' out' o' w' h1 h2 h3 h4 h5 h6 => walk_go ha hb hr d i' k' n' out' o' w' (by omega) h2 h3 h4 h5 h6)
theorem hunks4_ok (a b : List Txt) (ha : a.length ≤ 400) (hb : b.length ≤ 400) : ∃ H, cR 14 [RT.own 43 ty43] [inj (.sl .str) a, inj (.sl .str) b] = some H ∧ Mk a b 0 H := by
  obtain ⟨rows, h1, hr⟩ := alike4_ok a b ha hb
  obtain ⟨H, h2, h3⟩ := walk_start ha hb hr 0 0 0 [] [] [] (Nat.zero_le _) (Nat.zero_le _) rfl (Nat.le_refl _) (Nat.le_refl _) (fun i' k' n' out' o' w' g1 g2 g3 g4 g5 g6 => walk_go ha hb hr (a.length + b.length) i' k' n' out' o' w' (by omega) g2 g3 g4 g5 g6)
  refine ⟨H, callT_of ((e14 a b).trans ?_), by simpa using h3⟩
  rw [ifs_pos (by simp; omega), ifs_neg (by simp; omega), h1, Option.bind_some]
  exact h2

end Go.Proofs.YtabhngbpkfdeiaaGreatDoor.Sp
end
section
/- PrimHunks answers true. Conditions: what the parameters' kinds tell. -/
set_option linter.unusedVariables false
set_option linter.unusedSimpArgs false
namespace Go.Proofs.YtabhngbpkfdeiaaGreatDoor.Sp
open Go Go.Proofs.YtabhngbpkfdeiaaGreatDoor.Ab Go.Proofs.YtabhngbpkfdeiaaGreatDoor.Tb Go.Proofs.YtabhngbpkfdeiaaGreatDoor.EText

/-- A tree of one file. -/
theorem one_srt (f : Fil) : Srt [f] := List.pairwise_singleton _ _
theorem mp_one (f : Fil) : mp [f] = upd (mp []) f.1 (some f.2) := by
  have h := mp_put (l := []) List.Pairwise.nil f
  have : put [] f = [f] := rfl
  rw [this] at h
  exact h
theorem one_gd {p : Txt} {ls : List Txt} (hr : rightP p = true) (hc : checkL ls = 0) (n : Nat) (hn : 1 ≤ n) : Gd [(p, false, ls)] n := by
  obtain ⟨h1, h2⟩ := checkL_LOk hc
  refine ⟨⟨one_srt _, fun f hf => ?_, by simp⟩, by simpa using hn, fun f hf => ?_⟩
  · rw [List.mem_singleton.1 hf]; exact ⟨hr, h1, by show ls.length ≤ 3000; omega⟩
  · rw [List.mem_singleton.1 hf]; exact hc
theorem up_one {p : Txt} (h : (names p).length = 1) : upP p = nope := by
  unfold upP
  have : (names p).dropLast = [] := List.eq_nil_of_length_eq_zero (by rw [List.length_dropLast]; omega)
  rw [this]
  rfl
theorem tof_one (p : Txt) (ls : List Txt) (hr : rightP p = true) (hc : checkL ls = 0) (hu : upP p = nope) : cR 13 [RT.d ty31, RT.d (.int .i64)] [inj (.sl ty35) [(p, false, ls)]] = some (([(p, false, ls)], ()), 0) := by
  obtain ⟨l1, l2⟩ := checkL_LOk hc
  have hps := right_size hr
  have hsz : ∀ f ∈ [(p, false, ls)], f.1.size ≤ 100000 := fun f hf => by rw [List.mem_singleton.1 hf]; show p.size ≤ 100000; omega
  obtain ⟨z, h1, h2⟩ := sortst_ok [(p, false, ls)] ⟨hsz, by simp⟩
  have hz : z = [(p, false, ls)] := by
    have hl : z.length = 1 := h2.1
    match z, hl, h2.2 with
    | [y], _, hm => rw [List.mem_singleton.1 (hm y (by simp))]
  subst hz
  have hcome : comeP [] (p, false, ls) = ([(p, false, ls)], 0) := by
    unfold comeP
    have hd : dirB [] (upP p) = true := by rw [hu]; rfl
    rw [if_neg (by simp [hr]), if_neg (by simp [hasP]), if_neg (by simp [hd]), if_neg (by simp [hc]), if_neg (by simp)]
    rfl
  have hco := come_ok [] (gd_nil 0).tk (p, false, ls) (hsz _ (by simp)) l1
  rw [hcome] at hco
  have e3 : IntKind.i64.wrap ((0 : Int) + 1) = 1 := wr _ (by omega)
  have hend : l13_7v1 1 1 1 [(p, false, ls)] [(p, false, ls)] = some (injRs [RT.d ty31, RT.d (.int .i64)] (([(p, false, ls)], ()), 0)) := by
    refine cutG_step ((q13_7v1 ..).trans ?_)
    rw [ifs_neg (by simp)]
  refine callT_of ((e13 [(p, false, ls)]).trans ?_)
  rw [ifs_neg (by simp), clonef_ok _ (by simp), Option.bind_some]
  refine (congrArg (fun o => Option.bind o _) h1).trans ?_
  rw [Option.bind_some]
  refine cutG_step ((q13_7 ..).trans ?_)
  rw [ifs_pos (by simp), ifs_pos (by simp), show ([(p, false, ls)] : List Fil)[Int.toNat 0]? = some (p, false, ls) from rfl, Option.bind_some]
  refine (congrArg (fun o => Option.bind o _) hco).trans ?_
  rw [Option.bind_some, ifs_neg (by simp), e3]
  exact hend
/-- A hunk's step on a tree of one file. -/
theorem step_one {p : Txt} {c c' o w : List Txt} {n : Int} (hr : rightP p = true) (hc : checkL c = 0) (hc' : checkL c' = 0) (h : Hnk c (6, p, zt, n, o, w) c') (h0 : 0 ≤ n) (hl : o.length + w.length ≠ 0) (ho : checkL o = 0) (hw : checkL w = 0) :
    applyP [(p, false, c)] (6, p, zt, n, o, w) = ([(p, false, c')], 0) := by
  have hchk : chk (6, p, zt, n, o, w) = 0 := by
    unfold chk
    rw [if_neg, if_neg, if_neg]
    · rintro ⟨_, h | h | h | h⟩
      · simp only at h; omega
      · exact hl h
      · exact h ho
      · exact h hw
    · rintro (h | ⟨h, _⟩)
      · rw [hr] at h; cases h
      · exact absurd h (show ¬ (6 : Int) = 5 by decide)
    · rintro (h | h | ⟨_, h⟩ | ⟨h, _⟩)
      · exact absurd h (show ¬ (6 : Int) < 1 by decide)
      · exact absurd h (show ¬ (6 : Int) < 6 by decide)
      · exact h rfl
      · exact h rfl
  have hm : mp [(p, false, c)] p = some (false, c) := by rw [mp_one]; exact upd_at _ _ _
  obtain ⟨l', e1, e2, e3⟩ := apply_of (one_gd hr hc 1 (Nat.le_refl _)) (by omega) hchk (m' := upd (mp [(p, false, c)]) p (some (false, c'))) (.inr (.inr (.inr (.inr (.inr ⟨rfl, c, c', hm, h, rfl⟩))))) (fun x e he => by
    by_cases hx : x = p
    · rw [hx, upd_at] at he
      cases he
      exact hc'
    · rw [upd_ne _ _ hx, mp_one, upd_ne _ _ hx] at he
      cases he)
  rw [e1]
  have : mp l' = mp [(p, false, c')] := by
    rw [e2, mp_one, mp_one, upd_upd]
  rw [mp_ext e3.tk.s (one_srt _) this]
theorem phnk_ok (p : Txt) (h : Hk3) (h1 : h.2.1.length ≤ 1000000) (h2 : h.2.2.length ≤ 1000000) : cR 16 [RT.d ty40] [inj .str p, inj ty43 h] = some (6, p, zt, h.1, h.2.1, h.2.2) := by
  refine callT_of ((e16 p h).trans ?_)
  rw [clone_ok _ (by omega), Option.bind_some, clone_ok _ (by omega), Option.bind_some, List.take_length, List.take_length]
theorem checkL_of {l : List Txt} (hn : l.length ≤ 2000) (h : ∀ s ∈ l, lineB s = true) : checkL l = 0 := by
  unfold checkL
  rw [if_neg (by omega), if_pos (List.all_eq_true.2 h)]
theorem primHunks_of (p : Txt) (a b : List Txt) (ha : a.length ≤ top) (hb : b.length ≤ top) :
    callW W0 3 [inj .str p, inj (.sl .str) a, inj (.sl .str) b] = some (injRs [RT.d .bool] true) := by
  refine callG_step ((e3 p a b).trans ?_)
  have aw : Option.bind (cR 12 [RT.d .bool] []) (fun r => some (injRs [RT.d .bool] r)) = some (injRs [RT.d .bool] true) := by rw [awake7_ok, Option.bind_some]
  by_cases hp : ¬ (p.size ≤ 300)
  · rw [ifs_neg (by simp; omega)]; exact aw
  replace hp := Decidable.not_not.1 hp
  rw [ifs_pos (by simp; omega), right5_ok, Option.bind_some]
  cases hr : rightP p with
  | false => rw [ifs_neg (by simp)]; exact aw
  | true =>
  rw [ifs_pos (by rfl), names5_ok, Option.bind_some]
  by_cases hn : ¬ ((names p).length = 1)
  · rw [ifs_neg (by simp; omega)]; exact aw
  replace hn := Decidable.not_not.1 hn
  rw [ifs_pos (by simp [hn]), light3_ok _ ha, Option.bind_some]
  cases h3 : light3 a with
  | false => rw [ifs_neg (by simp)]; exact aw
  | true =>
  rw [ifs_pos (by rfl), light3_ok _ hb, Option.bind_some]
  cases h4 : light3 b with
  | false => rw [ifs_neg (by simp)]; exact aw
  | true =>
  obtain ⟨a60, asz⟩ := light3_spec h3
  obtain ⟨b60, bsz⟩ := light3_spec h4
  have ht : (300 : Nat) ≤ top := by decide
  have hao : LOk a := ⟨ha, fun s hs => Nat.le_trans (asz s hs) ht⟩
  have hbo : LOk b := ⟨hb, fun s hs => Nat.le_trans (bsz s hs) ht⟩
  rw [ifs_pos (by rfl), check3_ok a hao, Option.bind_some]
  by_cases hca : ¬ (checkL a = 0)
  · rw [ifs_neg (by simpa using hca)]; exact aw
  replace hca := Decidable.not_not.1 hca
  rw [ifs_pos (by simp [hca]), check3_ok b hbo, Option.bind_some]
  by_cases hcb : ¬ (checkL b = 0)
  · rw [ifs_pos (by simpa using hcb)]; exact aw
  replace hcb := Decidable.not_not.1 hcb
  rw [ifs_neg (by simp [hcb])]
  have ala := checkL_all hca
  have alb := checkL_all hcb
  rw [List.all_eq_true] at ala alb
  have htof := tof_one p a hr hca (up_one hn)
  refine (congrArg (fun o => Option.bind o _) htof).trans ?_
  obtain ⟨H, hh, hmk⟩ := hunks4_ok a b (by omega) (by omega)
  rw [Option.bind_some]
  refine (congrArg (fun o => Option.bind o _) hh).trans ?_
  rw [Option.bind_some]
  obtain ⟨c, c1, c2, c3⟩ := mk_run p (fun s => lineB s = true ∧ s.size ≤ 300) (z := []) hmk rfl (fun s hs => (by cases hs)) (fun s hs => ⟨ala s hs, asz s hs⟩) (fun s hs => ⟨alb s hs, bsz s hs⟩)
  rw [List.nil_append] at c1 c2
  have hHl := mk_len hmk
  have cck : ∀ j, j ≤ H.length → checkL (c j) = 0 ∧ (c j).length ≤ 120 ∧ ∀ s ∈ c j, s.size ≤ 300 := fun j hj => by
    by_cases h : j < H.length
    · have := (c3 j h).2.2.2.1
      refine ⟨checkL_of (by have := this.n; simp at this; omega) (fun s hs => (this.p s hs).1), by have := this.n; simp at this; omega, fun s hs => (this.p s hs).2⟩
    · have : j = H.length := by omega
      rw [this, c1]
      exact ⟨hca, by omega, asz⟩
  have key : ∀ (j : Nat), j ≤ H.length → l3_6 p b ((j : Int) - 1) [(p, false, c j)] H = some (injRs [RT.d .bool] true) := by
    intro j
    induction j with
    | zero =>
      intro _
      obtain ⟨k1, k2, k3⟩ := cck 0 (Nat.zero_le _)
      have hg := one_gd hr k1 1 (Nat.le_refl _)
      refine cutG_step ((q3_6 ..).trans ?_)
      rw [ifs_neg (by simp)]
      have hget := get_ok [(p, false, c 0)] hg.tk p (by omega)
      have hgp : getP [(p, false, c 0)] p = ((p, false, c 0), true) := getP_of hg.tk.s (g := (p, false, c 0)) (by simp)
      rw [hgp] at hget
      refine (congrArg (fun o => Option.bind o _) hget).trans ?_
      rw [Option.bind_some, awake7_ok, Option.bind_some, ifs_pos rfl, ifs_pos rfl, same1_ok _ _ (by show (c 0).length ≤ top; omega), Option.bind_some]
      rw [c2, decide_eq_true rfl]
    | succ j ih =>
      intro hj
      have hlt : j < H.length := by omega
      obtain ⟨k1, k2, k3⟩ := cck (j + 1) hj
      obtain ⟨m1, m2, m3⟩ := cck j (by omega)
      obtain ⟨g1, g2, g3, g4, g5, g6⟩ := c3 j hlt
      have g5n := g5.n
      have g6n := g6.n
      refine cutG_step ((q3_6 ..).trans ?_)
      have e0 : (((j + 1 : Nat) : Int) - 1) = (j : Int) := by omega
      have e2 : IntKind.i64.wrap ((j : Int) - 1) = (j : Int) - 1 := wr _ (by omega)
      rw [e0, ifs_pos (by simp), ifs_pos (by omega), Int.toNat_natCast, at_ok hlt, phnk_ok p H[j] (by omega) (by omega), Option.bind_some, e2]
      have co := checkL_of (l := H[j].2.1) (by omega) (fun s hs => (g5.p s hs).1)
      have cw := checkL_of (l := H[j].2.2) (by omega) (fun s hs => (g6.p s hs).1)
      have hst := step_one hr k1 m1 g1 g2 g3 co cw
      have hap := papply_ok [(p, false, c (j + 1))] (one_gd hr k1 1 (Nat.le_refl _)).tk (6, p, zt, H[j].1, H[j].2.1, H[j].2.2) ⟨by show p.size ≤ 100000; omega, by show zt.size ≤ 100000; decide, ⟨by show H[j].2.1.length ≤ 1000000; omega, fun s hs => by have := (g5.p s hs).2; omega⟩, ⟨by show H[j].2.2.length ≤ 1000000; omega, fun s hs => by have := (g6.p s hs).2; omega⟩⟩
      have hst' : applyP [(p, false, c (j + 1))] (6, p, zt, H[j].1, H[j].2.1, H[j].2.2) = ([(p, false, c j)], 0) := hst
      rw [hst'] at hap
      refine (congrArg (fun o => Option.bind o _) hap).trans ?_
      rw [Option.bind_some, ifs_neg (by simp)]
      exact ih (by omega)
  have e3 : IntKind.i64.wrap ((H.length : Int) - 1) = (H.length : Int) - 1 := wr _ (by omega)
  have := key H.length (Nat.le_refl _)
  rw [c1] at this
  rw [e3]
  exact this

end Go.Proofs.YtabhngbpkfdeiaaGreatDoor.Sp
end
