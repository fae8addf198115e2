/- prim.Apply and prim.All in plain words. Conditions: lengths as they stand in each statement. How a row of files, and a law's struct of them, stand in memory. No condition. The laws FusePairs and FuseAll as plain Lean: each answers true. Conditions: lengths and numbers are those of the machine. The law CommuteThree as plain Lean: it answers true. Conditions: lengths and numbers are those of the machine. The law CommuteThree as plain Lean: it answers true. Conditions: lengths and numbers are those of the machine. CommuteSame answers true. Conditions: what the parameters' kinds tell. What steps b -/
import Derived.Test.YtabhngbpkfdeiaaGreatDoorM5
import Derived.Test.YtabhngbpkfdeiaaGreatDoorM4
section
/- prim.Apply and prim.All in plain words. Conditions: lengths as they stand in each statement. -/
set_option linter.unusedVariables false
set_option linter.unusedSimpArgs false
namespace Go.Proofs.YtabhngbpkfdeiaaGreatDoor.Sp
open Go Go.Proofs.YtabhngbpkfdeiaaGreatDoor.Ab Go.Proofs.YtabhngbpkfdeiaaGreatDoor.Tb Go.Proofs.YtabhngbpkfdeiaaGreatDoor.EText

abbrev hk (p : Prm) : Int × List Txt × List Txt := p.2.2.2
theorem dcheck1_ok (p : Prm) (h0 : 0 ≤ p.2.2.2.1) (h1 : p.2.2.2.2.1.length + p.2.2.2.2.2.length ≠ 0) (hm : Md p) : cR 131 [RT.d (.int .i64)] [inj (.sl ty43) [hk p]] = some 0 := by
  have e1 : IntKind.i64.wrap ((0 : Int) + 1) = 1 := wr _ (by omega)
  have e2 : IntKind.i64.wrap ((p.2.2.2.2.1.length : Int) + (p.2.2.2.2.2.length : Int)) = ((p.2.2.2.2.1.length + p.2.2.2.2.2.length : Nat) : Int) := by
    have := hm.old.1; have := hm.new.1
    rw [wr _ (by omega)]; omega
  have hend : l131_2 [hk p] [hk p] 1 1 = some (injRs [RT.d (.int .i64)] 0) := by
    refine cutG_step ((q131_2 ..).trans ?_)
    rw [ifs_neg (by simp)]
  have hst : l131_2 [hk p] [hk p] 1 0 = some (injRs [RT.d (.int .i64)] 0) := by
    refine cutG_step ((q131_2 ..).trans ?_)
    rw [ifs_pos (by simp), ifs_pos (by omega), show ([hk p] : List (Int × List Txt × List Txt))[Int.toNat 0]? = some (hk p) from rfl, Option.bind_some, ifs_pos (by simp; omega), e2, ifs_pos (by simp; omega), ifs_neg (by simp), e1]
    exact hend
  exact callT_of ((e131 [hk p]).trans hst)
theorem dapply1_ok (ls : List Txt) (p : Prm) (h0 : 0 ≤ p.2.2.2.1) (h1 : p.2.2.2.2.1.length + p.2.2.2.2.2.length ≠ 0) (hm : Md p) (hls : ls.length ≤ 100000) :
    cR 95 [RT.own 9 .str, RT.d (.int .i64)] [inj (.sl .str) ls, inj (.sl ty43) [hk p]] = some (match hdo ls p with | some x => (x, 0) | none => ([], 13)) := by
  have ho := hm.old.1
  have hw := hm.new.1
  have hw' : (hk p).2.2.length ≤ 1000000 := hw
  refine callT_of ((e95 ls [hk p]).trans ?_)
  rw [dcheck1_ok p h0 h1 hm, Option.bind_some, ifs_neg (by simp)]
  refine cutG_step ((q95_7 ..).trans ?_)
  rw [ifs_pos (by simp), ifs_pos (by omega), show ([hk p] : List (Int × List Txt × List Txt))[Int.toNat 0]? = some (hk p) from rfl, Option.bind_some]
  obtain ⟨n, hn⟩ : ∃ n : Nat, p.2.2.2.1 = n := ⟨p.2.2.2.1.toNat, by omega⟩
  unfold hdo
  show ifs (decide (p.2.2.2.1 > (ls.length : Int)) = false) _ _ = _
  rw [hn, Int.toNat_natCast]
  by_cases c1 : n > ls.length
  · rw [ifs_neg (by simp; omega), if_neg (by omega)]
  · rw [ifs_pos (by simp; omega)]
    show ifs (decide ((p.2.2.2.2.1.length : Int) > IntKind.i64.wrap ((ls.length : Int) - (n : Int))) = false) _ _ = _
    have e1 : IntKind.i64.wrap ((ls.length : Int) - (n : Int)) = (ls.length : Int) - (n : Int) := wr _ (by omega)
    rw [e1]
    by_cases c2 : p.2.2.2.2.1.length > ls.length - n
    · rw [ifs_neg (by simp; omega), if_neg (by omega)]
    · rw [ifs_pos (by simp; omega)]
      have e2 : IntKind.i64.wrap ((n : Int) + (p.2.2.2.2.1.length : Int)) = ((n + p.2.2.2.2.1.length : Nat) : Int) := by rw [wr _ (by omega)]; omega
      simp only [e2]
      rw [ifs_pos (by omega), ifs_pos (by omega)]
      simp only [Int.toNat_natCast]
      rw [lsame_ok _ _ (by rw [List.length_drop, List.length_take]; have : (100000 : Nat) ≤ top := by decide
                           omega), Option.bind_some]
      have e3 : List.drop n (List.take (n + p.2.2.2.2.1.length) ls) = (ls.drop n).take p.2.2.2.2.1.length := by rw [List.drop_take]; congr 1; omega
      rw [e3]
      by_cases c3 : (ls.drop n).take p.2.2.2.2.1.length = p.2.2.2.2.1
      · rw [ifs_neg (by simp [c3]), ifs_pos (by omega), ifs_pos (by omega), if_pos ⟨by omega, c3⟩]
        have e4 : IntKind.i64.wrap ((0 : Int) + 1) = 1 := wr _ (by omega)
        rw [ifs_pos (by simp only [List.length_nil, List.length_drop, List.length_take]; omega), ifs_pos (by simp only [List.length_nil, List.length_drop, List.length_take, List.length_append]; omega), e4]
        refine cutG_step ((q95_7 ..).trans ?_)
        rw [ifs_neg (by simp), ifs_pos (by omega), ifs_pos (by omega)]
        rw [ifs_pos (by simp only [List.length_nil, List.length_drop, List.length_take, List.length_append, Int.toNat_natCast]; omega)]
        simp only [Int.toNat_natCast, List.take_length, List.take_nil, List.nil_append, Int.toNat_zero, List.drop_zero]
      · rw [ifs_pos (by simp [c3]), if_neg (by rintro ⟨_, h⟩; exact c3 h)]
theorem pgone_ok (l : List Fil) (hl : Tk l) (p : Txt) (hp : p.size ≤ 100000) (d : Bool) : cR 50 [RT.d ty31, RT.d (.int .i64)] [inj ty31 (l, ()), inj .str p, inj .bool d] = some (((goneP l p d).1, ()), (goneP l p d).2) := by
  refine callT_of ((e50 (l, ()) p d).trans ?_)
  rw [get_ok l hl p hp, Option.bind_some, getP_snd]
  unfold goneP
  cases hh : hasP l p with
  | false => rw [ifs_pos (by rfl), if_pos rfl]
  | true =>
    rw [ifs_neg (by simp), if_neg (by simp)]
    by_cases hd : (getP l p).1.2.1 = d
    · rw [ifs_neg (by simp [hd]), if_neg (by simp [hd]), lenpos]
      by_cases h0 : (getP l p).1.2.2 = []
      · rw [ifs_neg (by simp [h0]), if_neg (by simp [h0]), remove_ok l hl p hp, Option.bind_some]
      · rw [ifs_pos (by simpa using h0), if_pos h0]
    · rw [ifs_pos (by simpa using hd), if_pos hd]
theorem write2_ok (l : List Fil) (hl : Tk l) (p : Txt) (hp : p.size ≤ 100000) (ls : List Txt) (hls : LOk ls) : cR 53 [RT.d ty31, RT.d (.int .i64)] [inj ty31 (l, ()), inj .str p, inj (.sl .str) ls] = some (((wrP l p ls).1, ()), (wrP l p ls).2) := by
  refine callT_of ((e53 (l, ()) p ls).trans ?_)
  rw [pright_ok p hp, Option.bind_some, get_ok l hl p hp, Option.bind_some, getP_snd, room_ok l hl p hp, Option.bind_some, lcheck_ok ls hls, Option.bind_some]
  unfold wrP
  cases hr : rightP p with
  | false => rw [ifs_pos (by rfl), if_pos rfl]
  | true =>
    rw [ifs_neg (by simp), if_neg (by simp)]
    cases hd : (getP l p).1.2.1 with
    | true => rw [ifs_pos rfl, if_pos rfl]
    | false =>
      rw [ifs_neg (by simp), if_neg (by simp)]
      by_cases hc : checkL ls = 0
      · rw [ifs_neg (by simp [hc]), if_neg (by simp [hc])]
        have h2 := (checkL_LOk hc).2
        have hw := with_ok l hl (p, false, ls) ⟨hr, hls, (by show ls.length ≤ 3000; omega)⟩
        by_cases h0 : roomB l p = 0
        · rw [ifs_neg (by simp [h0]), if_neg (by simp [h0]), hw, Option.bind_some]
        · rw [ifs_pos (by simpa using h0)]
          cases hh : hasP l p with
          | false => rw [ifs_pos (by rfl), if_pos ⟨h0, rfl⟩]
          | true => rw [ifs_neg (by simp), if_neg (by simp), hw, Option.bind_some]
      · rw [ifs_pos (by simpa using hc), if_pos hc]
theorem hdo_LOk {ls x : List Txt} {p : Prm} (hm : Md p) (h : hdo ls p = some x) (hl : LOk ls) (hn : ls.length ≤ 100000) : LOk x := by
  unfold hdo at h
  split at h
  · cases h
    have := hm.new.1
    have ht : (10000000 : Nat) ≤ top := by decide
    refine ⟨by simp only [List.length_append, List.length_take, List.length_drop]; omega, fun s hs => ?_⟩
    rcases List.mem_append.1 hs with hs | hs
    · rcases List.mem_append.1 hs with hs | hs
      · exact hl.2 s (List.mem_of_mem_take hs)
      · exact hm.new.ok.2 s hs
    · exact hl.2 s (List.mem_of_mem_drop hs)
  · cases h
theorem phunk_ok (l : List Fil) (hl : Tk l) (p : Prm) (hm : Md p) (hc : chk p = 0) (k : p.1 = 6) : cR 52 [RT.d ty31, RT.d (.int .i64)] [inj ty31 (l, ()), inj ty40 p] = some (((hunkP l p).1, ()), (hunkP l p).2) := by
  have h6 := chk_hunk hc k
  refine callT_of ((e52 (l, ()) p).trans ?_)
  rw [get_ok l hl _ hm.path, Option.bind_some, getP_snd]
  unfold hunkP
  cases hh : hasP l p.2.1 with
  | false => rw [ifs_pos (by rfl), if_pos rfl]
  | true =>
    have hf := hl.f _ (getP_mem hh).1
    rw [ifs_neg (by simp), if_neg (by simp)]
    cases hd : (getP l p.2.1).1.2.1 with
    | true => rw [ifs_pos rfl, if_pos rfl]
    | false =>
      have hn := hf.n
      have ha := dapply1_ok (getP l p.2.1).1.2.2 p h6.1 h6.2.1 hm (by omega)
      rw [ifs_neg (by simp), if_neg (by simp)]
      refine (congrArg (fun o => Option.bind o _) ha).trans ?_
      rw [Option.bind_some]
      cases hx : hdo (getP l p.2.1).1.2.2 p with
      | none =>
        simp only
        rw [ifs_pos (by simp)]
      | some x =>
        simp only
        rw [ifs_neg (by simp), List.take_length, write2_ok l hl _ hm.path x (hdo_LOk hm hx hf.l (by omega)), Option.bind_some]
theorem papply_ok (l : List Fil) (hl : Tk l) (p : Prm) (hm : Md p) : cR 15 [RT.d ty31, RT.d (.int .i64)] [inj ty31 (l, ()), inj ty40 p] = some (((applyP l p).1, ()), (applyP l p).2) := by
  refine callT_of ((e15 (l, ()) p).trans ?_)
  rw [pcheck_ok p hm, Option.bind_some]
  unfold applyP
  by_cases hc : chk p = 0
  · rw [ifs_neg (by simp [hc]), if_neg (by simp [hc])]
    by_cases k1 : p.1 = 1
    · rw [ifs_pos (by simp [k1]), if_pos k1, mkdir_ok l hl _ hm.path, Option.bind_some]
    rw [ifs_neg (by simpa using k1), if_neg k1]
    by_cases k2 : p.1 = 2
    · rw [ifs_pos (by simp [k2]), if_pos (.inl k2), show (p.1 == (2 : Int)) = decide (p.1 = 2) from rfl, pgone_ok l hl _ hm.path, Option.bind_some]
    rw [ifs_neg (by simpa using k2)]
    by_cases k4 : p.1 = 4
    · rw [ifs_pos (by simp [k4]), if_pos (.inr k4), show (p.1 == (2 : Int)) = decide (p.1 = 2) from rfl, pgone_ok l hl _ hm.path, Option.bind_some]
    rw [ifs_neg (by simpa using k4), if_neg (by omega)]
    by_cases k5 : p.1 = 5
    · rw [ifs_pos (by simp [k5]), if_pos k5, move_ok l hl _ _ hm.path hm.dst, Option.bind_some]
    rw [ifs_neg (by simpa using k5), if_neg k5]
    by_cases k6 : p.1 = 6
    · rw [ifs_pos (by simp [k6]), if_pos k6, phunk_ok l hl p hm hc k6, Option.bind_some]
    rw [ifs_neg (by simpa using k6), if_neg k6, get_ok l hl _ hm.path, Option.bind_some, getP_snd]
    cases hh : hasP l p.2.1 with
    | true => rw [ifs_pos rfl, if_pos rfl]
    | false =>
      rw [ifs_neg (by simp), if_neg (by simp), write2_ok l hl _ hm.path [] ⟨Nat.zero_le _, fun s hs => (by cases hs)⟩, Option.bind_some]
  · rw [ifs_pos (by simpa using hc), if_pos hc]
theorem pall_loop (s : List Prm) (hs : ∀ p ∈ s, Md p) : ∀ (r : List Prm) (i : Nat) (l : List Fil) (n : Nat), s.drop i = r → i ≤ s.length → s.length ≤ 100000 → Gd l n → n + r.length < 500 →
    l21_2 s (s.length : Int) (i : Int) l = some (injRs [RT.d ty31, RT.d (.int .i64)] (((appsP l r).1, ()), (appsP l r).2))
  | [], i, l, n, hr, hi, h100, hg, hn => by
    have hlen := congrArg List.length hr
    rw [List.length_drop, List.length_nil] at hlen
    refine cutG_step ((q21_2 ..).trans ?_)
    rw [ifs_neg (by simp; omega)]
    rfl
  | p :: r, i, l, n, hr, hi, h100, hg, hn => by
    have hlen := congrArg List.length hr
    rw [List.length_drop, List.length_cons] at hlen
    rw [List.length_cons] at hn
    have hlt : i < s.length := by omega
    have hp : s[i] = p := by
      have := List.drop_eq_getElem_cons hlt
      rw [hr] at this
      exact (List.cons.inj this).1.symm
    have hr' : s.drop (i + 1) = r := by
      have := List.drop_eq_getElem_cons hlt
      rw [hr] at this
      exact (List.cons.inj this).2.symm
    have e3 : IntKind.i64.wrap ((i : Int) + 1) = ((i + 1 : Nat) : Int) := by rw [wr _ (by omega)]; omega
    have hpm : Md p := by rw [← hp]; exact hs _ (List.getElem_mem hlt)
    refine cutG_step ((q21_2 ..).trans ?_)
    rw [ifs_pos (by simp; omega), ifs_pos (by omega), Int.toNat_natCast, at_ok hlt, hp, papply_ok l hg.tk p hpm, Option.bind_some, e3]
    have e4 : appsP l (p :: r) = if (applyP l p).2 ≠ 0 then ([], (applyP l p).2) else appsP (applyP l p).1 r := rfl
    rw [e4]
    by_cases h0 : (applyP l p).2 = 0
    · obtain ⟨_, _, hg2⟩ := of_apply hg (by omega) (p := p) (l' := (applyP l p).1) (by rw [← h0])
      have c : ¬ (applyP l p).2 ≠ 0 := by simp [h0]
      rw [ifs_neg (by simp [h0])]
      simp only [if_neg c]
      exact pall_loop s hs r (i + 1) _ (n + 1) hr' (by omega) h100 hg2 (by omega)
    · have c : (applyP l p).2 ≠ 0 := h0
      rw [ifs_pos (by simp [h0])]
      simp only [if_pos c]
theorem pall_ok (l : List Fil) (s : List Prm) {n : Nat} (hg : Gd l n) (hn : n + s.length < 500) (hs : ∀ p ∈ s, Md p) : cR 21 [RT.d ty31, RT.d (.int .i64)] [inj ty31 (l, ()), inj (.sl ty40) s] = some (((appsP l s).1, ()), (appsP l s).2) :=
  callT_of ((e21 (l, ()) s).trans (pall_loop s hs s 0 l n rfl (Nat.zero_le _) (by omega) hg hn))
theorem appsP_nil : ∀ (s : List Prm) (l : List Fil), (appsP l s).2 ≠ 0 → (appsP l s).1 = []
  | [], l, h => absurd rfl h
  | p :: s, l, h => by
    have e4 : appsP l (p :: s) = if (applyP l p).2 ≠ 0 then ([], (applyP l p).2) else appsP (applyP l p).1 s := rfl
    rw [e4] at h ⊢
    split
    · rfl
    · rename_i c; rw [if_neg c] at h; exact appsP_nil s _ h

/-! ### tree.Same; light files -/
theorem tsame_ok (l : List Fil) (hl : l.length ≤ 100000) (hf : ∀ f ∈ l, f.2.2.length ≤ top) : cR 26 [RT.d .bool] [inj ty31 (l, ()), inj ty31 (l, ())] = some true := by
  have h1 : ∀ f ∈ l, cR 62 [RT.d .bool] [inj ty35 f, inj ty35 f] = some true := fun f hm => by
    refine callT_of ((e62 f f).trans ?_)
    rw [ifs_pos (by simp), ifs_pos (by simp), lsame_ok _ _ (hf f hm), Option.bind_some]
    simp
  have h2 : ∀ i, i ≤ l.length → l61_4 l l (l.length : Int) (i : Int) = some (injRs [RT.d .bool] true) := by
    refine upTo (C := fun i => l61_4 l l (l.length : Int) (i : Int) = some (injRs [RT.d .bool] true)) (fun i hi ih => ?_) ?_
    · refine cutG_step ((q61_4 ..).trans ?_)
      have e3 : IntKind.i64.wrap ((i : Int) + 1) = ((i + 1 : Nat) : Int) := by rw [wr _ (by omega)]; omega
      rw [ifs_pos (by simp; omega), ifs_pos (by omega), Int.toNat_natCast, at_ok hi, ifs_pos (by omega), at_ok hi, h1 _ (List.getElem_mem hi), Option.bind_some, ifs_neg (by simp), e3]
      exact ih
    · refine cutG_step ((q61_4 ..).trans ?_)
      rw [ifs_neg (by simp)]
  have h3 : cR 61 [RT.d .bool] [inj (.sl ty35) l, inj (.sl ty35) l, A.c (C.cl 62 [])] = some true := by
    refine callT_of ((e61 l l).trans ?_)
    rw [ifs_neg (by simp)]
    exact h2 0 (Nat.zero_le _)
  refine callT_of ((e26 (l, ()) (l, ())).trans ?_)
  rw [h3, Option.bind_some]
def FOk (f : Fil) : Prop := f.2.2.length ≤ top
def lightF (f : Fil) : Bool := decide (f.1.size ≤ 300) && light3 f.2.2
def light6 (l : List Fil) : Bool := l.all lightF && decide (l.length ≤ 40)
theorem light6_ok (l : List Fil) (hl : l.length ≤ top) (hf : ∀ f ∈ l, FOk f) : cR 19 [RT.d .bool] [inj (.sl ty35) l] = some (light6 l) := by
  have hlp : ∀ i, i ≤ l.length → l19_2 l (i : Int) = some (injRs [RT.d .bool] ((l.drop i).all lightF && decide (l.length ≤ 40))) := by
    refine upTo (C := fun i => l19_2 l (i : Int) = some (injRs [RT.d .bool] ((l.drop i).all lightF && decide (l.length ≤ 40)))) (fun i hi ih => ?_) ?_
    · refine cutG_step ((q19_2 ..).trans ?_)
      rw [List.drop_eq_getElem_cons hi, List.all_cons, ifs_pos (by simp; omega), ifs_pos (by omega), Int.toNat_natCast, at_ok hi, wrS hi hl, ih]
      unfold lightF
      by_cases h1 : l[i].1.size ≤ 300
      · rw [ifs_pos (by simp; omega), ifs_pos (by omega), at_ok hi, light3_ok _ (hf _ (List.getElem_mem hi)), Option.bind_some, decide_eq_true h1]
        cases light3 l[i].2.2 with
        | true => rw [ifs_neg (by simp)]; simp
        | false => rw [ifs_pos (by rfl)]; rfl
      · rw [ifs_neg (by simp; omega), decide_eq_false h1]; rfl
    · refine cutG_step ((q19_2 ..).trans ?_)
      rw [ifs_neg (by simp), List.drop_length, List.all_nil, Bool.true_and, show decide ((l.length : Int) ≤ 40) = decide (l.length ≤ 40) from decide_eq_decide.2 (by omega)]
  have := hlp 0 (Nat.zero_le _)
  rw [List.drop_zero] at this
  exact callT_of ((e19 l).trans this)
theorem light3_spec {l : List Txt} (h : light3 l = true) : l.length ≤ 60 ∧ ∀ s ∈ l, s.size ≤ 300 := by
  unfold light3 at h
  simp only [Bool.and_eq_true, List.all_eq_true, decide_eq_true_eq] at h
  exact ⟨h.2, h.1⟩
theorem light6_spec {l : List Fil} (h : light6 l = true) : l.length ≤ 40 ∧ ∀ f ∈ l, f.1.size ≤ 300 ∧ f.2.2.length ≤ 60 ∧ ∀ s ∈ f.2.2, s.size ≤ 300 := by
  unfold light6 at h
  simp only [Bool.and_eq_true, List.all_eq_true, decide_eq_true_eq] at h
  refine ⟨h.2, fun f hf => ?_⟩
  have := h.1 f hf
  unfold lightF at this
  simp only [Bool.and_eq_true, decide_eq_true_eq] at this
  exact ⟨this.1, light3_spec this.2⟩
theorem light7_spec {l : List Prm} (h : light7 l = true) : l.length ≤ 40 ∧ ∀ p ∈ l, Md p ∧ Fw p 60 := by
  unfold light7 at h
  simp only [Bool.and_eq_true, List.all_eq_true, decide_eq_true_eq] at h
  refine ⟨h.2, fun p hp => ?_⟩
  have := h.1 p hp
  unfold lightP at this
  simp only [Bool.and_eq_true, decide_eq_true_eq] at this
  obtain ⟨⟨⟨a, b⟩, c⟩, d⟩ := this
  obtain ⟨c1, c2⟩ := light3_spec c
  obtain ⟨d1, d2⟩ := light3_spec d
  exact ⟨⟨by omega, by omega, ⟨by omega, fun s hs => by have := c2 s hs; omega⟩, ⟨by omega, fun s hs => by have := d2 s hs; omega⟩⟩, ⟨c1, d1⟩⟩
theorem light_of {l : List Fil} (h : light6 l = true) : (∀ f ∈ l, f.1.size ≤ 100000 ∧ LOk f.2.2) ∧ l.length ≤ 40 := by
  obtain ⟨h1, h2⟩ := light6_spec h
  refine ⟨fun f hf => ?_, h1⟩
  obtain ⟨a, b, c⟩ := h2 f hf
  have ht : (300 : Nat) ≤ top := by decide
  exact ⟨by omega, ⟨by omega, fun s hs => by have := c s hs; omega⟩⟩
end Go.Proofs.YtabhngbpkfdeiaaGreatDoor.Sp
end
section
/- How a row of files, and a law's struct of them, stand in memory. No condition. -/
set_option linter.unusedVariables false
namespace Go.Proofs.YtabhngbpkfdeiaaGreatDoor.SpR
open Go Go.ChangeShapes Go.WideShapes Go.Proofs.YtabhngbpkfdeiaaGreatDoor.Ab Go.Proofs.YtabhngbpkfdeiaaGreatDoor.AbO Go.Proofs.YtabhngbpkfdeiaaGreatDoor.Tb
theorem c_file : Tryz.prog.cellsOf 35 = 3 := by kernel_rfl
theorem c_bool : Tryz.prog.cellsOf 4 = 1 := by kernel_rfl
def QF (c : ByteArray × Bool × List ByteArray) : Prop := QT c.1 ∧ QL c.2.2
theorem op_file : AbO.Op Tryz.prog 35 ty35 QF := by
  intro H enc w base sp held fuel cs x h
  obtain ⟨hl, n, hf⟩ := EOpen.struct_get Tryz.underlying35 h
  rw [c_file] at hl
  obtain ⟨y0, h0⟩ := hf 0 _ rfl
  obtain ⟨y1, h1⟩ := hf 1 _ rfl
  obtain ⟨y2, h2⟩ := hf 2 _ rfl
  replace h0 : DataW.trod enc Tryz.prog w base sp held n 9 ((cs.drop 0).take (Tryz.prog.cellsOf 9)) = some y0 := h0
  rw [c_str] at h0
  replace h1 : DataW.trod enc Tryz.prog w base sp held n 4 ((cs.drop 1).take (Tryz.prog.cellsOf 4)) = some y1 := h1
  rw [c_bool] at h1
  replace h2 : DataW.trod enc Tryz.prog w base sp held n 22 ((cs.drop 2).take (Tryz.prog.cellsOf 22)) = some y2 := h2
  rw [c_strs] at h2
  rw [List.drop_zero] at h0
  obtain ⟨d0, r0, q0⟩ := op_s enc w base sp held n _ _ h0
  obtain ⟨d1, r1, q1⟩ := op_bool Tryz.underlying4 enc w base sp held n _ _ h1
  obtain ⟨d2, r2, q2⟩ := op_ss enc w base sp held n _ _ h2
  refine ⟨(d0, d1, d2), pair_T r0 (pair_T r1 ?_), q0, q2⟩
  simp only [List.drop_drop]
  rw [List.take_of_length_le (by rw [List.length_drop]; omega)] at r2
  exact r2
theorem op_files : AbO.Op Tryz.prog 29 (.sl ty35) (fun l => l.length ≤ maxLen ∧ ∀ c ∈ l, QF c) := op_slice (T := ty35) Tryz.underlying29 c_file (by decide) op_file
end Go.Proofs.YtabhngbpkfdeiaaGreatDoor.SpR
namespace Go.Proofs.YtabhngbpkfdeiaaGreatDoor.Sp
open Go
theorem file_of {c : Fil} (h : SpR.QF c) : FOk c := Nat.le_trans h.2.1 (by decide)
theorem prim_of {p : Prm} (h : SpR.QP p) : POk p := ⟨Nat.le_trans h.2.2.2.2.1.1 (by decide), Nat.le_trans h.2.2.2.2.2.1 (by decide)⟩
theorem lenF_of {n : Nat} (h : n ≤ maxLen) : n ≤ top := Nat.le_trans h (by decide)
end Go.Proofs.YtabhngbpkfdeiaaGreatDoor.Sp
end
section
/- The laws FusePairs and FuseAll as plain Lean: each answers true. Conditions: lengths and numbers are those of the machine. -/
set_option linter.unusedVariables false
set_option linter.unusedSimpArgs false
namespace Go.Proofs.YtabhngbpkfdeiaaGreatDoor.Sp
open Go Go.Proofs.YtabhngbpkfdeiaaGreatDoor.Ab Go.Proofs.YtabhngbpkfdeiaaGreatDoor.Tb Go.Proofs.YtabhngbpkfdeiaaGreatDoor.EText

/-- An answer found by running the machine. -/
theorem callT_ofN {f : FuncId} {args : List A} {rts : List RT} {d : dens rts} (k : Nat) (h : callN W0 k f args = some (injRs rts d)) : cR f rts args = some d := by
  show (callW W0 f args).bind (prjRs rts) = some d
  have : callW W0 f args = some (injRs rts d) := limO_of (fun k q x hkq hx => callN_le hkq hx) h
  rw [this]
  exact prj_injRs rts d

/-! ### FuseAll -/
/-! ### FusePairs -/
end Go.Proofs.YtabhngbpkfdeiaaGreatDoor.Sp
end
section
/- The law CommuteThree as plain Lean: it answers true. Conditions: lengths and numbers are those of the machine. -/
set_option linter.unusedVariables false
set_option linter.unusedSimpArgs false
namespace Go.Proofs.YtabhngbpkfdeiaaGreatDoor.Sp
open Go Go.Proofs.YtabhngbpkfdeiaaGreatDoor.Ab Go.Proofs.YtabhngbpkfdeiaaGreatDoor.Tb Go.Proofs.YtabhngbpkfdeiaaGreatDoor.EText

/-- Where two hunks stand the other way round. -/
def Step (same : Prop) (P pn po Q qn qo Q' P' : Int) : Prop :=
  (¬ same ∧ Q' = Q ∧ P' = P) ∨ (same ∧ W64 (Q - pn) > P ∧ Q' = W64 (Q - W64 (pn - po)) ∧ P' = P) ∨ (same ∧ ¬ W64 (Q - pn) > P ∧ W64 (P - qo) > Q ∧ Q' = Q ∧ P' = W64 (P + W64 (qn - qo)))

/-- Of hunks in their range: no number is too great. -/
theorem Step.plain {same : Prop} {P pn po Q qn qo Q' P' : Int} (h : Step same P pn po Q qn qo Q' P') (hP : 0 ≤ P ∧ P ≤ 9223372036854775807) (hQ : 0 ≤ Q ∧ Q ≤ 9223372036854775807) (l1 : 0 ≤ pn ∧ pn ≤ 60) (l2 : 0 ≤ po ∧ po ≤ 60) (l3 : 0 ≤ qn ∧ qn ≤ 60) (l4 : 0 ≤ qo ∧ qo ≤ 60) :
    (¬ same ∧ Q' = Q ∧ P' = P) ∨ (same ∧ Q - pn > P ∧ Q' = W64 (Q - (pn - po)) ∧ P' = P) ∨ (same ∧ ¬ Q - pn > P ∧ P - qo > Q ∧ Q' = Q ∧ P' = W64 (P + (qn - qo))) := by
  unfold Step W64 at h
  unfold W64
  rw [wr (Q - pn) ⟨by omega, by omega⟩, wr (P - qo) ⟨by omega, by omega⟩, wr (pn - po) ⟨by omega, by omega⟩, wr (qn - qo) ⟨by omega, by omega⟩] at h
  exact h

end Go.Proofs.YtabhngbpkfdeiaaGreatDoor.Sp
end
section
/- The law CommuteThree as plain Lean: it answers true. Conditions: lengths and numbers are those of the machine. -/
set_option linter.unusedVariables false
set_option linter.unusedSimpArgs false
namespace Go.Proofs.YtabhngbpkfdeiaaGreatDoor.Sp
open Go Go.Proofs.YtabhngbpkfdeiaaGreatDoor.Ab Go.Proofs.YtabhngbpkfdeiaaGreatDoor.Tb Go.Proofs.YtabhngbpkfdeiaaGreatDoor.EText

theorem Md.setAt {p : Prm} (h : Md p) (n : Int) : Md (setAt p n) := ⟨h.path, h.dst, h.old, h.new⟩
end Go.Proofs.YtabhngbpkfdeiaaGreatDoor.Sp
end
section
/- CommuteSame answers true. Conditions: what the parameters' kinds tell. -/
set_option linter.unusedVariables false
set_option linter.unusedSimpArgs false
namespace Go.Proofs.YtabhngbpkfdeiaaGreatDoor.Sp
open Go Go.Proofs.YtabhngbpkfdeiaaGreatDoor.Ab Go.Proofs.YtabhngbpkfdeiaaGreatDoor.Tb Go.Proofs.YtabhngbpkfdeiaaGreatDoor.EText

theorem gd_tsame {l : List Fil} {n : Nat} (h : Gd l n) (hn : n ≤ 100000) : cR 26 [RT.d .bool] [inj ty31 (l, ()), inj ty31 (l, ())] = some true :=
  tsame_ok l (Nat.le_trans h.n hn) fun f hf => (h.tk.f f hf).l.1
end Go.Proofs.YtabhngbpkfdeiaaGreatDoor.Sp
end
section
/- What steps become comes to the same map as they do; and no neighbours are left that become one. Conditions: as they stand in each statement. -/
set_option linter.unusedVariables false
set_option linter.unusedSimpArgs false
namespace Go.Proofs.YtabhngbpkfdeiaaGreatDoor.Sp
open Go Go.Proofs.YtabhngbpkfdeiaaGreatDoor.Ab Go.Proofs.YtabhngbpkfdeiaaGreatDoor.Tb Go.Proofs.YtabhngbpkfdeiaaGreatDoor.EText

/-- Files as they may be. -/
def Gm (m : Mp) : Prop := ∀ x e, m x = some e → checkL e.2 = 0
def RunG : List Prm → Mp → Mp → Prop
  | [], m, m' => m = m'
  | p :: l, m, m' => chk p = 0 ∧ ∃ m1, Stp p m m1 ∧ Gm m1 ∧ RunG l m1 m'
theorem runG_app : ∀ {a b : List Prm} {m m' : Mp}, RunG (a ++ b) m m' ↔ ∃ m1, RunG a m m1 ∧ RunG b m1 m'
  | [], b, m, m' => ⟨fun h => ⟨m, rfl, h⟩, fun ⟨m1, h1, h2⟩ => by cases h1; exact h2⟩
  | p :: a, b, m, m' => by
    constructor
    · rintro ⟨hc, m1, h1, hg, h2⟩
      obtain ⟨m2, h3, h4⟩ := runG_app.1 h2
      exact ⟨m2, ⟨hc, m1, h1, hg, h3⟩, h4⟩
    · rintro ⟨m2, ⟨hc, m1, h1, hg, h3⟩, h4⟩
      exact ⟨hc, m1, h1, hg, runG_app.2 ⟨m2, h3, h4⟩⟩
theorem runG_of : ∀ {s : List Prm} {l l' : List Fil} {n : Nat}, Gd l n → n + s.length < 500 → appsP l s = (l', 0) → RunG s (mp l) (mp l') ∧ Gd l' (n + s.length)
  | [], l, l', n, h, hn, ha => by cases ha; exact ⟨rfl, h⟩
  | p :: s, l, l', n, h, hn, ha => by
    rw [appsP] at ha
    rw [List.length_cons] at hn
    by_cases h0 : (applyP l p).2 = 0
    · rw [if_neg (by simp [h0])] at ha
      obtain ⟨h1, h2, h3⟩ := of_apply h (by omega) (p := p) (l' := (applyP l p).1) (by rw [← h0])
      obtain ⟨h4, h5⟩ := runG_of h3 (by omega) ha
      exact ⟨⟨h1, _, h2, (fun x e => h3.line), h4⟩, by rw [List.length_cons, show n + (s.length + 1) = n + 1 + s.length by omega]; exact h5⟩
    · rw [if_pos h0] at ha; exact absurd (Prod.mk.inj ha).2 h0
theorem appsG_of : ∀ {s : List Prm} {l : List Fil} {n : Nat} {m' : Mp}, Gd l n → n + s.length < 500 → RunG s (mp l) m' → ∃ l', appsP l s = (l', 0) ∧ mp l' = m' ∧ Gd l' (n + s.length)
  | [], l, n, m', h, hn, hr => by cases hr; exact ⟨l, rfl, rfl, h⟩
  | p :: s, l, n, m', h, hn, ⟨hc, m1, h1, hg, h2⟩ => by
    rw [List.length_cons] at hn
    obtain ⟨l1, e1, e2, e3⟩ := apply_of h (by omega) hc h1 hg
    obtain ⟨l2, e4, e5, e6⟩ := appsG_of (s := s) e3 (by omega) (by rw [e2]; exact h2)
    refine ⟨l2, ?_, e5, by rw [List.length_cons, show n + (s.length + 1) = n + 1 + s.length by omega]; exact e6⟩
    rw [appsP, e1, if_neg (by simp)]
    exact e4

theorem stp2 {p : Prm} (k : p.1 = 2) {m m' : Mp} (h : Stp p m m') : m p.2.1 = some (true, []) ∧ (∀ e, m e ≠ none → upP e ≠ p.2.1) ∧ m' = upd m p.2.1 none := by
  rcases h with ⟨k', _⟩ | ⟨_, h⟩ | ⟨k', _⟩ | ⟨k', _⟩ | ⟨k', _⟩ | ⟨k', _⟩
  · omega
  · exact h
  all_goals omega
/-! ### Two hunks as one -/
/-! ### All steps -/
end Go.Proofs.YtabhngbpkfdeiaaGreatDoor.Sp
end
section
/- What takes a step back does so; directories stay above what lies in them. Conditions: as they stand in each statement. -/
set_option linter.unusedVariables false
set_option linter.unusedSimpArgs false
namespace Go.Proofs.YtabhngbpkfdeiaaGreatDoor.Sp
open Go Go.Proofs.YtabhngbpkfdeiaaGreatDoor.Ab Go.Proofs.YtabhngbpkfdeiaaGreatDoor.Tb Go.Proofs.YtabhngbpkfdeiaaGreatDoor.EText

def DirsM (m : Mp) : Prop := ∀ e, m e ≠ none → dirM m (upP e)
theorem dirsM_of {l : List Fil} (hs : Srt l) (h : Dirs l) : DirsM (mp l) := fun e he => by
  cases hm : mp l e with
  | none => exact absurd hm he
  | some x =>
    rcases h _ ((mp_mem hs).1 hm) with h1 | ⟨g, hg, e1, e2⟩
    · exact .inl h1
    · refine .inr ⟨g.2.2, (mp_mem hs).2 ?_⟩
      have : (g.1, g.2.1, g.2.2) ∈ l := hg
      rw [e1, e2] at this; exact this
theorem dirs_ofM {l : List Fil} (hs : Srt l) (h : DirsM (mp l)) : Dirs l := fun f hf => by
  have hm := (mp_mem hs (p := f.1) (e := f.2)).2 hf
  rcases h f.1 (by rw [hm]; simp) with h1 | ⟨ls, h1⟩
  · exact .inl h1
  · exact .inr ⟨_, (mp_mem hs).1 h1, rfl, rfl⟩
theorem dir_stays {p : Prm} (hc : chk p = 0) {m m' : Mp} (h : Stp p m m') {x : Txt} (hd : dirM m x) (h2 : p.1 = 2 → x ≠ p.2.1) : dirM m' x := by
  rcases hd with hd | ⟨ls, hd⟩
  · exact .inl hd
  · by_cases hin : x ∈ touchesL p
    · obtain ⟨k, e⟩ := stp_dir2 hc h hin hd
      exact absurd e (h2 k)
    · exact .inr ⟨ls, by rw [stp_off hc h hin]; exact hd⟩
theorem stp_dirs {p : Prm} (hc : chk p = 0) {m m' : Mp} (h : Stp p m m') (hd : DirsM m) : DirsM m' := by
  intro e he
  -- what is there came with a directory, or was there
  have key : dirM m (upP e) ∧ (p.1 = 2 → upP e ≠ p.2.1) := by
    by_cases hin : e ∈ touchesL p
    · rw [touches_eq hc] at hin
      rcases h with ⟨k, g1, g2, rfl⟩ | ⟨k, g1, g2, rfl⟩ | ⟨k, g1, g2, rfl⟩ | ⟨k, g1, rfl⟩ | ⟨k, ls, g1, g2, g3, rfl⟩ | ⟨k, ls, ls', g1, g2, rfl⟩
      · rw [if_neg (by omega), List.mem_singleton] at hin
        rw [hin]; exact ⟨g2, fun h => by omega⟩
      · rw [if_neg (by omega), List.mem_singleton] at hin
        rw [hin, upd_at] at he; exact absurd rfl he
      · rw [if_neg (by omega), List.mem_singleton] at hin
        rw [hin]; exact ⟨g2, fun h => by omega⟩
      · rw [if_neg (by omega), List.mem_singleton] at hin
        rw [hin, upd_at] at he; exact absurd rfl he
      · rw [if_pos k] at hin
        rcases List.mem_cons.1 hin with hin | hin
        · have hne := (chk_to hc k).2
          rw [hin, upd_ne _ _ hne, upd_at] at he; exact absurd rfl he
        · rw [List.mem_singleton.1 hin]; exact ⟨g3, fun h => by omega⟩
      · rw [if_neg (by omega), List.mem_singleton] at hin
        rw [hin]; exact ⟨hd _ (by rw [g1]; simp), fun h => by omega⟩
    · have hme : m e ≠ none := by rw [← stp_off hc h hin]; exact he
      exact ⟨hd e hme, fun k => (stp2 k h).2.1 e hme⟩
  exact dir_stays hc h key.1 key.2
theorem chk_inv {p : Prm} (h : chk p = 0) : chk (invP p) = 0 := by
  have hk := chk_kind h
  have ho : 1 ≤ othI p.1 ∧ othI p.1 ≤ 6 ∧ (othI p.1 = 5 ↔ p.1 = 5) ∧ (othI p.1 = 6 ↔ p.1 = 6) := by
    unfold othI
    split
    · omega
    · split
      · omega
      · split
        · omega
        · split <;> omega
  have e1 : (invP p).1 = othI p.1 := rfl
  have e4 : (invP p).2.2.2.1 = p.2.2.2.1 := rfl
  have e5 : (invP p).2.2.2.2.1 = p.2.2.2.2.2 := rfl
  have e6 : (invP p).2.2.2.2.2 = p.2.2.2.2.1 := rfl
  have h0 := h
  unfold chk at h ⊢
  rw [e1, e4, e5, e6]
  split at h
  · cases h
  · rename_i c1
    split at h
    · cases h
    · rename_i c2
      split at h
      · cases h
      · rename_i c3
        by_cases k5 : p.1 = 5
        · have e2 : (invP p).2.1 = p.2.2.1 := by unfold invP; simp [k5]
          have e3 : (invP p).2.2.1 = p.2.1 := by unfold invP; simp [k5]
          have hr := chk_path h0
          obtain ⟨hr2, hne⟩ := chk_to h0 k5
          rw [e2, e3, if_neg, if_neg, if_neg]
          · rintro ⟨h, _⟩; omega
          · rintro (h | ⟨_, h | h⟩)
            · rw [hr2] at h; cases h
            · rw [hr] at h; cases h
            · exact hne h.symm
          · rintro (h | h | ⟨h, _⟩ | ⟨_, h | h⟩)
            · omega
            · omega
            · omega
            · exact c1 (.inr (.inr (.inr ⟨by omega, .inl h⟩)))
            · exact c1 (.inr (.inr (.inr ⟨by omega, .inr (by omega)⟩)))
        · have e2 : (invP p).2.1 = p.2.1 := by unfold invP; simp [k5]
          have e3 : (invP p).2.2.1 = p.2.2.1 := by unfold invP; simp [k5]
          rw [e2, e3, if_neg, if_neg, if_neg]
          · rintro ⟨h6, h | h | h | h⟩
            · exact c3 ⟨by omega, .inl h⟩
            · exact c3 ⟨by omega, .inr (.inl (by omega))⟩
            · exact c3 ⟨by omega, .inr (.inr (.inr h))⟩
            · exact c3 ⟨by omega, .inr (.inr (.inl h))⟩
          · rintro (h | ⟨h, _⟩)
            · exact c2 (.inl h)
            · omega
          · rintro (h | h | ⟨h, h'⟩ | ⟨h6, h | h⟩)
            · omega
            · omega
            · exact c1 (.inr (.inr (.inl ⟨by omega, h'⟩)))
            · exact c1 (.inr (.inr (.inr ⟨by omega, .inl h⟩)))
            · exact c1 (.inr (.inr (.inr ⟨by omega, .inr (by omega)⟩)))
theorem stp_inv {p : Prm} (hc : chk p = 0) {m m' : Mp} (h : Stp p m m') (hd : DirsM m) : Stp (invP p) m' m := by
  have hr := chk_path hc
  have e2 : p.1 ≠ 5 → (invP p).2.1 = p.2.1 := fun k => by unfold invP; simp [k]
  rcases h with ⟨k, g1, g2, rfl⟩ | ⟨k, g1, g2, rfl⟩ | ⟨k, g1, g2, rfl⟩ | ⟨k, g1, rfl⟩ | ⟨k, ls, g1, g2, g3, rfl⟩ | ⟨k, ls, ls', g1, g2, rfl⟩
  · refine .inr (.inl ⟨by unfold invP othI; simp [k], ?_, fun e he hu => ?_, ?_⟩) <;> rw [e2 (by omega)] at *
    · exact upd_at _ _ _
    · by_cases hep : e = p.2.1
      · rw [hep] at hu; exact up_ne hr hu
      · rw [upd_ne _ _ hep] at he
        rcases hd e he with h | ⟨ls, h⟩
        · rw [hu] at h; exact nope_up hr h
        · rw [hu, g1] at h; cases h
    · rw [upd_upd, upd_id m g1]
  · have hdir := hd p.2.1 (by rw [g1]; simp)
    refine .inl ⟨by unfold invP othI; simp [k], ?_, ?_, ?_⟩ <;> rw [e2 (by omega)]
    · exact upd_at _ _ _
    · rcases hdir with h | ⟨ls, h⟩
      · exact .inl h
      · exact .inr ⟨ls, by rw [upd_ne _ _ (up_ne hr)]; exact h⟩
    · rw [upd_upd, upd_id m g1]
  · refine .inr (.inr (.inr (.inl ⟨by unfold invP othI; simp [k], ?_, ?_⟩))) <;> rw [e2 (by omega)]
    · exact upd_at _ _ _
    · rw [upd_upd, upd_id m g1]
  · have hdir := hd p.2.1 (by rw [g1]; simp)
    refine .inr (.inr (.inl ⟨by unfold invP othI; simp [k], ?_, ?_, ?_⟩)) <;> rw [e2 (by omega)]
    · exact upd_at _ _ _
    · rcases hdir with h | ⟨ls, h⟩
      · exact .inl h
      · exact .inr ⟨ls, by rw [upd_ne _ _ (up_ne hr)]; exact h⟩
    · rw [upd_upd, upd_id m g1]
  · have e : (invP p).2.1 = p.2.2.1 := by unfold invP; simp [k]
    have e' : (invP p).2.2.1 = p.2.1 := by unfold invP; simp [k]
    have hne := (chk_to hc k).2
    have hdir := hd p.2.1 (by rw [g1]; simp)
    refine .inr (.inr (.inr (.inr (.inl ⟨by unfold invP othI; simp [k], ls, ?_, ?_, ?_, ?_⟩))))
    · rw [e, upd_at]
    · rw [e', upd_ne _ _ hne, upd_at]
    · rw [e']
      rcases hdir with h | ⟨x, h⟩
      · exact .inl h
      · refine .inr ⟨x, ?_⟩
        rw [upd_ne _ _ (fun h' => by rw [h', g2] at h; cases h), upd_ne _ _ (up_ne hr)]; exact h
    · rw [e, e', upd_upd, upd_comm _ _ _ (fun h => hne h.symm), upd_upd, upd_comm _ _ _ hne, upd_id m g2, upd_id m g1]
  · obtain ⟨a, b, f1, f2, f3⟩ := g2
    refine .inr (.inr (.inr (.inr (.inr ⟨by unfold invP othI; simp [k], ls', ls, ?_, ⟨a, b, f3, f2, f1⟩, ?_⟩)))) <;> rw [e2 (by omega)]
    · exact upd_at _ _ _
    · rw [upd_upd, upd_id m g1]
def backP (s : List Prm) : List Prm := s.reverse.map invP
theorem backP_back (s : List Prm) : backP (backP s) = s := by
  unfold backP
  rw [← List.map_reverse, List.reverse_reverse, List.map_map]
  have : invP ∘ invP = id := by funext p; exact invP_back p
  rw [this, List.map_id]
theorem run_back : ∀ (s : List Prm) {m m' : Mp}, Gm m → DirsM m → RunG s m m' → RunG (backP s) m' m ∧ DirsM m'
  | [], m, m', _, hd, hr => by cases hr; exact ⟨rfl, hd⟩
  | p :: s, m, m', hg, hd, ⟨hc, m1, h1, hg1, h2⟩ => by
    obtain ⟨r, hd'⟩ := run_back s hg1 (stp_dirs hc h1 hd) h2
    refine ⟨?_, hd'⟩
    have e : backP (p :: s) = backP s ++ [invP p] := by unfold backP; simp
    rw [e]
    exact runG_app.2 ⟨m1, r, chk_inv hc, m, stp_inv hc h1 hd, hg, rfl⟩

end Go.Proofs.YtabhngbpkfdeiaaGreatDoor.Sp
end
section
/- What each function comes to on data: printed equations. No condition. -/
set_option linter.unusedVariables false
set_option maxRecDepth 100000
namespace Go.Proofs.YtabhngbpkfdeiaaGreatDoor.Tb
open Go Go.Proofs.YtabhngbpkfdeiaaGreatDoor.Ab
end Go.Proofs.YtabhngbpkfdeiaaGreatDoor.Tb
end
section
/- What each function comes to on data: printed equations. No condition. -/
set_option linter.unusedVariables false
set_option maxRecDepth 100000
namespace Go.Proofs.YtabhngbpkfdeiaaGreatDoor.Tb
open Go Go.Proofs.YtabhngbpkfdeiaaGreatDoor.Ab
noncomputable def td101_4 : List Item := (findT (code Tryz.f101) [] 4).getD []
noncomputable def l101_4 (x0 : List ByteArray) (x1 : List ByteArray) (x2 : Int) (x3 : Int) : Option (List RV) := cutW W0 n101 td101_4 { fr := [((0 : Nat), F.a (A.c (C.sl Ty.str x0))), ((1 : Nat), F.a (A.c (C.sl Ty.str x1))), ((2 : Nat), F.a (A.c (C.sc (Go.Value.int Go.IntKind.i64 x2)))), ((7 : Nat), F.a (A.c (C.sc (Go.Value.int Go.IntKind.i64 x3))))], mem := [], nx := (0 : Nat) }
theorem e101 (a0 : List ByteArray) (a1 : List ByteArray) (a2 : Int) : callG W0 (callW W0) (cutW W0) 101 [inj (Ty.sl Ty.str) a0, inj (Ty.sl Ty.str) a1, inj (Ty.int Go.IntKind.i64) a2] = ifs (decide (a2 < (0 : Int)) = false) (ifs (decide ((↑(List.length a1) : Int) > Go.IntKind.wrap Go.IntKind.i64 ((↑(List.length a0) : Int) - a2)) = true) (some (injRs [RT.d Ty.bool] false)) (l101_4 a0 a1 a2 (0 : Int))) (some (injRs [RT.d Ty.bool] false)) := by kernel_rfl
theorem q101_4 (x0 : List ByteArray) (x1 : List ByteArray) (x2 : Int) (x3 : Int) : cutG W0 (callW W0) (cutW W0) n101 td101_4 { fr := [((0 : Nat), F.a (A.c (C.sl Ty.str x0))), ((1 : Nat), F.a (A.c (C.sl Ty.str x1))), ((2 : Nat), F.a (A.c (C.sc (Go.Value.int Go.IntKind.i64 x2)))), ((7 : Nat), F.a (A.c (C.sc (Go.Value.int Go.IntKind.i64 x3))))], mem := [], nx := (0 : Nat) } = ifs (decide (x3 < (↑(List.length x1) : Int)) = true) (ifs ((0 : Int) ≤ Go.IntKind.wrap Go.IntKind.i64 (x2 + x3)) (Option.bind x0[Int.toNat (Go.IntKind.wrap Go.IntKind.i64 (x2 + x3))]? fun r => ifs ((0 : Int) ≤ x3) (Option.bind x1[Int.toNat x3]? fun r_1 => ifs ((!ByteArray.toList r == ByteArray.toList r_1) = true) (some (injRs [RT.d Ty.bool] false)) (l101_4 x0 x1 x2 (Go.IntKind.wrap Go.IntKind.i64 (x3 + (1 : Int))))) none) none) (some (injRs [RT.d Ty.bool] true)) := by kernel_rfl
noncomputable def td60_3 : List Item := (findT (code Tryz.f60) [] 3).getD []
noncomputable def l60_3 (x0 : List ByteArray) (x1 : List (Int × List ByteArray × List ByteArray)) (x2 : Int) (x3 : List ByteArray) : Option (List RV) := cutW W0 n60 td60_3 { fr := [((0 : Nat), F.a (A.c (C.sl Ty.str x0))), ((1 : Nat), F.a (A.c (C.sl ty43 x1))), ((6 : Nat), F.a (A.c (C.ow (0 : Nat) (List.length x3)))), ((7 : Nat), F.a (A.c (C.sc (Go.Value.int Go.IntKind.i64 x2))))], mem := [some (Row.arr (9 : Nat) Ty.str x3 false)], nx := (1 : Nat) }
theorem e60 (a0 : List ByteArray) (a1 : List (Int × List ByteArray × List ByteArray)) : callG W0 (callW W0) (cutW W0) 60 [inj (Ty.sl Ty.str) a0, inj (Ty.sl ty43) a1] = ifs (((0 : Nat) + List.length a0) * nat_lit 16 ≤ (140737488355328 : Nat)) (l60_3 a0 a1 (Go.IntKind.wrap Go.IntKind.i64 ((↑(List.length a1) : Int) - (1 : Int))) ([] ++ a0)) none := by kernel_rfl
theorem q60_3 (x0 : List ByteArray) (x1 : List (Int × List ByteArray × List ByteArray)) (x2 : Int) (x3 : List ByteArray) : cutG W0 (callW W0) (cutW W0) n60 td60_3 { fr := [((0 : Nat), F.a (A.c (C.sl Ty.str x0))), ((1 : Nat), F.a (A.c (C.sl ty43 x1))), ((6 : Nat), F.a (A.c (C.ow (0 : Nat) (List.length x3)))), ((7 : Nat), F.a (A.c (C.sc (Go.Value.int Go.IntKind.i64 x2))))], mem := [some (Row.arr (9 : Nat) Ty.str x3 false)], nx := (1 : Nat) } = ifs (decide (x2 ≥ (0 : Int)) = true) (ifs ((0 : Int) ≤ x2) (Option.bind x1[Int.toNat x2]? fun r => ifs (decide (r.fst > (↑(List.length x0) : Int)) = false) (Option.bind (cR (nat_lit 101) [RT.d Ty.bool] [inj (Ty.sl Ty.str) x0, inj (Ty.sl Ty.str) r.snd.fst, inj (Ty.int Go.IntKind.i64) r.fst]) fun r_1 => ifs ((!r_1) = true) (some (injRs [RT.own (9 : Go.TypeId) Ty.str, RT.d Ty.bool] ([], false))) (ifs ((0 : Int) ≤ r.fst ∧ r.fst ≤ (↑(List.length x3) : Int)) (ifs (((0 : Nat) + List.length (List.take (Int.toNat r.fst) x3)) * nat_lit 16 ≤ (140737488355328 : Nat)) (ifs ((List.length ([] ++ List.take (Int.toNat r.fst) x3) + List.length r.snd.snd) * nat_lit 16 ≤ (140737488355328 : Nat)) (ifs ((0 : Int) ≤ (↑(List.length x3) : Int) ∧ (↑(List.length x3) : Int) ≤ (↑(List.length x3) : Int)) (ifs ((0 : Int) ≤ Go.IntKind.wrap Go.IntKind.i64 (r.fst + (↑(List.length r.snd.fst) : Int)) ∧ Go.IntKind.wrap Go.IntKind.i64 (r.fst + (↑(List.length r.snd.fst) : Int)) ≤ (↑(List.length x3) : Int)) (ifs ((List.length (List.take (List.length ([] ++ List.take (Int.toNat r.fst) x3)) ([] ++ List.take (Int.toNat r.fst) x3) ++ r.snd.snd) + List.length (List.drop (Int.toNat (Go.IntKind.wrap Go.IntKind.i64 (r.fst + (↑(List.length r.snd.fst) : Int)))) (List.take (Int.toNat (↑(List.length x3) : Int)) x3))) * nat_lit 16 ≤ (140737488355328 : Nat)) (l60_3 x0 x1 (Go.IntKind.wrap Go.IntKind.i64 (x2 - (1 : Int))) (List.take (List.length (List.take (List.length ([] ++ List.take (Int.toNat r.fst) x3)) ([] ++ List.take (Int.toNat r.fst) x3) ++ r.snd.snd)) (List.take (List.length ([] ++ List.take (Int.toNat r.fst) x3)) ([] ++ List.take (Int.toNat r.fst) x3) ++ r.snd.snd) ++ List.drop (Int.toNat (Go.IntKind.wrap Go.IntKind.i64 (r.fst + (↑(List.length r.snd.fst) : Int)))) (List.take (Int.toNat (↑(List.length x3) : Int)) x3))) none) none) none) none) none) none)) (some (injRs [RT.own (9 : Go.TypeId) Ty.str, RT.d Ty.bool] ([], false)))) none) (some (injRs [RT.own (9 : Go.TypeId) Ty.str, RT.d Ty.bool] (List.take (List.length x3) x3, true))) := by kernel_rfl
theorem e23 (a0 : List (ByteArray × Bool × List ByteArray)) (a1 : Int × ByteArray × ByteArray × Int × List ByteArray × List ByteArray) : callG W0 (callW W0) (cutW W0) 23 [inj (Ty.sl ty35) a0, inj ty40 a1] = Option.bind (cR (nat_lit 57) [RT.d (Ty.int Go.IntKind.i64)] [inj ty40 a1]) fun r => ifs ((r != (0 : Int)) = true) (some (injRs [RT.d (Ty.sl ty35), RT.d (Ty.int Go.IntKind.i64)] ([], r))) (Option.bind (cR (nat_lit 58) [RT.d (Ty.int Go.IntKind.i64)] [inj (Ty.sl ty35) a0, inj Ty.str a1.snd.fst]) fun r => ifs ((a1.fst == (1 : Int)) = true) (Option.bind (cR (nat_lit 59) [RT.d (Ty.sl ty35), RT.d (Ty.int Go.IntKind.i64)] [inj (Ty.sl ty35) a0, inj ty93 ((0 : Int), a1.snd.fst, { data := #[] }, [])]) fun r => some (injRs [RT.d (Ty.sl ty35), RT.d (Ty.int Go.IntKind.i64)] r)) (ifs ((a1.fst == (3 : Int)) = true) (ifs (decide (r ≥ (0 : Int)) = true) (some (injRs [RT.d (Ty.sl ty35), RT.d (Ty.int Go.IntKind.i64)] ([], (10 : Int)))) (Option.bind (cR (nat_lit 59) [RT.d (Ty.sl ty35), RT.d (Ty.int Go.IntKind.i64)] [inj (Ty.sl ty35) a0, inj ty93 ((1 : Int), a1.snd.fst, { data := #[] }, [])]) fun r => some (injRs [RT.d (Ty.sl ty35), RT.d (Ty.int Go.IntKind.i64)] r))) (ifs ((a1.fst == (5 : Int)) = true) (Option.bind (cR (nat_lit 59) [RT.d (Ty.sl ty35), RT.d (Ty.int Go.IntKind.i64)] [inj (Ty.sl ty35) a0, inj ty93 ((3 : Int), a1.snd.fst, a1.snd.snd.fst, [])]) fun r => some (injRs [RT.d (Ty.sl ty35), RT.d (Ty.int Go.IntKind.i64)] r)) (ifs (decide (r < (0 : Int)) = true) (some (injRs [RT.d (Ty.sl ty35), RT.d (Ty.int Go.IntKind.i64)] ([], (9 : Int)))) (ifs ((0 : Int) ≤ r) (Option.bind a0[Int.toNat r]? fun r_1 => ifs ((!r_1.snd.fst == (a1.fst == (2 : Int))) = true) (some (injRs [RT.d (Ty.sl ty35), RT.d (Ty.int Go.IntKind.i64)] ([], (11 : Int)))) (ifs ((a1.fst != (6 : Int)) = true) (ifs ((0 : Int) ≤ r) (Option.bind a0[Int.toNat r]? fun r => ifs (decide ((↑(List.length r.snd.snd) : Int) > (0 : Int)) = true) (some (injRs [RT.d (Ty.sl ty35), RT.d (Ty.int Go.IntKind.i64)] ([], (13 : Int)))) (Option.bind (cR (nat_lit 59) [RT.d (Ty.sl ty35), RT.d (Ty.int Go.IntKind.i64)] [inj (Ty.sl ty35) a0, inj ty93 ((2 : Int), a1.snd.fst, { data := #[] }, [])]) fun r => some (injRs [RT.d (Ty.sl ty35), RT.d (Ty.int Go.IntKind.i64)] r))) none) (ifs ((0 : Int) ≤ r) (Option.bind a0[Int.toNat r]? fun r => Option.bind (cR (nat_lit 60) [RT.own (9 : Go.TypeId) Ty.str, RT.d Ty.bool] [inj (Ty.sl Ty.str) r.snd.snd, inj (Ty.sl ty43) [a1.snd.snd.snd]]) fun r => ifs ((!r.snd) = true) (some (injRs [RT.d (Ty.sl ty35), RT.d (Ty.int Go.IntKind.i64)] ([], (13 : Int)))) (Option.bind (cR (nat_lit 59) [RT.d (Ty.sl ty35), RT.d (Ty.int Go.IntKind.i64)] [inj (Ty.sl ty35) a0, inj ty93 ((1 : Int), a1.snd.fst, { data := #[] }, List.take (List.length r.fst) r.fst)]) fun r => some (injRs [RT.d (Ty.sl ty35), RT.d (Ty.int Go.IntKind.i64)] r))) none))) none))))) := by kernel_rfl
noncomputable def td24_3 : List Item := (findT (code Tryz.f24) [] 3).getD []
noncomputable def l24_3 (x0 : List (Int × ByteArray × ByteArray × Int × List ByteArray × List ByteArray)) (x1 : Int) (x2 : List (Int × ByteArray × ByteArray × Int × List ByteArray × List ByteArray)) : Option (List RV) := cutW W0 n24 td24_3 { fr := [((0 : Nat), F.a (A.c (C.sl ty40 x0))), ((3 : Nat), F.a (A.c (C.ow (0 : Nat) (List.length x2)))), ((4 : Nat), F.a (A.c (C.sc (Go.Value.int Go.IntKind.i64 x1))))], mem := [some (Row.arr (40 : Nat) ty40 x2 false)], nx := (1 : Nat) }
theorem e24 (a0 : List (Int × ByteArray × ByteArray × Int × List ByteArray × List ByteArray)) : callG W0 (callW W0) (cutW W0) 24 [inj (Ty.sl ty40) a0] = l24_3 a0 (Go.IntKind.wrap Go.IntKind.i64 ((↑(List.length a0) : Int) - (1 : Int))) [] := by kernel_rfl
theorem q24_3 (x0 : List (Int × ByteArray × ByteArray × Int × List ByteArray × List ByteArray)) (x1 : Int) (x2 : List (Int × ByteArray × ByteArray × Int × List ByteArray × List ByteArray)) : cutG W0 (callW W0) (cutW W0) n24 td24_3 { fr := [((0 : Nat), F.a (A.c (C.sl ty40 x0))), ((3 : Nat), F.a (A.c (C.ow (0 : Nat) (List.length x2)))), ((4 : Nat), F.a (A.c (C.sc (Go.Value.int Go.IntKind.i64 x1))))], mem := [some (Row.arr (40 : Nat) ty40 x2 false)], nx := (1 : Nat) } = ifs (decide (x1 ≥ (0 : Int)) = true) (ifs ((0 : Int) ≤ x1) (Option.bind x0[Int.toNat x1]? fun r => Option.bind (cR (nat_lit 41) [RT.d ty40] [inj ty40 r]) fun r => ifs ((List.length x2 + (1 : Nat)) * nat_lit 96 ≤ (140737488355328 : Nat)) (l24_3 x0 (Go.IntKind.wrap Go.IntKind.i64 (x1 - (1 : Int))) (List.take (List.length x2) x2 ++ [r])) none) none) (some (injRs [RT.own (40 : Go.TypeId) ty40] (List.take (List.length x2) x2))) := by kernel_rfl
noncomputable def td64_4 : List Item := (findT (code Tryz.f64) [] 4).getD []
noncomputable def l64_4 (x0 : List (Int × ByteArray × ByteArray × Int × List ByteArray × List ByteArray)) (x1 : List (Int × ByteArray × ByteArray × Int × List ByteArray × List ByteArray)) (x2 : Int) (x3 : Int) : Option (List RV) := cutW W0 n64 td64_4 { fr := [((1 : Nat), F.a (A.c (C.sl ty40 x0))), ((2 : Nat), F.a (A.c (C.cl (40 : Nat) []))), ((15 : Nat), F.a (A.c (C.sl ty40 x1))), ((16 : Nat), F.a (A.c (C.sc (Go.Value.int Go.IntKind.i64 x2)))), ((17 : Nat), F.a (A.c (C.sc (Go.Value.int Go.IntKind.i64 x3))))], mem := [], nx := (0 : Nat) }
theorem e64 (a0 : List (Int × ByteArray × ByteArray × Int × List ByteArray × List ByteArray)) (a1 : List (Int × ByteArray × ByteArray × Int × List ByteArray × List ByteArray)) : callG W0 (callW W0) (cutW W0) 64 [inj (Ty.sl ty40) a0, inj (Ty.sl ty40) a1, A.c (C.cl (40 : Nat) [])] = ifs (((↑(List.length a0) : Int) != (↑(List.length a1) : Int)) = true) (some (injRs [RT.d Ty.bool] false)) (l64_4 a1 a0 (↑(List.length a0) : Int) (0 : Int)) := by kernel_rfl
theorem q64_4 (x0 : List (Int × ByteArray × ByteArray × Int × List ByteArray × List ByteArray)) (x1 : List (Int × ByteArray × ByteArray × Int × List ByteArray × List ByteArray)) (x2 : Int) (x3 : Int) : cutG W0 (callW W0) (cutW W0) n64 td64_4 { fr := [((1 : Nat), F.a (A.c (C.sl ty40 x0))), ((2 : Nat), F.a (A.c (C.cl (40 : Nat) []))), ((15 : Nat), F.a (A.c (C.sl ty40 x1))), ((16 : Nat), F.a (A.c (C.sc (Go.Value.int Go.IntKind.i64 x2)))), ((17 : Nat), F.a (A.c (C.sc (Go.Value.int Go.IntKind.i64 x3))))], mem := [], nx := (0 : Nat) } = ifs (decide (x3 < x2) = true) (ifs ((0 : Int) ≤ x3) (Option.bind x1[Int.toNat x3]? fun r => ifs ((0 : Int) ≤ x3) (Option.bind x0[Int.toNat x3]? fun r_1 => Option.bind (cR (nat_lit 40) [RT.d Ty.bool] [inj ty40 r, inj ty40 r_1]) fun r => ifs ((!r) = true) (some (injRs [RT.d Ty.bool] false)) (l64_4 x0 x1 x2 (Go.IntKind.wrap Go.IntKind.i64 (x3 + (1 : Int))))) none) none) (some (injRs [RT.d Ty.bool] true)) := by kernel_rfl
theorem e27 (a0 : List (Int × ByteArray × ByteArray × Int × List ByteArray × List ByteArray)) (a1 : List (Int × ByteArray × ByteArray × Int × List ByteArray × List ByteArray)) : callG W0 (callW W0) (cutW W0) 27 [inj (Ty.sl ty40) a0, inj (Ty.sl ty40) a1] = Option.bind (cR (nat_lit 64) [RT.d Ty.bool] [inj (Ty.sl ty40) a0, inj (Ty.sl ty40) a1, A.c (C.cl (40 : Nat) [])]) fun r => some (injRs [RT.d Ty.bool] r) := by kernel_rfl
noncomputable def td4_10 : List Item := (findT (code Tryz.f4) [] 10).getD []
noncomputable def l4_10 (x0 : List (Int × ByteArray × ByteArray × Int × List ByteArray × List ByteArray)) (x1 : Int) (x2 : Int) (x3 : Int) (x4 : List (ByteArray × Bool × List ByteArray)) (x5 : List (ByteArray × Bool × List ByteArray)) (x6 : List (ByteArray × Bool × List ByteArray)) : Option (List RV) := cutW W0 n4 td4_10 { fr := [((1 : Nat), F.a (A.c (C.sl ty40 x0))), ((5 : Nat), F.a (A.c (C.pt (Pt.own (0 : Nat) (0 : Nat) (0 : Nat))))), ((7 : Nat), F.a (A.c (C.pt (Pt.own (1 : Nat) (0 : Nat) (0 : Nat))))), ((8 : Nat), F.a (A.c (C.sc (Go.Value.int Go.IntKind.i64 x1)))), ((9 : Nat), F.a (A.c (C.ow (2 : Nat) (List.length x6)))), ((10 : Nat), F.a (A.c (C.sc (Go.Value.int Go.IntKind.i64 x2)))), ((11 : Nat), F.a (A.c (C.sc (Go.Value.int Go.IntKind.i64 x3))))], mem := [some (Row.box (31 : Nat) (some ty31) [C.sl ty35 x4] false), some (Row.box (31 : Nat) (some ty31) [C.sl ty35 x5] false), some (Row.arr (35 : Nat) ty35 x6 false)], nx := (3 : Nat) }
noncomputable def l4_10v1 (x0 : List (Int × ByteArray × ByteArray × Int × List ByteArray × List ByteArray)) (x1 : Int) (x2 : List (ByteArray × Bool × List ByteArray)) (x3 : Int) (x4 : Int) (x5 : List (ByteArray × Bool × List ByteArray)) (x6 : List (ByteArray × Bool × List ByteArray)) : Option (List RV) := cutW W0 n4 td4_10 { fr := [((1 : Nat), F.a (A.c (C.sl ty40 x0))), ((5 : Nat), F.a (A.c (C.pt (Pt.own (0 : Nat) (0 : Nat) (0 : Nat))))), ((7 : Nat), F.a (A.c (C.pt (Pt.own (1 : Nat) (0 : Nat) (0 : Nat))))), ((8 : Nat), F.a (A.c (C.sc (Go.Value.int Go.IntKind.i64 x1)))), ((9 : Nat), F.a (A.c (C.sl ty35 x2))), ((10 : Nat), F.a (A.c (C.sc (Go.Value.int Go.IntKind.i64 x3)))), ((11 : Nat), F.a (A.c (C.sc (Go.Value.int Go.IntKind.i64 x4))))], mem := [some (Row.box (31 : Nat) (some ty31) [C.sl ty35 x5] false), some (Row.box (31 : Nat) (some ty31) [C.sl ty35 x6] false)], nx := (2 : Nat) }
theorem e4 (a0 : List (ByteArray × Bool × List ByteArray)) (a1 : List (Int × ByteArray × ByteArray × Int × List ByteArray × List ByteArray)) : callG W0 (callW W0) (cutW W0) 4 [inj (Ty.sl ty35) a0, inj (Ty.sl ty40) a1] = Option.bind (cR (nat_lit 19) [RT.d Ty.bool] [inj (Ty.sl ty35) a0]) fun r => ifs ((!r) = false) (Option.bind (cR (nat_lit 20) [RT.d Ty.bool] [inj (Ty.sl ty40) a1]) fun r => ifs ((!r) = true) (Option.bind (cR (nat_lit 12) [RT.d Ty.bool] []) fun r => some (injRs [RT.d Ty.bool] r)) (Option.bind (cR (nat_lit 13) [RT.d ty31, RT.d (Ty.int Go.IntKind.i64)] [inj (Ty.sl ty35) a0]) fun r => ifs ((r.snd != (0 : Int)) = true) (Option.bind (cR (nat_lit 12) [RT.d Ty.bool] []) fun r => some (injRs [RT.d Ty.bool] r)) (Option.bind (cR (nat_lit 21) [RT.d ty31, RT.d (Ty.int Go.IntKind.i64)] [inj ty31 (r.fst.fst, ()), inj (Ty.sl ty40) a1]) fun r_1 => Option.bind (cR (nat_lit 22) [RT.own (35 : Go.TypeId) ty35] [inj ty31 (r.fst.fst, ())]) fun r_2 => l4_10 a1 r_1.snd (0 : Int) (0 : Int) r.fst.fst r_1.fst.fst r_2))) (Option.bind (cR (nat_lit 12) [RT.d Ty.bool] []) fun r => some (injRs [RT.d Ty.bool] r)) := by kernel_rfl
theorem q4_10 (x0 : List (Int × ByteArray × ByteArray × Int × List ByteArray × List ByteArray)) (x1 : Int) (x2 : Int) (x3 : Int) (x4 : List (ByteArray × Bool × List ByteArray)) (x5 : List (ByteArray × Bool × List ByteArray)) (x6 : List (ByteArray × Bool × List ByteArray)) : cutG W0 (callW W0) (cutW W0) n4 td4_10 { fr := [((1 : Nat), F.a (A.c (C.sl ty40 x0))), ((5 : Nat), F.a (A.c (C.pt (Pt.own (0 : Nat) (0 : Nat) (0 : Nat))))), ((7 : Nat), F.a (A.c (C.pt (Pt.own (1 : Nat) (0 : Nat) (0 : Nat))))), ((8 : Nat), F.a (A.c (C.sc (Go.Value.int Go.IntKind.i64 x1)))), ((9 : Nat), F.a (A.c (C.ow (2 : Nat) (List.length x6)))), ((10 : Nat), F.a (A.c (C.sc (Go.Value.int Go.IntKind.i64 x2)))), ((11 : Nat), F.a (A.c (C.sc (Go.Value.int Go.IntKind.i64 x3))))], mem := [some (Row.box (31 : Nat) (some ty31) [C.sl ty35 x4] false), some (Row.box (31 : Nat) (some ty31) [C.sl ty35 x5] false), some (Row.arr (35 : Nat) ty35 x6 false)], nx := (3 : Nat) } = ifs (decide (x3 < (↑(List.length x0) : Int)) = true) (ifs ((x2 == (0 : Int)) = true) (ifs ((0 : Int) ≤ x3) (Option.bind x0[Int.toNat x3]? fun r => Option.bind (cR (nat_lit 23) [RT.d (Ty.sl ty35), RT.d (Ty.int Go.IntKind.i64)] [inj (Ty.sl ty35) (List.take (List.length x6) x6), inj ty40 r]) fun r => l4_10v1 x0 x1 r.fst r.snd (Go.IntKind.wrap Go.IntKind.i64 (x3 + (1 : Int))) x4 x5) none) (ifs ((x1 != x2) = true) (some (injRs [RT.d Ty.bool] false)) (ifs ((x1 != (0 : Int)) = true) (Option.bind (cR (nat_lit 12) [RT.d Ty.bool] []) fun r => ifs (r = true) (Option.bind (cR (nat_lit 22) [RT.own (35 : Go.TypeId) ty35] [inj ty31 (x5, ())]) fun r => some (injRs [RT.d Ty.bool] ((↑(List.length r) : Int) == (0 : Int)))) (some (injRs [RT.d Ty.bool] false))) (Option.bind (cR (nat_lit 24) [RT.own (40 : Go.TypeId) ty40] [inj (Ty.sl ty40) x0]) fun r => Option.bind (cR (nat_lit 21) [RT.d ty31, RT.d (Ty.int Go.IntKind.i64)] [inj ty31 (x5, ()), inj (Ty.sl ty40) (List.take (List.length r) r)]) fun r => Option.bind (cR (nat_lit 12) [RT.d Ty.bool] []) fun r_1 => ifs (r_1 = true) (Option.bind (cR (nat_lit 22) [RT.own (35 : Go.TypeId) ty35] [inj ty31 (x5, ())]) fun r_2 => Option.bind (cR (nat_lit 25) [RT.d Ty.bool] [inj (Ty.sl ty35) (List.take (List.length r_2) r_2), inj (Ty.sl ty35) (List.take (List.length x6) x6)]) fun r_3 => ifs (r_3 = true) (ifs ((r.snd == (0 : Int)) = true) (Option.bind (cR (nat_lit 26) [RT.d Ty.bool] [inj ty31 (r.fst.fst, ()), inj ty31 (x4, ())]) fun r => ifs (r = true) (Option.bind (cR (nat_lit 24) [RT.own (40 : Go.TypeId) ty40] [inj (Ty.sl ty40) x0]) fun r => Option.bind (cR (nat_lit 24) [RT.own (40 : Go.TypeId) ty40] [inj (Ty.sl ty40) (List.take (List.length r) r)]) fun r => Option.bind (cR (nat_lit 27) [RT.d Ty.bool] [inj (Ty.sl ty40) (List.take (List.length r) r), inj (Ty.sl ty40) x0]) fun r => some (injRs [RT.d Ty.bool] r)) (some (injRs [RT.d Ty.bool] false))) (some (injRs [RT.d Ty.bool] false))) (some (injRs [RT.d Ty.bool] false))) (some (injRs [RT.d Ty.bool] false)))))) (ifs ((x1 != x2) = true) (some (injRs [RT.d Ty.bool] false)) (ifs ((x1 != (0 : Int)) = true) (Option.bind (cR (nat_lit 12) [RT.d Ty.bool] []) fun r => ifs (r = true) (Option.bind (cR (nat_lit 22) [RT.own (35 : Go.TypeId) ty35] [inj ty31 (x5, ())]) fun r => some (injRs [RT.d Ty.bool] ((↑(List.length r) : Int) == (0 : Int)))) (some (injRs [RT.d Ty.bool] false))) (Option.bind (cR (nat_lit 24) [RT.own (40 : Go.TypeId) ty40] [inj (Ty.sl ty40) x0]) fun r => Option.bind (cR (nat_lit 21) [RT.d ty31, RT.d (Ty.int Go.IntKind.i64)] [inj ty31 (x5, ()), inj (Ty.sl ty40) (List.take (List.length r) r)]) fun r => Option.bind (cR (nat_lit 12) [RT.d Ty.bool] []) fun r_1 => ifs (r_1 = true) (Option.bind (cR (nat_lit 22) [RT.own (35 : Go.TypeId) ty35] [inj ty31 (x5, ())]) fun r_2 => Option.bind (cR (nat_lit 25) [RT.d Ty.bool] [inj (Ty.sl ty35) (List.take (List.length r_2) r_2), inj (Ty.sl ty35) (List.take (List.length x6) x6)]) fun r_3 => ifs (r_3 = true) (ifs ((r.snd == (0 : Int)) = true) (Option.bind (cR (nat_lit 26) [RT.d Ty.bool] [inj ty31 (r.fst.fst, ()), inj ty31 (x4, ())]) fun r => ifs (r = true) (Option.bind (cR (nat_lit 24) [RT.own (40 : Go.TypeId) ty40] [inj (Ty.sl ty40) x0]) fun r => Option.bind (cR (nat_lit 24) [RT.own (40 : Go.TypeId) ty40] [inj (Ty.sl ty40) (List.take (List.length r) r)]) fun r => Option.bind (cR (nat_lit 27) [RT.d Ty.bool] [inj (Ty.sl ty40) (List.take (List.length r) r), inj (Ty.sl ty40) x0]) fun r => some (injRs [RT.d Ty.bool] r)) (some (injRs [RT.d Ty.bool] false))) (some (injRs [RT.d Ty.bool] false))) (some (injRs [RT.d Ty.bool] false))) (some (injRs [RT.d Ty.bool] false))))) := by kernel_rfl
theorem q4_10v1 (x0 : List (Int × ByteArray × ByteArray × Int × List ByteArray × List ByteArray)) (x1 : Int) (x2 : List (ByteArray × Bool × List ByteArray)) (x3 : Int) (x4 : Int) (x5 : List (ByteArray × Bool × List ByteArray)) (x6 : List (ByteArray × Bool × List ByteArray)) : cutG W0 (callW W0) (cutW W0) n4 td4_10 { fr := [((1 : Nat), F.a (A.c (C.sl ty40 x0))), ((5 : Nat), F.a (A.c (C.pt (Pt.own (0 : Nat) (0 : Nat) (0 : Nat))))), ((7 : Nat), F.a (A.c (C.pt (Pt.own (1 : Nat) (0 : Nat) (0 : Nat))))), ((8 : Nat), F.a (A.c (C.sc (Go.Value.int Go.IntKind.i64 x1)))), ((9 : Nat), F.a (A.c (C.sl ty35 x2))), ((10 : Nat), F.a (A.c (C.sc (Go.Value.int Go.IntKind.i64 x3)))), ((11 : Nat), F.a (A.c (C.sc (Go.Value.int Go.IntKind.i64 x4))))], mem := [some (Row.box (31 : Nat) (some ty31) [C.sl ty35 x5] false), some (Row.box (31 : Nat) (some ty31) [C.sl ty35 x6] false)], nx := (2 : Nat) } = ifs (decide (x4 < (↑(List.length x0) : Int)) = true) (ifs ((x3 == (0 : Int)) = true) (ifs ((0 : Int) ≤ x4) (Option.bind x0[Int.toNat x4]? fun r => Option.bind (cR (nat_lit 23) [RT.d (Ty.sl ty35), RT.d (Ty.int Go.IntKind.i64)] [inj (Ty.sl ty35) x2, inj ty40 r]) fun r => l4_10v1 x0 x1 r.fst r.snd (Go.IntKind.wrap Go.IntKind.i64 (x4 + (1 : Int))) x5 x6) none) (ifs ((x1 != x3) = true) (some (injRs [RT.d Ty.bool] false)) (ifs ((x1 != (0 : Int)) = true) (Option.bind (cR (nat_lit 12) [RT.d Ty.bool] []) fun r => ifs (r = true) (Option.bind (cR (nat_lit 22) [RT.own (35 : Go.TypeId) ty35] [inj ty31 (x6, ())]) fun r => some (injRs [RT.d Ty.bool] ((↑(List.length r) : Int) == (0 : Int)))) (some (injRs [RT.d Ty.bool] false))) (Option.bind (cR (nat_lit 24) [RT.own (40 : Go.TypeId) ty40] [inj (Ty.sl ty40) x0]) fun r => Option.bind (cR (nat_lit 21) [RT.d ty31, RT.d (Ty.int Go.IntKind.i64)] [inj ty31 (x6, ()), inj (Ty.sl ty40) (List.take (List.length r) r)]) fun r => Option.bind (cR (nat_lit 12) [RT.d Ty.bool] []) fun r_1 => ifs (r_1 = true) (Option.bind (cR (nat_lit 22) [RT.own (35 : Go.TypeId) ty35] [inj ty31 (x6, ())]) fun r_2 => Option.bind (cR (nat_lit 25) [RT.d Ty.bool] [inj (Ty.sl ty35) (List.take (List.length r_2) r_2), inj (Ty.sl ty35) x2]) fun r_3 => ifs (r_3 = true) (ifs ((r.snd == (0 : Int)) = true) (Option.bind (cR (nat_lit 26) [RT.d Ty.bool] [inj ty31 (r.fst.fst, ()), inj ty31 (x5, ())]) fun r => ifs (r = true) (Option.bind (cR (nat_lit 24) [RT.own (40 : Go.TypeId) ty40] [inj (Ty.sl ty40) x0]) fun r => Option.bind (cR (nat_lit 24) [RT.own (40 : Go.TypeId) ty40] [inj (Ty.sl ty40) (List.take (List.length r) r)]) fun r => Option.bind (cR (nat_lit 27) [RT.d Ty.bool] [inj (Ty.sl ty40) (List.take (List.length r) r), inj (Ty.sl ty40) x0]) fun r => some (injRs [RT.d Ty.bool] r)) (some (injRs [RT.d Ty.bool] false))) (some (injRs [RT.d Ty.bool] false))) (some (injRs [RT.d Ty.bool] false))) (some (injRs [RT.d Ty.bool] false)))))) (ifs ((x1 != x3) = true) (some (injRs [RT.d Ty.bool] false)) (ifs ((x1 != (0 : Int)) = true) (Option.bind (cR (nat_lit 12) [RT.d Ty.bool] []) fun r => ifs (r = true) (Option.bind (cR (nat_lit 22) [RT.own (35 : Go.TypeId) ty35] [inj ty31 (x6, ())]) fun r => some (injRs [RT.d Ty.bool] ((↑(List.length r) : Int) == (0 : Int)))) (some (injRs [RT.d Ty.bool] false))) (Option.bind (cR (nat_lit 24) [RT.own (40 : Go.TypeId) ty40] [inj (Ty.sl ty40) x0]) fun r => Option.bind (cR (nat_lit 21) [RT.d ty31, RT.d (Ty.int Go.IntKind.i64)] [inj ty31 (x6, ()), inj (Ty.sl ty40) (List.take (List.length r) r)]) fun r => Option.bind (cR (nat_lit 12) [RT.d Ty.bool] []) fun r_1 => ifs (r_1 = true) (Option.bind (cR (nat_lit 22) [RT.own (35 : Go.TypeId) ty35] [inj ty31 (x6, ())]) fun r_2 => Option.bind (cR (nat_lit 25) [RT.d Ty.bool] [inj (Ty.sl ty35) (List.take (List.length r_2) r_2), inj (Ty.sl ty35) x2]) fun r_3 => ifs (r_3 = true) (ifs ((r.snd == (0 : Int)) = true) (Option.bind (cR (nat_lit 26) [RT.d Ty.bool] [inj ty31 (r.fst.fst, ()), inj ty31 (x5, ())]) fun r => ifs (r = true) (Option.bind (cR (nat_lit 24) [RT.own (40 : Go.TypeId) ty40] [inj (Ty.sl ty40) x0]) fun r => Option.bind (cR (nat_lit 24) [RT.own (40 : Go.TypeId) ty40] [inj (Ty.sl ty40) (List.take (List.length r) r)]) fun r => Option.bind (cR (nat_lit 27) [RT.d Ty.bool] [inj (Ty.sl ty40) (List.take (List.length r) r), inj (Ty.sl ty40) x0]) fun r => some (injRs [RT.d Ty.bool] r)) (some (injRs [RT.d Ty.bool] false))) (some (injRs [RT.d Ty.bool] false))) (some (injRs [RT.d Ty.bool] false))) (some (injRs [RT.d Ty.bool] false))))) := by kernel_rfl
noncomputable def td6_7 : List Item := (findT (code Tryz.f6) [] 7).getD []
noncomputable def l6_7 (x0 : List (Int × ByteArray × ByteArray × Int × List ByteArray × List ByteArray)) (x1 : Int) (x2 : Int) (x3 : Int) (x4 : List (ByteArray × Bool × List ByteArray)) (x5 : List (ByteArray × Bool × List ByteArray)) (x6 : List (Int × ByteArray × ByteArray × Int × List ByteArray × List ByteArray)) : Option (List RV) := cutW W0 n6 td6_7 { fr := [((1 : Nat), F.a (A.c (C.sl ty40 x0))), ((5 : Nat), F.a (A.c (C.pt (Pt.own (0 : Nat) (0 : Nat) (0 : Nat))))), ((6 : Nat), F.a (A.c (C.sc (Go.Value.int Go.IntKind.i64 x1)))), ((7 : Nat), F.a (A.c (C.pt (Pt.own (1 : Nat) (0 : Nat) (0 : Nat))))), ((8 : Nat), F.a (A.c (C.sc (Go.Value.int Go.IntKind.i64 x2)))), ((9 : Nat), F.a (A.c (C.ow (2 : Nat) (List.length x6)))), ((10 : Nat), F.a (A.c (C.sc (Go.Value.int Go.IntKind.i64 x3))))], mem := [some (Row.box (31 : Nat) (some ty31) [C.sl ty35 x4] false), some (Row.box (31 : Nat) (some ty31) [C.sl ty35 x5] false), some (Row.arr (40 : Nat) ty40 x6 false)], nx := (3 : Nat) }
theorem e6 (a0 : List (ByteArray × Bool × List ByteArray)) (a1 : List (Int × ByteArray × ByteArray × Int × List ByteArray × List ByteArray)) : callG W0 (callW W0) (cutW W0) 6 [inj (Ty.sl ty35) a0, inj (Ty.sl ty40) a1] = Option.bind (cR (nat_lit 19) [RT.d Ty.bool] [inj (Ty.sl ty35) a0]) fun r => ifs ((!r) = false) (Option.bind (cR (nat_lit 31) [RT.d Ty.bool] [inj (Ty.sl ty40) a1]) fun r => ifs ((!r) = true) (Option.bind (cR (nat_lit 32) [RT.d Ty.bool] []) fun r => some (injRs [RT.d Ty.bool] r)) (Option.bind (cR (nat_lit 13) [RT.d ty31, RT.d (Ty.int Go.IntKind.i64)] [inj (Ty.sl ty35) a0]) fun r => Option.bind (cR (nat_lit 21) [RT.d ty31, RT.d (Ty.int Go.IntKind.i64)] [inj ty31 (r.fst.fst, ()), inj (Ty.sl ty40) a1]) fun r_1 => Option.bind (cR (nat_lit 33) [RT.own (40 : Go.TypeId) ty40] [inj (Ty.sl ty40) a1]) fun r_2 => l6_7 a1 r.snd r_1.snd (1 : Int) r.fst.fst r_1.fst.fst r_2)) (Option.bind (cR (nat_lit 32) [RT.d Ty.bool] []) fun r => some (injRs [RT.d Ty.bool] r)) := by kernel_rfl
noncomputable def td3_6 : List Item := (findT (code Tryz.f3) [] 6).getD []
noncomputable def l3_6 (x0 : ByteArray) (x1 : List ByteArray) (x2 : Int) (x3 : List (ByteArray × Bool × List ByteArray)) (x4 : List (Int × List ByteArray × List ByteArray)) : Option (List RV) := cutW W0 n3 td3_6 { fr := [((0 : Nat), F.a (A.c (C.sc (Go.Value.string x0)))), ((2 : Nat), F.a (A.c (C.sl Ty.str x1))), ((7 : Nat), F.a (A.c (C.pt (Pt.own (0 : Nat) (0 : Nat) (0 : Nat))))), ((9 : Nat), F.a (A.c (C.ow (1 : Nat) (List.length x4)))), ((10 : Nat), F.a (A.c (C.sc (Go.Value.int Go.IntKind.i64 x2))))], mem := [some (Row.box (31 : Nat) (some ty31) [C.sl ty35 x3] false), some (Row.arr (43 : Nat) ty43 x4 false)], nx := (2 : Nat) }
theorem e3 (a0 : ByteArray) (a1 : List ByteArray) (a2 : List ByteArray) : callG W0 (callW W0) (cutW W0) 3 [inj Ty.str a0, inj (Ty.sl Ty.str) a1, inj (Ty.sl Ty.str) a2] = ifs (decide ((↑(ByteArray.size a0) : Int) > (300 : Int)) = false) (Option.bind (cR (nat_lit 8) [RT.d Ty.bool] [inj Ty.str a0]) fun r => ifs ((!r) = false) (Option.bind (cR (nat_lit 9) [RT.own (9 : Go.TypeId) Ty.str] [inj Ty.str a0]) fun r => ifs (((↑(List.length r) : Int) != (1 : Int)) = false) (Option.bind (cR (nat_lit 10) [RT.d Ty.bool] [inj (Ty.sl Ty.str) a1]) fun r => ifs ((!r) = false) (Option.bind (cR (nat_lit 10) [RT.d Ty.bool] [inj (Ty.sl Ty.str) a2]) fun r => ifs ((!r) = false) (Option.bind (cR (nat_lit 11) [RT.d (Ty.int Go.IntKind.i64)] [inj (Ty.sl Ty.str) a1]) fun r => ifs ((r != (0 : Int)) = false) (Option.bind (cR (nat_lit 11) [RT.d (Ty.int Go.IntKind.i64)] [inj (Ty.sl Ty.str) a2]) fun r => ifs ((r != (0 : Int)) = true) (Option.bind (cR (nat_lit 12) [RT.d Ty.bool] []) fun r => some (injRs [RT.d Ty.bool] r)) (Option.bind (cR (nat_lit 13) [RT.d ty31, RT.d (Ty.int Go.IntKind.i64)] [inj (Ty.sl ty35) [(a0, false, a1)]]) fun r => Option.bind (cR (nat_lit 14) [RT.own (43 : Go.TypeId) ty43] [inj (Ty.sl Ty.str) a1, inj (Ty.sl Ty.str) a2]) fun r_1 => l3_6 a0 a2 (Go.IntKind.wrap Go.IntKind.i64 ((↑(List.length r_1) : Int) - (1 : Int))) r.fst.fst r_1)) (Option.bind (cR (nat_lit 12) [RT.d Ty.bool] []) fun r => some (injRs [RT.d Ty.bool] r))) (Option.bind (cR (nat_lit 12) [RT.d Ty.bool] []) fun r => some (injRs [RT.d Ty.bool] r))) (Option.bind (cR (nat_lit 12) [RT.d Ty.bool] []) fun r => some (injRs [RT.d Ty.bool] r))) (Option.bind (cR (nat_lit 12) [RT.d Ty.bool] []) fun r => some (injRs [RT.d Ty.bool] r))) (Option.bind (cR (nat_lit 12) [RT.d Ty.bool] []) fun r => some (injRs [RT.d Ty.bool] r))) (Option.bind (cR (nat_lit 12) [RT.d Ty.bool] []) fun r => some (injRs [RT.d Ty.bool] r)) := by kernel_rfl
end Go.Proofs.YtabhngbpkfdeiaaGreatDoor.Tb
end
section
/- The reference's steps, what takes steps back, and that PrimAll answers true. Conditions: lengths as they stand in each statement. -/
set_option linter.unusedVariables false
set_option linter.unusedSimpArgs false
namespace Go.Proofs.YtabhngbpkfdeiaaGreatDoor.Sp
open Go Go.Proofs.YtabhngbpkfdeiaaGreatDoor.Ab Go.Proofs.YtabhngbpkfdeiaaGreatDoor.Tb Go.Proofs.YtabhngbpkfdeiaaGreatDoor.EText

set_option maxRecDepth 100000 in
theorem awake7_ok : cR 12 [RT.d .bool] [] = some true := callT_ofN 60 (by kernel_rfl)
theorem at3_ok (a o : List Txt) (n : Nat) (ha : a.length ≤ 100000) (ho : o.length ≤ 1000000) (hn : n ≤ a.length) : cR 101 [RT.d .bool] [inj (.sl .str) a, inj (.sl .str) o, inj (.int .i64) (n : Int)] = some (decide (n + o.length ≤ a.length ∧ (a.drop n).take o.length = o)) := by
  refine callT_of ((e101 a o (n : Int)).trans ?_)
  have e1 : IntKind.i64.wrap ((a.length : Int) - (n : Int)) = ((a.length - n : Nat) : Int) := by rw [wr _ (by omega)]; omega
  rw [ifs_pos (by simp), e1]
  by_cases h1 : n + o.length ≤ a.length
  · rw [ifs_neg (by simp; omega)]
    have key : ∀ i : Nat, i ≤ o.length → l101_4 a o (n : Int) (i : Int) = some (injRs [RT.d .bool] (decide ((a.drop (n + i)).take (o.length - i) = o.drop i))) := by
      refine upTo (C := fun i => l101_4 a o (n : Int) (i : Int) = some (injRs [RT.d .bool] (decide ((a.drop (n + i)).take (o.length - i) = o.drop i)))) (fun i hi ih => ?_) ?_
      · refine cutG_step ((q101_4 ..).trans ?_)
        have e2 : IntKind.i64.wrap ((n : Int) + (i : Int)) = ((n + i : Nat) : Int) := by rw [wr _ (by omega)]; omega
        have e3 : IntKind.i64.wrap ((i : Int) + 1) = ((i + 1 : Nat) : Int) := by rw [wr _ (by omega)]; omega
        have hlt : n + i < a.length := by omega
        rw [ifs_pos (by simp; omega), e2, ifs_pos (by omega), Int.toNat_natCast, at_ok hlt, ifs_pos (by omega), Int.toNat_natCast, at_ok hi, bat, e3, ih, List.drop_eq_getElem_cons hlt, List.drop_eq_getElem_cons hi, show o.length - i = (o.length - (i + 1)) + 1 by omega, List.take_succ_cons]
        by_cases h2 : a[n + i] = o[i]
        · rw [ifs_neg (by simp [h2]), h2]
          congr 2
          simp only [List.cons.injEq, true_and, Nat.add_assoc]
        · rw [ifs_pos (by simp [h2])]
          have : ¬ (a[n + i] :: List.take (o.length - (i + 1)) (List.drop (n + i + 1) a) = o[i] :: List.drop (i + 1) o) := fun h => h2 (List.cons.inj h).1
          rw [decide_eq_false this]
      · refine cutG_step ((q101_4 ..).trans ?_)
        rw [ifs_neg (by simp), Nat.sub_self, List.take_zero, List.drop_length, decide_eq_true rfl]
    have h0 := key 0 (Nat.zero_le _)
    rw [Nat.add_zero, Nat.sub_zero, List.drop_zero] at h0
    refine Eq.trans h0 ?_
    congr 2
    exact decide_eq_decide.2 ⟨fun h => ⟨h1, h⟩, fun h => h.2⟩
  · rw [ifs_pos (by simp; omega), decide_eq_false (fun h => h1 h.1)]
theorem sz16 (n : Nat) (h : n ≤ 5000000) : n * 16 ≤ 140737488355328 := by omega
theorem sz96 (n : Nat) (h : n ≤ 1000000) : n * 96 ≤ 140737488355328 := by omega
theorem apply4_ok (ls : List Txt) (p : Prm) (h0 : 0 ≤ p.2.2.2.1) (hm : Md p) (hls : ls.length ≤ 100000) :
    cR 60 [RT.own 9 .str, RT.d .bool] [inj (.sl .str) ls, inj (.sl ty43) [hk p]] = some (match hdo ls p with | some x => (x, true) | none => ([], false)) := by
  have ho := hm.old.1
  have hw := hm.new.1
  have hw' : (hk p).2.2.length ≤ 1000000 := hw
  have ho' : (hk p).2.1.length ≤ 1000000 := ho
  refine callT_of ((e60 ls [hk p]).trans ?_)
  have e0 : IntKind.i64.wrap ((([hk p] : List (Int × List Txt × List Txt)).length : Int) - 1) = 0 := wr _ (by simp)
  rw [ifs_pos (sz16 _ (by omega)), e0, List.nil_append]
  refine cutG_step ((q60_3 ..).trans ?_)
  rw [ifs_pos (by simp), ifs_pos (by omega), show ([hk p] : List (Int × List Txt × List Txt))[Int.toNat 0]? = some (hk p) from rfl, Option.bind_some]
  obtain ⟨n, hn⟩ : ∃ n : Nat, p.2.2.2.1 = n := ⟨p.2.2.2.1.toNat, by omega⟩
  unfold hdo
  have e1 : (hk p).1 = (n : Int) := hn
  rw [e1, Int.toNat_natCast]
  by_cases c1 : n > ls.length
  · rw [ifs_neg (by simp; omega), if_neg (by omega)]
  · rw [ifs_pos (by simp; omega), at3_ok ls _ n hls ho' (by omega), Option.bind_some]
    by_cases c2 : n + p.2.2.2.2.1.length ≤ ls.length ∧ (ls.drop n).take p.2.2.2.2.1.length = p.2.2.2.2.1
    · have e2 : IntKind.i64.wrap ((n : Int) + ((hk p).2.1.length : Int)) = ((n + p.2.2.2.2.1.length : Nat) : Int) := by rw [wr _ (by omega)]; show (n : Int) + (p.2.2.2.2.1.length : Int) = _; omega
      have e3 : IntKind.i64.wrap ((0 : Int) - 1) = -1 := wr _ (by omega)
      rw [ifs_neg (by simp [show (hk p).2.1 = p.2.2.2.2.1 from rfl, c2.1, c2.2]), if_pos c2, e2, e3, Int.toNat_natCast, Int.toNat_natCast, List.nil_append, ifs_pos (by omega), ifs_pos (sz16 _ (by rw [List.length_take]; omega)), ifs_pos (sz16 _ (by rw [List.length_take]; omega)), ifs_pos (by omega), ifs_pos (by omega)]
      rw [ifs_pos (sz16 _ (by simp only [List.length_append, List.length_take, List.length_drop]; omega))]
      refine cutG_step ((q60_3 ..).trans ?_)
      rw [ifs_neg (by simp)]
      simp only [Int.toNat_natCast, List.take_length]
    · have : decide (n + (hk p).2.1.length ≤ ls.length ∧ (ls.drop n).take (hk p).2.1.length = (hk p).2.1) = false := decide_eq_false c2
      rw [this, ifs_pos (by rfl), if_neg c2]

/-- The reference's step answers as the program's does. -/
theorem apply7_ok (l : List Fil) (hl : Tk l) (hd : Dirs l) (p : Prm) (hm : Md p) :
    ∃ Y : List Fil, cR 23 [RT.d (.sl ty35), RT.d (.int .i64)] [inj (.sl ty35) l, inj ty40 p] = some (Y, (applyP l p).2) ∧ ((applyP l p).2 = 0 → Y = (applyP l p).1) := by
  have hnil : LOk ([] : List Txt) := ⟨Nat.zero_le _, fun s hs => (by cases hs)⟩
  have hdo6 : ∀ c : Cal, LOk c.2.2.2 → cR 59 [RT.d (.sl ty35), RT.d (.int .i64)] [inj (.sl ty35) l, inj ty93 c] = some (if (DoP l c).2 = 0 then (DoP l c).1 else l, (DoP l c).2) := fun c hc => do6_ok l hl hd c hc
  have fin : ∀ (c : Cal) (R : List Fil × Int), LOk c.2.2.2 → DoP l c = R → ∃ Y : List Fil, Option.bind (cR 59 [RT.d (.sl ty35), RT.d (.int .i64)] [inj (.sl ty35) l, inj ty93 c]) (fun r => some (injRs [RT.d (.sl ty35), RT.d (.int .i64)] r)) = some (injRs [RT.d (.sl ty35), RT.d (.int .i64)] (Y, R.2)) ∧ (R.2 = 0 → Y = R.1) := fun c R hc e => by
    subst e
    refine ⟨if (DoP l c).2 = 0 then (DoP l c).1 else l, by rw [hdo6 c hc, Option.bind_some], fun h => by rw [if_pos h]⟩
  have bad : ∀ k : Int, k ≠ 0 → ∃ Y : List Fil, some (injRs [RT.d (.sl ty35), RT.d (.int .i64)] (([] : List Fil), k)) = some (injRs [RT.d (.sl ty35), RT.d (.int .i64)] (Y, k)) ∧ (k = 0 → Y = []) := fun k hk => ⟨[], rfl, fun h => absurd h hk⟩
  suffices H : ∃ Y : List Fil, callG W0 (callW W0) (cutW W0) 23 [inj (.sl ty35) l, inj ty40 p] = some (injRs [RT.d (.sl ty35), RT.d (.int .i64)] (Y, (applyP l p).2)) ∧ ((applyP l p).2 = 0 → Y = (applyP l p).1) by
    obtain ⟨Y, h1, h2⟩ := H
    exact ⟨Y, callT_of h1, h2⟩
  simp only [e23]
  rw [check7_ok p hm, Option.bind_some]
  unfold applyP
  by_cases hc : ¬ (chk p = 0)
  · rw [ifs_pos (by simpa using hc), if_pos hc]
    exact bad _ hc
  replace hc := Decidable.not_not.1 hc
  rw [ifs_neg (by simp [hc]), if_neg (by simp [hc]), find6_ok l hl, Option.bind_some]
  by_cases k1 : p.1 = 1
  · rw [ifs_pos (by simp [k1]), if_pos k1]
    exact fin (0, p.2.1, zt, []) _ hnil rfl
  rw [ifs_neg (by simpa using k1), if_neg k1]
  by_cases k3 : p.1 = 3
  · rw [ifs_pos (by simp [k3]), if_neg (by omega), if_neg (by omega), if_neg (by omega)]
    unfold findP
    cases hh : hasP l p.2.1 with
    | true =>
      rw [if_pos rfl, if_pos rfl, ifs_pos (by simp)]
      exact bad 10 (by decide)
    | false =>
      rw [if_neg (by simp), if_neg (by simp), ifs_neg (by simp)]
      exact fin (1, p.2.1, zt, []) _ hnil rfl
  rw [ifs_neg (by simpa using k3)]
  by_cases k5 : p.1 = 5
  · rw [ifs_pos (by simp [k5]), if_neg (by omega), if_pos k5]
    exact fin (3, p.2.1, p.2.2.1, []) _ hnil rfl
  rw [ifs_neg (by simpa using k5)]
  have kk := chk_kind hc
  have h246 : p.1 = 2 ∨ p.1 = 4 ∨ p.1 = 6 := by omega
  unfold findP
  cases hh : hasP l p.2.1 with
  | false =>
    rw [if_neg (by simp), ifs_pos (by simp)]
    have e9 : (if p.1 = 2 ∨ p.1 = 4 then goneP l p.2.1 (decide (p.1 = 2)) else if p.1 = 5 then mvP l p.2.1 p.2.2.1 else if p.1 = 6 then hunkP l p else if false = true then ([], 10) else wrP l p.2.1 []) = (([] : List Fil), 9) := by
      rcases h246 with k | k | k
      · rw [if_pos (.inl k)]; unfold goneP; rw [if_pos hh]
      · rw [if_pos (.inr k)]; unfold goneP; rw [if_pos hh]
      · rw [if_neg (by omega), if_neg (by omega), if_pos k]; unfold hunkP; rw [if_pos hh]
    rw [e9]
    exact bad 9 (by decide)
  | true =>
    obtain ⟨hmem, hpath⟩ := getP_mem hh
    have hf := hl.f _ hmem
    have hn := hf.n
    rw [if_pos rfl, ifs_neg (by simp), ifs_pos (by omega), Int.toNat_natCast, getP_find hh, Option.bind_some]
    by_cases k6 : p.1 = 6
    · have h6 := chk_hunk hc k6
      have e6 : (if p.1 = 2 ∨ p.1 = 4 then goneP l p.2.1 (decide (p.1 = 2)) else if p.1 = 5 then mvP l p.2.1 p.2.2.1 else if p.1 = 6 then hunkP l p else if true = true then ([], 10) else wrP l p.2.1 []) = hunkP l p := by rw [if_neg (by omega), if_neg (by omega), if_pos k6]
      rw [e6]
      unfold hunkP
      rw [if_neg (by simp [hh])]
      cases hdir : (getP l p.2.1).1.2.1 with
      | true =>
        rw [if_pos rfl, ifs_pos (by simp [k6])]
        exact bad 11 (by decide)
      | false =>
        rw [if_neg (by simp), ifs_neg (by simp [k6]), ifs_neg (by simp [k6]), ifs_pos (by omega), Option.bind_some]
        have ha := apply4_ok (getP l p.2.1).1.2.2 p h6.1 hm (by omega)
        simp only [hk] at ha
        rw [ha, Option.bind_some]
        cases hx : hdo (getP l p.2.1).1.2.2 p with
        | none =>
          simp only
          rw [ifs_pos (by rfl)]
          exact bad 13 (by decide)
        | some x =>
          simp only
          rw [ifs_neg (by simp), List.take_length]
          exact fin (1, p.2.1, zt, x) _ (hdo_LOk hm hx hf.l (by omega)) rfl
    · have e24 : (if p.1 = 2 ∨ p.1 = 4 then goneP l p.2.1 (decide (p.1 = 2)) else if p.1 = 5 then mvP l p.2.1 p.2.2.1 else if p.1 = 6 then hunkP l p else if true = true then ([], 10) else wrP l p.2.1 []) = goneP l p.2.1 (decide (p.1 = 2)) := by rw [if_pos (by omega)]
      rw [e24]
      unfold goneP
      rw [if_neg (by simp [hh])]
      by_cases hdir : (getP l p.2.1).1.2.1 = decide (p.1 = 2)
      · have hb : (!((getP l p.2.1).1.2.1 == (p.1 == (2 : Int)))) = false := by rw [hdir]; simp [BEq.beq]
        rw [ifs_neg (by simpa using hb), if_neg (by simp [hdir]), ifs_pos (by simpa using k6), ifs_pos (by omega), Option.bind_some, lenpos]
        by_cases h0 : (getP l p.2.1).1.2.2 = []
        · rw [ifs_neg (by simp [h0]), if_neg (by simp [h0])]
          exact fin (2, p.2.1, zt, []) _ hnil rfl
        · rw [ifs_pos (by simpa using h0), if_pos h0]
          exact bad 13 (by decide)
      · have hb : (!((getP l p.2.1).1.2.1 == (p.1 == (2 : Int)))) = true := by
          have : (p.1 == (2 : Int)) = decide (p.1 = 2) := rfl
          rw [this]; simpa using hdir
        rw [ifs_pos (by simpa using hb), if_pos hdir]
        exact bad 11 (by decide)

/-! ### What takes steps back -/
theorem pback_ok (s : List Prm) (hs : ∀ p ∈ s, Md p) (hn : s.length ≤ 1000) : cR 24 [RT.own 40 ty40] [inj (.sl ty40) s] = some (backP s) := by
  have key : ∀ (i : Nat), i ≤ s.length → ∀ acc : List Prm, acc.length + i ≤ 1000 → l24_3 s ((i : Int) - 1) acc = some (injRs [RT.own 40 ty40] (acc ++ backP (s.take i))) := by
    intro i
    induction i with
    | zero =>
      intro _ acc ha
      refine cutG_step ((q24_3 ..).trans ?_)
      rw [ifs_neg (by simp), List.take_length, List.take_zero]
      simp [backP]
    | succ i ih =>
      intro hi acc ha
      have hlt : i < s.length := by omega
      refine cutG_step ((q24_3 ..).trans ?_)
      have e1 : (((i + 1 : Nat) : Int) - 1) = (i : Int) := by omega
      have e2 : IntKind.i64.wrap ((i : Int) - 1) = (i : Int) - 1 := wr _ (by omega)
      rw [e1, ifs_pos (by simp), ifs_pos (by omega), Int.toNat_natCast, at_ok hlt, inv_ok _ (hs _ (List.getElem_mem hlt)), Option.bind_some, ifs_pos (sz96 _ (by omega)), List.take_length, e2, ih (by omega) _ (by rw [List.length_append, List.length_singleton]; omega)]
      congr 2
      unfold backP
      rw [List.take_succ_eq_append_getElem hlt, List.reverse_append, List.reverse_singleton, List.singleton_append, List.map_cons, List.append_assoc, List.singleton_append]
  refine callT_of ((e24 s).trans ?_)
  have e3 : IntKind.i64.wrap ((s.length : Int) - 1) = (s.length : Int) - 1 := wr _ (by omega)
  rw [e3, key _ (Nat.le_refl _) [] (by simp; omega), List.take_length, List.nil_append]
theorem sameAll_ok (s : List Prm) (hs : ∀ p ∈ s, Md p) (hn : s.length ≤ 1000) : cR 27 [RT.d .bool] [inj (.sl ty40) s, inj (.sl ty40) s] = some true := by
  have key : ∀ i : Nat, i ≤ s.length → l64_4 s s (s.length : Int) (i : Int) = some (injRs [RT.d .bool] true) := by
    refine upTo (C := fun i => l64_4 s s (s.length : Int) (i : Int) = some (injRs [RT.d .bool] true)) (fun i hi ih => ?_) ?_
    · refine cutG_step ((q64_4 ..).trans ?_)
      have e3 : IntKind.i64.wrap ((i : Int) + 1) = ((i + 1 : Nat) : Int) := by rw [wr _ (by omega)]; omega
      rw [ifs_pos (by simp; omega), ifs_pos (by omega), Int.toNat_natCast, at_ok hi, ifs_pos (by omega), at_ok hi, psame_ok _ _ (hs _ (List.getElem_mem hi)).pok, Option.bind_some, ifs_neg (by simp), e3]
      exact ih
    · refine cutG_step ((q64_4 ..).trans ?_)
      rw [ifs_neg (by simp)]
  have h3 : cR 64 [RT.d .bool] [inj (.sl ty40) s, inj (.sl ty40) s, A.c (C.cl 40 [])] = some true := by
    refine callT_of ((e64 s s).trans ?_)
    rw [ifs_neg (by simp)]
    exact key 0 (Nat.zero_le _)
  refine callT_of ((e27 s s).trans ?_)
  rw [h3, Option.bind_some]

end Go.Proofs.YtabhngbpkfdeiaaGreatDoor.Sp
end
section
/- PrimAll answers true. Conditions: what the parameters' kinds tell. -/
set_option linter.unusedVariables false
set_option linter.unusedSimpArgs false
namespace Go.Proofs.YtabhngbpkfdeiaaGreatDoor.Sp
open Go Go.Proofs.YtabhngbpkfdeiaaGreatDoor.Ab Go.Proofs.YtabhngbpkfdeiaaGreatDoor.Tb Go.Proofs.YtabhngbpkfdeiaaGreatDoor.EText

/-- What comes back is what was. -/
theorem back_to {t u : List Fil} {s : List Prm} (hg : Gd t 40) (hd : Dirs t) (hs : s.length ≤ 40) (hu : appsP t s = (u, 0)) : appsP u (backP s) = (t, 0) ∧ Gd u 80 := by
  obtain ⟨hr, hgu⟩ := runG_of hg (by omega) hu
  have hgu' : Gd u 80 := hgu.weak (by omega)
  obtain ⟨hb, _⟩ := run_back s (fun x e => hg.line) (dirsM_of hg.tk.s hd) hr
  have hl : (backP s).length = s.length := by unfold backP; simp
  obtain ⟨w, hw, hmw, hgw⟩ := appsG_of hgu' (by omega) hb
  rw [hw, mp_ext hgw.tk.s hg.tk.s hmw]
  exact ⟨rfl, hgu'⟩
theorem back_md {s : List Prm} (hs : ∀ p ∈ s, Md p) : ∀ p ∈ backP s, Md p := fun p hp => by
  unfold backP at hp
  obtain ⟨q, hq, rfl⟩ := List.mem_map.1 hp
  exact (hs q (List.mem_reverse.1 hq)).inv
/-- The law's end. -/
theorem primAll_end (s : List Prm) (t u x : List Fil) (f g : Int) (hg : Gd t 40) (hd : Dirs t) (hs : s.length ≤ 40) (hmd : ∀ p ∈ s, Md p) (hu : appsP t s = (u, f)) (hfg : f = g) (hx : g = 0 → x = u) :
    (ifs ((f != g) = true) (some (injRs [RT.d Ty.bool] false)) (ifs ((f != (0 : Int)) = true) (Option.bind (cR 12 [RT.d Ty.bool] []) fun r => ifs (r = true) (Option.bind (cR 22 [RT.own 35 ty35] [inj ty31 (u, ())]) fun r => some (injRs [RT.d Ty.bool] ((List.length r : Int) == (0 : Int)))) (some (injRs [RT.d Ty.bool] false)))
      (Option.bind (cR 24 [RT.own 40 ty40] [inj (Ty.sl ty40) s]) fun r => Option.bind (cR 21 [RT.d ty31, RT.d (Ty.int Go.IntKind.i64)] [inj ty31 (u, ()), inj (Ty.sl ty40) (List.take (List.length r) r)]) fun r => Option.bind (cR 12 [RT.d Ty.bool] []) fun r_1 => ifs (r_1 = true) (Option.bind (cR 22 [RT.own 35 ty35] [inj ty31 (u, ())]) fun r_2 => Option.bind (cR 25 [RT.d Ty.bool] [inj (Ty.sl ty35) (List.take (List.length r_2) r_2), inj (Ty.sl ty35) x]) fun r_3 => ifs (r_3 = true) (ifs ((r.snd == (0 : Int)) = true) (Option.bind (cR 26 [RT.d Ty.bool] [inj ty31 (r.fst.fst, ()), inj ty31 (t, ())]) fun r => ifs (r = true) (Option.bind (cR 24 [RT.own 40 ty40] [inj (Ty.sl ty40) s]) fun r => Option.bind (cR 24 [RT.own 40 ty40] [inj (Ty.sl ty40) (List.take (List.length r) r)]) fun r => Option.bind (cR 27 [RT.d Ty.bool] [inj (Ty.sl ty40) (List.take (List.length r) r), inj (Ty.sl ty40) s]) fun r => some (injRs [RT.d Ty.bool] r)) (some (injRs [RT.d Ty.bool] false))) (some (injRs [RT.d Ty.bool] false))) (some (injRs [RT.d Ty.bool] false))) (some (injRs [RT.d Ty.bool] false)))) : Option (List RV)) = some (injRs [RT.d .bool] true) := by
  subst hfg
  rw [ifs_neg (by simp)]
  by_cases hf : f = 0
  · subst hf
    have hxu := hx rfl
    subst hxu
    obtain ⟨hb, hgu⟩ := back_to hg hd hs hu
    have hl : (backP s).length = s.length := by unfold backP; simp
    have hp := pall_ok x (backP s) hgu (by omega) (back_md hmd)
    rw [hb] at hp
    have hn := hgu.n
    rw [ifs_neg (by simp), pback_ok s hmd (by omega), Option.bind_some, List.take_length]
    refine (congrArg (fun o => Option.bind o _) hp).trans ?_
    rw [Option.bind_some, awake7_ok, Option.bind_some, ifs_pos rfl]
    refine (congrArg (fun o => Option.bind o _) (all_ok x hgu.tk)).trans ?_
    rw [Option.bind_some, List.take_length, same6_ok x (by omega) (fun f hf => (hgu.tk.f f hf).n), Option.bind_some, ifs_pos rfl, ifs_pos (by simp)]
    refine (congrArg (fun o => Option.bind o _) (gd_tsame hg (by omega))).trans ?_
    rw [Option.bind_some, ifs_pos rfl, Option.bind_some, pback_ok _ (by rw [List.take_length]; exact back_md hmd) (by rw [List.take_length]; omega), Option.bind_some, List.take_length, List.take_length, backP_back, sameAll_ok s hmd (by omega), Option.bind_some]
  · have hnil := appsP_nil s t (by rw [hu]; exact hf)
    rw [hu] at hnil
    subst hnil
    rw [ifs_pos (by simpa using hf), awake7_ok, Option.bind_some, ifs_pos rfl]
    refine (congrArg (fun o => Option.bind o _) (all_ok [] (gd_nil 0).tk)).trans ?_
    rw [Option.bind_some]
    rfl
theorem apps_step (t : List Fil) (p : Prm) (s : List Prm) : appsP t (p :: s) = if (applyP t p).2 ≠ 0 then ([], (applyP t p).2) else appsP (applyP t p).1 s := rfl
theorem primAll_loop (s : List Prm) (t u : List Fil) (f : Int) (hg : Gd t 40) (hd : Dirs t) (hs : s.length ≤ 40) (hmd : ∀ p ∈ s, Md p) (hu : appsP t s = (u, f)) :
    ∀ i : Nat, i ≤ s.length → ∀ (x : List Fil) (g : Int), ((g = 0 ∧ Gd x (40 + i) ∧ Dirs x ∧ appsP x (s.drop i) = (u, f)) ∨ (g ≠ 0 ∧ g = f)) →
      l4_10v1 s f x g (i : Int) t u = some (injRs [RT.d .bool] true) := by
  have ende : ∀ (x : List Fil) (g : Int) (i : Nat), f = g → (g = 0 → x = u) → (i < s.length → g ≠ 0) → l4_10v1 s f x g (i : Int) t u = some (injRs [RT.d .bool] true) := fun x g i hfg hx hi => by
    refine cutG_step ((q4_10v1 ..).trans ?_)
    by_cases h : i < s.length
    · have := hi h
      rw [ifs_pos (by simpa using h), ifs_neg (by simpa using this)]
      exact primAll_end s t u x f g hg hd hs hmd hu hfg hx
    · rw [ifs_neg (by simpa using h)]
      exact primAll_end s t u x f g hg hd hs hmd hu hfg hx
  intro i hi
  refine upTo (k := s.length) (C := fun i => i ≤ s.length → ∀ (x : List Fil) (g : Int), ((g = 0 ∧ Gd x (40 + i) ∧ Dirs x ∧ appsP x (s.drop i) = (u, f)) ∨ (g ≠ 0 ∧ g = f)) → l4_10v1 s f x g (i : Int) t u = some (injRs [RT.d .bool] true)) (fun i hi ih _ x g hinv => ?_) (fun _ x g hinv => ?_) i hi hi
  · rcases hinv with ⟨rfl, hgx, hdx, hax⟩ | ⟨hg0, hgf⟩
    · refine cutG_step ((q4_10v1 ..).trans ?_)
      have e3 : IntKind.i64.wrap ((i : Int) + 1) = ((i + 1 : Nat) : Int) := by rw [wr _ (by omega)]; omega
      obtain ⟨Y, h1, h2⟩ := apply7_ok x hgx.tk hdx s[i] (hmd _ (List.getElem_mem hi))
      rw [ifs_pos (by simpa using hi), ifs_pos (by simp), ifs_pos (by omega), Int.toNat_natCast, at_ok hi, h1, Option.bind_some, e3]
      rw [List.drop_eq_getElem_cons hi, apps_step] at hax
      by_cases h0 : (applyP x s[i]).2 = 0
      · rw [if_neg (by simpa using h0)] at hax
        obtain ⟨hc, hst, hg2⟩ := of_apply hgx (by omega) (p := s[i]) (l' := (applyP x s[i]).1) (by rw [← h0])
        have hd2 : Dirs (applyP x s[i]).1 := dirs_ofM hg2.tk.s (stp_dirs hc hst (dirsM_of hgx.tk.s hdx))
        refine ih (by omega) _ _ (.inl ⟨h0, ?_, ?_, ?_⟩)
        · rw [h2 h0]; exact hg2
        · rw [h2 h0]; exact hd2
        · rw [h2 h0]; exact hax
      · rw [if_pos h0] at hax
        exact ih (by omega) _ _ (.inr ⟨h0, (Prod.mk.inj hax).2⟩)
    · exact ende x g i hgf.symm (fun h => absurd h hg0) (fun _ => hg0)
  · rcases hinv with ⟨rfl, hgx, hdx, hax⟩ | ⟨hg0, hgf⟩
    · rw [List.drop_length] at hax
      have : (x, (0 : Int)) = (u, f) := hax
      exact ende x 0 _ (Prod.mk.inj this).2.symm (fun _ => (Prod.mk.inj this).1) (fun h => absurd h (Nat.lt_irrefl _))
    · exact ende x g _ hgf.symm (fun h => absurd h hg0) (fun _ => hg0)
theorem primAll_of (l : List Fil) (s : List Prm) (hl : l.length ≤ top) (hf : ∀ f ∈ l, FOk f) (hsl : s.length ≤ top) (hs : ∀ p ∈ s, POk p) :
    callW W0 4 [inj (.sl ty35) l, inj (.sl ty40) s] = some (injRs [RT.d .bool] true) := by
  refine callG_step ((e4 l s).trans ?_)
  rw [light6_ok l hl hf, Option.bind_some]
  cases h6 : light6 l with
  | false => rw [ifs_neg (by simp), awake7_ok, Option.bind_some]
  | true =>
  rw [ifs_pos (by simp), light7_ok s hsl hs, Option.bind_some]
  cases h7 : light7 s with
  | false => rw [ifs_pos (by simp), awake7_ok, Option.bind_some]
  | true =>
  rw [ifs_neg (by simp)]
  obtain ⟨hlf, hl40⟩ := light_of h6
  obtain ⟨hs40, hmf⟩ := light7_spec h7
  have hmd : ∀ p ∈ s, Md p := fun p hp => (hmf p hp).1
  obtain ⟨t, e, ht, hg, hd, hm⟩ := tof_ok l hlf (by omega)
  have hg40 : Gd t 40 := hg.weak hl40
  rw [ht, Option.bind_some]
  by_cases he : ¬ (e = 0)
  · rw [ifs_pos (by simpa using he), awake7_ok, Option.bind_some]
  replace he := Decidable.not_not.1 he
  rw [ifs_neg (by simp [he])]
  have hpa := pall_ok t s hg40 (by omega) hmd
  refine (congrArg (fun o => Option.bind o _) hpa).trans ?_
  rw [Option.bind_some]
  refine (congrArg (fun o => Option.bind o _) (all_ok t hg40.tk)).trans ?_
  rw [Option.bind_some]
  generalize hu : appsP t s = uf
  obtain ⟨u, f⟩ := uf
  refine cutG_step ((q4_10 ..).trans ?_)
  cases s with
  | nil =>
    have : (t, (0 : Int)) = (u, f) := hu
    rw [ifs_neg (by simp), List.take_length]
    exact primAll_end [] t u t f 0 hg40 hd (by simp) hmd hu (Prod.mk.inj this).2.symm (fun _ => (Prod.mk.inj this).1)
  | cons p r =>
    have hi : 0 < (p :: r).length := by simp
    have e3 : IntKind.i64.wrap ((0 : Int) + 1) = ((0 + 1 : Nat) : Int) := by rw [wr _ (by omega)]; omega
    have e4 : ((p :: r) : List Prm)[Int.toNat 0]? = some p := rfl
    obtain ⟨Y, h1, h2⟩ := apply7_ok t hg40.tk hd p (hmd _ (by simp))
    rw [ifs_pos (by simp), ifs_pos (by simp), ifs_pos (by omega), e4, Option.bind_some, List.take_length]
    refine (congrArg (fun o => Option.bind o _) h1).trans ?_
    rw [Option.bind_some, e3]
    refine primAll_loop (p :: r) t u f hg40 hd hs40 hmd hu 1 (by simp) _ _ ?_
    rw [apps_step] at hu
    by_cases h0 : (applyP t p).2 = 0
    · rw [if_neg (by simpa using h0)] at hu
      obtain ⟨hc, hst, hg2⟩ := of_apply hg40 (by omega) (p := p) (l' := (applyP t p).1) (by rw [← h0])
      have hd2 : Dirs (applyP t p).1 := dirs_ofM hg2.tk.s (stp_dirs hc hst (dirsM_of hg40.tk.s hd))
      refine .inl ⟨h0, ?_, ?_, ?_⟩
      · rw [h2 h0]; exact hg2
      · rw [h2 h0]; exact hd2
      · rw [h2 h0]; exact hu
    · rw [if_pos h0] at hu
      exact .inr ⟨h0, (Prod.mk.inj hu).2⟩

end Go.Proofs.YtabhngbpkfdeiaaGreatDoor.Sp
end
