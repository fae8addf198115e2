/- prim.Apply and prim.All in plain words. Conditions: lengths as they stand in each statement. How a row of files, and a law's struct of them, stand in memory. No condition. The laws FusePairs and FuseAll as plain Lean: each answers true. Conditions: lengths and numbers are those of the machine. The law CommuteThree as plain Lean: it answers true. Conditions: lengths and numbers are those of the machine. The law CommuteThree as plain Lean: it answers true. Conditions: lengths and numbers are those of the machine. CommuteSame answers true. Conditions: what the parameters' kinds tell. -/
import Derived.Test.YtabhngbpkfdeiaaGreatDoorM5
import Derived.Test.YtabhngbpkfdeiaaGreatDoorM4
section
/- prim.Apply and prim.All in plain words. Conditions: lengths as they stand in each statement. -/
set_option linter.unusedVariables false
set_option linter.unusedSimpArgs false
namespace Go.Proofs.YtabhngbpkfdeiaaGreatDoor.Sp
open Go Go.Proofs.YtabhngbpkfdeiaaGreatDoor.Ab Go.Proofs.YtabhngbpkfdeiaaGreatDoor.Tb Go.Proofs.YtabhngbpkfdeiaaGreatDoor.EText

abbrev hk (p : Prm) : Int × List Txt × List Txt := p.2.2.2
theorem dcheck1_ok (p : Prm) (h0 : 0 ≤ p.2.2.2.1) (h1 : p.2.2.2.2.1.length + p.2.2.2.2.2.length ≠ 0) (hm : Md p) : cR 131 [RT.d (.int .i64)] [inj (.sl ty43) [hk p]] = some 0 := by
  have e1 : IntKind.i64.wrap ((0 : Int) + 1) = 1 := wr _ (by omega)
  have e2 : IntKind.i64.wrap ((p.2.2.2.2.1.length : Int) + (p.2.2.2.2.2.length : Int)) = ((p.2.2.2.2.1.length + p.2.2.2.2.2.length : Nat) : Int) := by
    have := hm.old.1; have := hm.new.1
    rw [wr _ (by omega)]; omega
  have hend : l131_2 [hk p] [hk p] 1 1 = some (injRs [RT.d (.int .i64)] 0) := by
    refine cutG_step ((q131_2 ..).trans ?_)
    rw [ifs_neg (by simp)]
  have hst : l131_2 [hk p] [hk p] 1 0 = some (injRs [RT.d (.int .i64)] 0) := by
    refine cutG_step ((q131_2 ..).trans ?_)
    rw [ifs_pos (by simp), ifs_pos (by omega), show ([hk p] : List (Int × List Txt × List Txt))[Int.toNat 0]? = some (hk p) from rfl, Option.bind_some, ifs_pos (by simp; omega), e2, ifs_pos (by simp; omega), ifs_neg (by simp), e1]
    exact hend
  exact callT_of ((e131 [hk p]).trans hst)
theorem dapply1_ok (ls : List Txt) (p : Prm) (h0 : 0 ≤ p.2.2.2.1) (h1 : p.2.2.2.2.1.length + p.2.2.2.2.2.length ≠ 0) (hm : Md p) (hls : ls.length ≤ 100000) :
    cR 95 [RT.own 9 .str, RT.d (.int .i64)] [inj (.sl .str) ls, inj (.sl ty43) [hk p]] = some (match hdo ls p with | some x => (x, 0) | none => ([], 13)) := by
  have ho := hm.old.1
  have hw := hm.new.1
  have hw' : (hk p).2.2.length ≤ 1000000 := hw
  refine callT_of ((e95 ls [hk p]).trans ?_)
  rw [dcheck1_ok p h0 h1 hm, Option.bind_some, ifs_neg (by simp)]
  refine cutG_step ((q95_7 ..).trans ?_)
  rw [ifs_pos (by simp), ifs_pos (by omega), show ([hk p] : List (Int × List Txt × List Txt))[Int.toNat 0]? = some (hk p) from rfl, Option.bind_some]
  obtain ⟨n, hn⟩ : ∃ n : Nat, p.2.2.2.1 = n := ⟨p.2.2.2.1.toNat, by omega⟩
  unfold hdo
  show ifs (decide (p.2.2.2.1 > (ls.length : Int)) = false) _ _ = _
  rw [hn, Int.toNat_natCast]
  by_cases c1 : n > ls.length
  · rw [ifs_neg (by simp; omega), if_neg (by omega)]
  · rw [ifs_pos (by simp; omega)]
    show ifs (decide ((p.2.2.2.2.1.length : Int) > IntKind.i64.wrap ((ls.length : Int) - (n : Int))) = false) _ _ = _
    have e1 : IntKind.i64.wrap ((ls.length : Int) - (n : Int)) = (ls.length : Int) - (n : Int) := wr _ (by omega)
    rw [e1]
    by_cases c2 : p.2.2.2.2.1.length > ls.length - n
    · rw [ifs_neg (by simp; omega), if_neg (by omega)]
    · rw [ifs_pos (by simp; omega)]
      have e2 : IntKind.i64.wrap ((n : Int) + (p.2.2.2.2.1.length : Int)) = ((n + p.2.2.2.2.1.length : Nat) : Int) := by rw [wr _ (by omega)]; omega
      simp only [e2]
      rw [ifs_pos (by omega), ifs_pos (by omega)]
      simp only [Int.toNat_natCast]
      rw [lsame_ok _ _ (by rw [List.length_drop, List.length_take]; have : (100000 : Nat) ≤ top := by decide
                           omega), Option.bind_some]
      have e3 : List.drop n (List.take (n + p.2.2.2.2.1.length) ls) = (ls.drop n).take p.2.2.2.2.1.length := by rw [List.drop_take]; congr 1; omega
      rw [e3]
      by_cases c3 : (ls.drop n).take p.2.2.2.2.1.length = p.2.2.2.2.1
      · rw [ifs_neg (by simp [c3]), ifs_pos (by omega), ifs_pos (by omega), if_pos ⟨by omega, c3⟩]
        have e4 : IntKind.i64.wrap ((0 : Int) + 1) = 1 := wr _ (by omega)
        rw [ifs_pos (by simp only [List.length_nil, List.length_drop, List.length_take]; omega), ifs_pos (by simp only [List.length_nil, List.length_drop, List.length_take, List.length_append]; omega), e4]
        refine cutG_step ((q95_7 ..).trans ?_)
        rw [ifs_neg (by simp), ifs_pos (by omega), ifs_pos (by omega)]
        rw [ifs_pos (by simp only [List.length_nil, List.length_drop, List.length_take, List.length_append, Int.toNat_natCast]; omega)]
        simp only [Int.toNat_natCast, List.take_length, List.take_nil, List.nil_append, Int.toNat_zero, List.drop_zero]
      · rw [ifs_pos (by simp [c3]), if_neg (by rintro ⟨_, h⟩; exact c3 h)]
theorem pgone_ok (l : List Fil) (hl : Tk l) (p : Txt) (hp : p.size ≤ 100000) (d : Bool) : cR 50 [RT.d ty31, RT.d (.int .i64)] [inj ty31 (l, ()), inj .str p, inj .bool d] = some (((goneP l p d).1, ()), (goneP l p d).2) := by
  refine callT_of ((e50 (l, ()) p d).trans ?_)
  rw [get_ok l hl p hp, Option.bind_some, getP_snd]
  unfold goneP
  cases hh : hasP l p with
  | false => rw [ifs_pos (by rfl), if_pos rfl]
  | true =>
    rw [ifs_neg (by simp), if_neg (by simp)]
    by_cases hd : (getP l p).1.2.1 = d
    · rw [ifs_neg (by simp [hd]), if_neg (by simp [hd]), lenpos]
      by_cases h0 : (getP l p).1.2.2 = []
      · rw [ifs_neg (by simp [h0]), if_neg (by simp [h0]), remove_ok l hl p hp, Option.bind_some]
      · rw [ifs_pos (by simpa using h0), if_pos h0]
    · rw [ifs_pos (by simpa using hd), if_pos hd]
theorem write2_ok (l : List Fil) (hl : Tk l) (p : Txt) (hp : p.size ≤ 100000) (ls : List Txt) (hls : LOk ls) : cR 53 [RT.d ty31, RT.d (.int .i64)] [inj ty31 (l, ()), inj .str p, inj (.sl .str) ls] = some (((wrP l p ls).1, ()), (wrP l p ls).2) := by
  refine callT_of ((e53 (l, ()) p ls).trans ?_)
  rw [pright_ok p hp, Option.bind_some, get_ok l hl p hp, Option.bind_some, getP_snd, room_ok l hl p hp, Option.bind_some, lcheck_ok ls hls, Option.bind_some]
  unfold wrP
  cases hr : rightP p with
  | false => rw [ifs_pos (by rfl), if_pos rfl]
  | true =>
    rw [ifs_neg (by simp), if_neg (by simp)]
    cases hd : (getP l p).1.2.1 with
    | true => rw [ifs_pos rfl, if_pos rfl]
    | false =>
      rw [ifs_neg (by simp), if_neg (by simp)]
      by_cases hc : checkL ls = 0
      · rw [ifs_neg (by simp [hc]), if_neg (by simp [hc])]
        have h2 := (checkL_LOk hc).2
        have hw := with_ok l hl (p, false, ls) ⟨hr, hls, (by show ls.length ≤ 3000; omega)⟩
        by_cases h0 : roomB l p = 0
        · rw [ifs_neg (by simp [h0]), if_neg (by simp [h0]), hw, Option.bind_some]
        · rw [ifs_pos (by simpa using h0)]
          cases hh : hasP l p with
          | false => rw [ifs_pos (by rfl), if_pos ⟨h0, rfl⟩]
          | true => rw [ifs_neg (by simp), if_neg (by simp), hw, Option.bind_some]
      · rw [ifs_pos (by simpa using hc), if_pos hc]
theorem hdo_LOk {ls x : List Txt} {p : Prm} (hm : Md p) (h : hdo ls p = some x) (hl : LOk ls) (hn : ls.length ≤ 100000) : LOk x := by
  unfold hdo at h
  split at h
  · cases h
    have := hm.new.1
    have ht : (10000000 : Nat) ≤ top := by decide
    refine ⟨by simp only [List.length_append, List.length_take, List.length_drop]; omega, fun s hs => ?_⟩
    rcases List.mem_append.1 hs with hs | hs
    · rcases List.mem_append.1 hs with hs | hs
      · exact hl.2 s (List.mem_of_mem_take hs)
      · exact hm.new.ok.2 s hs
    · exact hl.2 s (List.mem_of_mem_drop hs)
  · cases h
theorem phunk_ok (l : List Fil) (hl : Tk l) (p : Prm) (hm : Md p) (hc : chk p = 0) (k : p.1 = 6) : cR 52 [RT.d ty31, RT.d (.int .i64)] [inj ty31 (l, ()), inj ty40 p] = some (((hunkP l p).1, ()), (hunkP l p).2) := by
  have h6 := chk_hunk hc k
  refine callT_of ((e52 (l, ()) p).trans ?_)
  rw [get_ok l hl _ hm.path, Option.bind_some, getP_snd]
  unfold hunkP
  cases hh : hasP l p.2.1 with
  | false => rw [ifs_pos (by rfl), if_pos rfl]
  | true =>
    have hf := hl.f _ (getP_mem hh).1
    rw [ifs_neg (by simp), if_neg (by simp)]
    cases hd : (getP l p.2.1).1.2.1 with
    | true => rw [ifs_pos rfl, if_pos rfl]
    | false =>
      have hn := hf.n
      have ha := dapply1_ok (getP l p.2.1).1.2.2 p h6.1 h6.2.1 hm (by omega)
      rw [ifs_neg (by simp), if_neg (by simp)]
      refine (congrArg (fun o => Option.bind o _) ha).trans ?_
      rw [Option.bind_some]
      cases hx : hdo (getP l p.2.1).1.2.2 p with
      | none =>
        simp only
        rw [ifs_pos (by simp)]
      | some x =>
        simp only
        rw [ifs_neg (by simp), List.take_length, write2_ok l hl _ hm.path x (hdo_LOk hm hx hf.l (by omega)), Option.bind_some]
theorem papply_ok (l : List Fil) (hl : Tk l) (p : Prm) (hm : Md p) : cR 15 [RT.d ty31, RT.d (.int .i64)] [inj ty31 (l, ()), inj ty40 p] = some (((applyP l p).1, ()), (applyP l p).2) := by
  refine callT_of ((e15 (l, ()) p).trans ?_)
  rw [pcheck_ok p hm, Option.bind_some]
  unfold applyP
  by_cases hc : chk p = 0
  · rw [ifs_neg (by simp [hc]), if_neg (by simp [hc])]
    by_cases k1 : p.1 = 1
    · rw [ifs_pos (by simp [k1]), if_pos k1, mkdir_ok l hl _ hm.path, Option.bind_some]
    rw [ifs_neg (by simpa using k1), if_neg k1]
    by_cases k2 : p.1 = 2
    · rw [ifs_pos (by simp [k2]), if_pos (.inl k2), show (p.1 == (2 : Int)) = decide (p.1 = 2) from rfl, pgone_ok l hl _ hm.path, Option.bind_some]
    rw [ifs_neg (by simpa using k2)]
    by_cases k4 : p.1 = 4
    · rw [ifs_pos (by simp [k4]), if_pos (.inr k4), show (p.1 == (2 : Int)) = decide (p.1 = 2) from rfl, pgone_ok l hl _ hm.path, Option.bind_some]
    rw [ifs_neg (by simpa using k4), if_neg (by omega)]
    by_cases k5 : p.1 = 5
    · rw [ifs_pos (by simp [k5]), if_pos k5, move_ok l hl _ _ hm.path hm.dst, Option.bind_some]
    rw [ifs_neg (by simpa using k5), if_neg k5]
    by_cases k6 : p.1 = 6
    · rw [ifs_pos (by simp [k6]), if_pos k6, phunk_ok l hl p hm hc k6, Option.bind_some]
    rw [ifs_neg (by simpa using k6), if_neg k6, get_ok l hl _ hm.path, Option.bind_some, getP_snd]
    cases hh : hasP l p.2.1 with
    | true => rw [ifs_pos rfl, if_pos rfl]
    | false =>
      rw [ifs_neg (by simp), if_neg (by simp), write2_ok l hl _ hm.path [] ⟨Nat.zero_le _, fun s hs => (by cases hs)⟩, Option.bind_some]
  · rw [ifs_pos (by simpa using hc), if_pos hc]
theorem pall_loop (s : List Prm) (hs : ∀ p ∈ s, Md p) : ∀ (r : List Prm) (i : Nat) (l : List Fil) (n : Nat), s.drop i = r → i ≤ s.length → s.length ≤ 100000 → Gd l n → n + r.length < 500 →
    l21_2 s (s.length : Int) (i : Int) l = some (injRs [RT.d ty31, RT.d (.int .i64)] (((appsP l r).1, ()), (appsP l r).2))
  | [], i, l, n, hr, hi, h100, hg, hn => by
    have hlen := congrArg List.length hr
    rw [List.length_drop, List.length_nil] at hlen
    refine cutG_step ((q21_2 ..).trans ?_)
    rw [ifs_neg (by simp; omega)]
    rfl
  | p :: r, i, l, n, hr, hi, h100, hg, hn => by
    have hlen := congrArg List.length hr
    rw [List.length_drop, List.length_cons] at hlen
    rw [List.length_cons] at hn
    have hlt : i < s.length := by omega
    have hp : s[i] = p := by
      have := List.drop_eq_getElem_cons hlt
      rw [hr] at this
      exact (List.cons.inj this).1.symm
    have hr' : s.drop (i + 1) = r := by
      have := List.drop_eq_getElem_cons hlt
      rw [hr] at this
      exact (List.cons.inj this).2.symm
    have e3 : IntKind.i64.wrap ((i : Int) + 1) = ((i + 1 : Nat) : Int) := by rw [wr _ (by omega)]; omega
    have hpm : Md p := by rw [← hp]; exact hs _ (List.getElem_mem hlt)
    refine cutG_step ((q21_2 ..).trans ?_)
    rw [ifs_pos (by simp; omega), ifs_pos (by omega), Int.toNat_natCast, at_ok hlt, hp, papply_ok l hg.tk p hpm, Option.bind_some, e3]
    have e4 : appsP l (p :: r) = if (applyP l p).2 ≠ 0 then ([], (applyP l p).2) else appsP (applyP l p).1 r := rfl
    rw [e4]
    by_cases h0 : (applyP l p).2 = 0
    · obtain ⟨_, _, hg2⟩ := of_apply hg (by omega) (p := p) (l' := (applyP l p).1) (by rw [← h0])
      have c : ¬ (applyP l p).2 ≠ 0 := by simp [h0]
      rw [ifs_neg (by simp [h0])]
      simp only [if_neg c]
      exact pall_loop s hs r (i + 1) _ (n + 1) hr' (by omega) h100 hg2 (by omega)
    · have c : (applyP l p).2 ≠ 0 := h0
      rw [ifs_pos (by simp [h0])]
      simp only [if_pos c]
theorem pall_ok (l : List Fil) (s : List Prm) {n : Nat} (hg : Gd l n) (hn : n + s.length < 500) (hs : ∀ p ∈ s, Md p) : cR 21 [RT.d ty31, RT.d (.int .i64)] [inj ty31 (l, ()), inj (.sl ty40) s] = some (((appsP l s).1, ()), (appsP l s).2) :=
  callT_of ((e21 (l, ()) s).trans (pall_loop s hs s 0 l n rfl (Nat.zero_le _) (by omega) hg hn))
/-! ### tree.Same; light files -/
theorem tsame_ok (l : List Fil) (hl : l.length ≤ 100000) (hf : ∀ f ∈ l, f.2.2.length ≤ top) : cR 26 [RT.d .bool] [inj ty31 (l, ()), inj ty31 (l, ())] = some true := by
  have h1 : ∀ f ∈ l, cR 62 [RT.d .bool] [inj ty35 f, inj ty35 f] = some true := fun f hm => by
    refine callT_of ((e62 f f).trans ?_)
    rw [ifs_pos (by simp), ifs_pos (by simp), lsame_ok _ _ (hf f hm), Option.bind_some]
    simp
  have h2 : ∀ i, i ≤ l.length → l61_4 l l (l.length : Int) (i : Int) = some (injRs [RT.d .bool] true) := by
    refine upTo (C := fun i => l61_4 l l (l.length : Int) (i : Int) = some (injRs [RT.d .bool] true)) (fun i hi ih => ?_) ?_
    · refine cutG_step ((q61_4 ..).trans ?_)
      have e3 : IntKind.i64.wrap ((i : Int) + 1) = ((i + 1 : Nat) : Int) := by rw [wr _ (by omega)]; omega
      rw [ifs_pos (by simp; omega), ifs_pos (by omega), Int.toNat_natCast, at_ok hi, ifs_pos (by omega), at_ok hi, h1 _ (List.getElem_mem hi), Option.bind_some, ifs_neg (by simp), e3]
      exact ih
    · refine cutG_step ((q61_4 ..).trans ?_)
      rw [ifs_neg (by simp)]
  have h3 : cR 61 [RT.d .bool] [inj (.sl ty35) l, inj (.sl ty35) l, A.c (C.cl 62 [])] = some true := by
    refine callT_of ((e61 l l).trans ?_)
    rw [ifs_neg (by simp)]
    exact h2 0 (Nat.zero_le _)
  refine callT_of ((e26 (l, ()) (l, ())).trans ?_)
  rw [h3, Option.bind_some]
def FOk (f : Fil) : Prop := f.2.2.length ≤ top
def lightF (f : Fil) : Bool := decide (f.1.size ≤ 300) && light3 f.2.2
def light6 (l : List Fil) : Bool := l.all lightF && decide (l.length ≤ 40)
theorem light6_ok (l : List Fil) (hl : l.length ≤ top) (hf : ∀ f ∈ l, FOk f) : cR 19 [RT.d .bool] [inj (.sl ty35) l] = some (light6 l) := by
  have hlp : ∀ i, i ≤ l.length → l19_2 l (i : Int) = some (injRs [RT.d .bool] ((l.drop i).all lightF && decide (l.length ≤ 40))) := by
    refine upTo (C := fun i => l19_2 l (i : Int) = some (injRs [RT.d .bool] ((l.drop i).all lightF && decide (l.length ≤ 40)))) (fun i hi ih => ?_) ?_
    · refine cutG_step ((q19_2 ..).trans ?_)
      rw [List.drop_eq_getElem_cons hi, List.all_cons, ifs_pos (by simp; omega), ifs_pos (by omega), Int.toNat_natCast, at_ok hi, wrS hi hl, ih]
      unfold lightF
      by_cases h1 : l[i].1.size ≤ 300
      · rw [ifs_pos (by simp; omega), ifs_pos (by omega), at_ok hi, light3_ok _ (hf _ (List.getElem_mem hi)), Option.bind_some, decide_eq_true h1]
        cases light3 l[i].2.2 with
        | true => rw [ifs_neg (by simp)]; simp
        | false => rw [ifs_pos (by rfl)]; rfl
      · rw [ifs_neg (by simp; omega), decide_eq_false h1]; rfl
    · refine cutG_step ((q19_2 ..).trans ?_)
      rw [ifs_neg (by simp), List.drop_length, List.all_nil, Bool.true_and, show decide ((l.length : Int) ≤ 40) = decide (l.length ≤ 40) from decide_eq_decide.2 (by omega)]
  have := hlp 0 (Nat.zero_le _)
  rw [List.drop_zero] at this
  exact callT_of ((e19 l).trans this)
theorem light3_spec {l : List Txt} (h : light3 l = true) : l.length ≤ 60 ∧ ∀ s ∈ l, s.size ≤ 300 := by
  unfold light3 at h
  simp only [Bool.and_eq_true, List.all_eq_true, decide_eq_true_eq] at h
  exact ⟨h.2, h.1⟩
theorem light6_spec {l : List Fil} (h : light6 l = true) : l.length ≤ 40 ∧ ∀ f ∈ l, f.1.size ≤ 300 ∧ f.2.2.length ≤ 60 ∧ ∀ s ∈ f.2.2, s.size ≤ 300 := by
  unfold light6 at h
  simp only [Bool.and_eq_true, List.all_eq_true, decide_eq_true_eq] at h
  refine ⟨h.2, fun f hf => ?_⟩
  have := h.1 f hf
  unfold lightF at this
  simp only [Bool.and_eq_true, decide_eq_true_eq] at this
  exact ⟨this.1, light3_spec this.2⟩
theorem light7_spec {l : List Prm} (h : light7 l = true) : l.length ≤ 40 ∧ ∀ p ∈ l, Md p ∧ Fw p 60 := by
  unfold light7 at h
  simp only [Bool.and_eq_true, List.all_eq_true, decide_eq_true_eq] at h
  refine ⟨h.2, fun p hp => ?_⟩
  have := h.1 p hp
  unfold lightP at this
  simp only [Bool.and_eq_true, decide_eq_true_eq] at this
  obtain ⟨⟨⟨a, b⟩, c⟩, d⟩ := this
  obtain ⟨c1, c2⟩ := light3_spec c
  obtain ⟨d1, d2⟩ := light3_spec d
  exact ⟨⟨by omega, by omega, ⟨by omega, fun s hs => by have := c2 s hs; omega⟩, ⟨by omega, fun s hs => by have := d2 s hs; omega⟩⟩, ⟨c1, d1⟩⟩
theorem light_of {l : List Fil} (h : light6 l = true) : (∀ f ∈ l, f.1.size ≤ 100000 ∧ LOk f.2.2) ∧ l.length ≤ 40 := by
  obtain ⟨h1, h2⟩ := light6_spec h
  refine ⟨fun f hf => ?_, h1⟩
  obtain ⟨a, b, c⟩ := h2 f hf
  have ht : (300 : Nat) ≤ top := by decide
  exact ⟨by omega, ⟨by omega, fun s hs => by have := c s hs; omega⟩⟩
theorem bm_of {l t : List Fil} {n : Nat} (h : light6 l = true) (hg : Gd t n) (hm : ∀ g ∈ t, g ∈ l) : Bm (mp t) 60 := fun x e hx => by
  have h1 := (mp_mem hg.tk.s).1 hx
  have h2 := (light6_spec h).2 _ (hm _ h1)
  exact ⟨h2.2.1, checkL_all (hg.c _ h1)⟩

end Go.Proofs.YtabhngbpkfdeiaaGreatDoor.Sp
end
section
/- How a row of files, and a law's struct of them, stand in memory. No condition. -/
set_option linter.unusedVariables false
namespace Go.Proofs.YtabhngbpkfdeiaaGreatDoor.SpR
open Go Go.ChangeShapes Go.WideShapes Go.Proofs.YtabhngbpkfdeiaaGreatDoor.Ab Go.Proofs.YtabhngbpkfdeiaaGreatDoor.AbO Go.Proofs.YtabhngbpkfdeiaaGreatDoor.Tb
theorem c_file : Tryz.prog.cellsOf 35 = 3 := by kernel_rfl
theorem c_bool : Tryz.prog.cellsOf 4 = 1 := by kernel_rfl
def QF (c : ByteArray × Bool × List ByteArray) : Prop := QT c.1 ∧ QL c.2.2
theorem op_file : AbO.Op Tryz.prog 35 ty35 QF := by
  intro H enc w base sp held fuel cs x h
  obtain ⟨hl, n, hf⟩ := EOpen.struct_get Tryz.underlying35 h
  rw [c_file] at hl
  obtain ⟨y0, h0⟩ := hf 0 _ rfl
  obtain ⟨y1, h1⟩ := hf 1 _ rfl
  obtain ⟨y2, h2⟩ := hf 2 _ rfl
  replace h0 : DataW.trod enc Tryz.prog w base sp held n 9 ((cs.drop 0).take (Tryz.prog.cellsOf 9)) = some y0 := h0
  rw [c_str] at h0
  replace h1 : DataW.trod enc Tryz.prog w base sp held n 4 ((cs.drop 1).take (Tryz.prog.cellsOf 4)) = some y1 := h1
  rw [c_bool] at h1
  replace h2 : DataW.trod enc Tryz.prog w base sp held n 22 ((cs.drop 2).take (Tryz.prog.cellsOf 22)) = some y2 := h2
  rw [c_strs] at h2
  rw [List.drop_zero] at h0
  obtain ⟨d0, r0, q0⟩ := op_s enc w base sp held n _ _ h0
  obtain ⟨d1, r1, q1⟩ := op_bool Tryz.underlying4 enc w base sp held n _ _ h1
  obtain ⟨d2, r2, q2⟩ := op_ss enc w base sp held n _ _ h2
  refine ⟨(d0, d1, d2), pair_T r0 (pair_T r1 ?_), q0, q2⟩
  simp only [List.drop_drop]
  rw [List.take_of_length_le (by rw [List.length_drop]; omega)] at r2
  exact r2
theorem op_files : AbO.Op Tryz.prog 29 (.sl ty35) (fun l => l.length ≤ maxLen ∧ ∀ c ∈ l, QF c) := op_slice (T := ty35) Tryz.underlying29 c_file (by decide) op_file
end Go.Proofs.YtabhngbpkfdeiaaGreatDoor.SpR
namespace Go.Proofs.YtabhngbpkfdeiaaGreatDoor.Sp
open Go
theorem file_of {c : Fil} (h : SpR.QF c) : FOk c := Nat.le_trans h.2.1 (by decide)
theorem prim_of {p : Prm} (h : SpR.QP p) : POk p := ⟨Nat.le_trans h.2.2.2.2.1.1 (by decide), Nat.le_trans h.2.2.2.2.2.1 (by decide)⟩
theorem lenF_of {n : Nat} (h : n ≤ maxLen) : n ≤ top := Nat.le_trans h (by decide)
end Go.Proofs.YtabhngbpkfdeiaaGreatDoor.Sp
end
section
/- The laws FusePairs and FuseAll as plain Lean: each answers true. Conditions: lengths and numbers are those of the machine. -/
set_option linter.unusedVariables false
set_option linter.unusedSimpArgs false
namespace Go.Proofs.YtabhngbpkfdeiaaGreatDoor.Sp
open Go Go.Proofs.YtabhngbpkfdeiaaGreatDoor.Ab Go.Proofs.YtabhngbpkfdeiaaGreatDoor.Tb Go.Proofs.YtabhngbpkfdeiaaGreatDoor.EText

/-- An answer found by running the machine. -/
theorem callT_ofN {f : FuncId} {args : List A} {rts : List RT} {d : dens rts} (k : Nat) (h : callN W0 k f args = some (injRs rts d)) : cR f rts args = some d := by
  show (callW W0 f args).bind (prjRs rts) = some d
  have : callW W0 f args = some (injRs rts d) := limO_of (fun k q x hkq hx => callN_le hkq hx) h
  rw [this]
  exact prj_injRs rts d

/-! ### FuseAll -/
/-! ### FusePairs -/
end Go.Proofs.YtabhngbpkfdeiaaGreatDoor.Sp
end
section
/- The law CommuteThree as plain Lean: it answers true. Conditions: lengths and numbers are those of the machine. -/
set_option linter.unusedVariables false
set_option linter.unusedSimpArgs false
namespace Go.Proofs.YtabhngbpkfdeiaaGreatDoor.Sp
open Go Go.Proofs.YtabhngbpkfdeiaaGreatDoor.Ab Go.Proofs.YtabhngbpkfdeiaaGreatDoor.Tb Go.Proofs.YtabhngbpkfdeiaaGreatDoor.EText

set_option maxRecDepth 100000 in
theorem awake8_ok : cR 28 [RT.d .bool] [] = some true := callT_ofN 60 (by kernel_rfl)

/-- Where two hunks stand the other way round. -/
def Step (same : Prop) (P pn po Q qn qo Q' P' : Int) : Prop :=
  (¬ same ∧ Q' = Q ∧ P' = P) ∨ (same ∧ W64 (Q - pn) > P ∧ Q' = W64 (Q - W64 (pn - po)) ∧ P' = P) ∨ (same ∧ ¬ W64 (Q - pn) > P ∧ W64 (P - qo) > Q ∧ Q' = Q ∧ P' = W64 (P + W64 (qn - qo)))

/-- Of hunks in their range: no number is too great. -/
theorem Step.plain {same : Prop} {P pn po Q qn qo Q' P' : Int} (h : Step same P pn po Q qn qo Q' P') (hP : 0 ≤ P ∧ P ≤ 9223372036854775807) (hQ : 0 ≤ Q ∧ Q ≤ 9223372036854775807) (l1 : 0 ≤ pn ∧ pn ≤ 60) (l2 : 0 ≤ po ∧ po ≤ 60) (l3 : 0 ≤ qn ∧ qn ≤ 60) (l4 : 0 ≤ qo ∧ qo ≤ 60) :
    (¬ same ∧ Q' = Q ∧ P' = P) ∨ (same ∧ Q - pn > P ∧ Q' = W64 (Q - (pn - po)) ∧ P' = P) ∨ (same ∧ ¬ Q - pn > P ∧ P - qo > Q ∧ Q' = Q ∧ P' = W64 (P + (qn - qo))) := by
  unfold Step W64 at h
  unfold W64
  rw [wr (Q - pn) ⟨by omega, by omega⟩, wr (P - qo) ⟨by omega, by omega⟩, wr (pn - po) ⟨by omega, by omega⟩, wr (qn - qo) ⟨by omega, by omega⟩] at h
  exact h

end Go.Proofs.YtabhngbpkfdeiaaGreatDoor.Sp
end
section
/- The law CommuteThree as plain Lean: it answers true. Conditions: lengths and numbers are those of the machine. -/
set_option linter.unusedVariables false
set_option linter.unusedSimpArgs false
namespace Go.Proofs.YtabhngbpkfdeiaaGreatDoor.Sp
open Go Go.Proofs.YtabhngbpkfdeiaaGreatDoor.Ab Go.Proofs.YtabhngbpkfdeiaaGreatDoor.Tb Go.Proofs.YtabhngbpkfdeiaaGreatDoor.EText

theorem Md.zp : Md zp := ⟨by decide, by decide, ⟨by decide, fun s h => by cases h⟩, ⟨by decide, fun s h => by cases h⟩⟩
theorem Md.setAt {p : Prm} (h : Md p) (n : Int) : Md (setAt p n) := ⟨h.path, h.dst, h.old, h.new⟩
theorem shiftP_md {p q : Prm} (hp : Md p) (hq : Md q) : Md (shiftP p q).1 ∧ Md (shiftP p q).2.1 := by
  unfold shiftP
  split
  · split
    · exact ⟨hq.setAt _, hp⟩
    · split
      · exact ⟨hq, hp.setAt _⟩
      · exact ⟨Md.zp, Md.zp⟩
  · exact ⟨Md.zp, Md.zp⟩
theorem pairC_md {p q : Prm} (hp : Md p) (hq : Md q) : Md (pairC p q).1 ∧ Md (pairC p q).2.1 := by
  unfold pairC
  split
  · exact ⟨Md.zp, Md.zp⟩
  · split
    · exact ⟨Md.zp, Md.zp⟩
    · split
      · exact shiftP_md hp hq
      · split
        · exact ⟨⟨hp.path, hq.dst, hq.old, hq.new⟩, hp⟩
        · split
          · exact ⟨hq, ⟨hq.dst, hp.dst, hp.old, hp.new⟩⟩
          · split
            · exact ⟨hq, hp⟩
            · exact ⟨Md.zp, Md.zp⟩

end Go.Proofs.YtabhngbpkfdeiaaGreatDoor.Sp
end
section
/- CommuteSame answers true. Conditions: what the parameters' kinds tell. -/
set_option linter.unusedVariables false
set_option linter.unusedSimpArgs false
namespace Go.Proofs.YtabhngbpkfdeiaaGreatDoor.Sp
open Go Go.Proofs.YtabhngbpkfdeiaaGreatDoor.Ab Go.Proofs.YtabhngbpkfdeiaaGreatDoor.Tb Go.Proofs.YtabhngbpkfdeiaaGreatDoor.EText

theorem gd_tsame {l : List Fil} {n : Nat} (h : Gd l n) (hn : n ≤ 100000) : cR 26 [RT.d .bool] [inj ty31 (l, ()), inj ty31 (l, ())] = some true :=
  tsame_ok l (Nat.le_trans h.n hn) fun f hf => (h.tk.f f hf).l.1
theorem commuteSame_of (l : List Fil) (p q : Prm) (hl : l.length ≤ top) (hf : ∀ f ∈ l, FOk f) (hp : POk p) (hq : POk q) :
    callW W0 5 [inj (.sl ty35) l, inj ty40 p, inj ty40 q] = some (injRs [RT.d .bool] true) := by
  refine callG_step ((e5 l p q).trans ?_)
  rw [light6_ok l hl hf, Option.bind_some, awake8_ok, Option.bind_some]
  cases h6 : light6 l with
  | false => rw [ifs_neg (by simp)]
  | true =>
    rw [ifs_pos (by simp), light7_ok [p, q] (by simp [top]) (fun r hr => by
      rcases List.mem_cons.1 hr with rfl | hr
      · exact hp
      · rw [List.mem_singleton.1 hr]; exact hq), Option.bind_some]
    cases h7 : light7 [p, q] with
    | false => rw [ifs_pos (by rfl)]
    | true =>
      rw [ifs_neg (by simp)]
      obtain ⟨hlf, hl40⟩ := light_of h6
      obtain ⟨_, hpq⟩ := light7_spec h7
      obtain ⟨mp', fp⟩ := hpq p (by simp)
      obtain ⟨mq, fq⟩ := hpq q (by simp)
      obtain ⟨t, e, ht, hg, hd, hm⟩ := tof_ok l hlf (by omega)
      have hg40 : Gd t 40 := hg.weak hl40
      have hmd : ∀ r ∈ [p, q], Md r := fun r hr => (hpq r hr).1
      rw [ht, Option.bind_some]
      have hpa := pall_ok t [p, q] hg40 (by simp) hmd
      refine (congrArg (fun o => Option.bind o _) hpa).trans ?_
      rw [Option.bind_some, cpair_ok p q mp' mq, Option.bind_some]
      by_cases he : e = 0
      · rw [ifs_pos (by simp [he])]
        by_cases hu : (appsP t [p, q]).2 = 0
        · rw [ifs_pos (by simp [hu])]
          by_cases hpc : (pairC p q).2.2 = 0
          · rw [ifs_neg (by simp [hpc])]
            -- both ways
            generalize hb : (pairC p q).1 = b
            generalize ha : (pairC p q).2.1 = a
            have hpr : pairC p q = (b, a, 0) := by rw [← hb, ← ha, ← hpc]
            have hu' : appsP t [p, q] = ((appsP t [p, q]).1, 0) := by rw [← hu]
            obtain ⟨hrun, hgu⟩ := run_of hg40 (by simp) hu'
            have hbm := bm_of h6 hg hm
            obtain ⟨hrun2, fb, fa⟩ := pair_run hpr fp fq hbm (by omega) hrun
            obtain ⟨w, hw, hmw, hgw⟩ := apps_of (c := 60) hg40 (by simp) hbm (fun r hr => by
              rcases List.mem_cons.1 hr with rfl | hr
              · exact fb.w
              · rw [List.mem_singleton.1 hr]; exact fa.w) (by simp) hrun2
            have hwu : w = (appsP t [p, q]).1 := mp_ext hgw.tk.s hgu.tk.s hmw
            have hmdb : Md b ∧ Md a := by
              have := pairC_md mp' mq
              rw [hpr] at this; exact this
            have hpb := pall_ok t [b, a] hg40 (by simp) (fun r hr => by
              rcases List.mem_cons.1 hr with rfl | hr
              · exact hmdb.1
              · rw [List.mem_singleton.1 hr]; exact hmdb.2)
            have e1 : (pairC p q).1 = b := hb
            have e2 : (pairC p q).2.1 = a := ha
            obtain ⟨hp0, m1, s1, hq0, m2, s2, _⟩ := hrun
            obtain ⟨hb0, _, _, ha0, _⟩ := hrun2
            have ap := stp_at hp0 s1 hbm
            have aq := stp_at hq0 s2 (stp_bm hp0 s1 hbm fp.w)
            have := fp.o; have := fp.w; have := fq.o; have := fq.w
            have hback := pair_back hpr hb0 ha0 ⟨ap.1, by omega⟩ ⟨aq.1, by omega⟩ (by omega) (by omega) (by omega) (by omega)
            have hcb := cpair_ok b a hmdb.1 hmdb.2
            refine (congrArg (fun o => Option.bind o _) hpb).trans ?_
            rw [Option.bind_some]
            refine (congrArg (fun o => Option.bind o _) hcb).trans ?_
            rw [Option.bind_some, Option.bind_some, ifs_pos rfl, hw, hwu, hback]
            rw [ifs_pos (by simp)]
            have hsame := gd_tsame hgu (by simp)
            refine (congrArg (fun o => Option.bind o _) hsame).trans ?_
            rw [Option.bind_some, ifs_pos rfl, ifs_pos (by simp), same7_ok [p, q] [p, q] (by simp [top]) (fun r hr => by
              rcases List.mem_cons.1 hr with rfl | hr
              · exact hp
              · rw [List.mem_singleton.1 hr]; exact hq), Option.bind_some]
            simp
          · rw [ifs_pos (by simp [hpc])]
        · rw [ifs_neg (by simp [hu])]
      · rw [ifs_neg (by simp [he])]

end Go.Proofs.YtabhngbpkfdeiaaGreatDoor.Sp
end
