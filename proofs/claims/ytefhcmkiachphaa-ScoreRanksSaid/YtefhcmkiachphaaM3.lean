/- The machine's limit over all bounds on the rounds answers as one round more does. The machine with the tests remembered: a slot that was tested is not tested again. No condition. The program's calls need nothing of any package variable. No condition. -/
import Derived.Test.YtefhcmkiachphaaM2
import Derived.Test.YtefhcmkiachphaaProg
import Derived.Below
section
/- The machine's limit over all bounds on the rounds answers as_ one round more does. -/
set_option linter.unusedVariables false
set_option linter.unusedSimpArgs false
namespace Go.Proofs.Ytefhcmkiachphaa.Ab
open Go Go.RowKit

section
variable {R : Type} {E : Env}

theorem ob {α β : Type} (o : Option α) (f : α → Option R) (g : α → Option β) (K : β → Option R) (h : ∀ d, f d = (g d).bind K) : o.bind f = (o.bind g).bind K := by
  cases o with
  | none => rfl
  | some d => exact h d

theorem binK_bind (op : BinOp) (t : TypeId) (x y : F) (K : Out → Option R) : binK E op t x y K = (binK E op t x y some).bind K := by
  unfold binK
  simp only [ifs]
  split
  · split
    · split
      · split <;> rfl
      · rfl
    · split
      · split <;> rfl
      · rfl
    · split
      · exact ob _ _ _ _ fun _ => rfl
      · rfl
    · split
      · exact ob _ _ _ _ fun _ => rfl
      · rfl
    · split
      · exact ob _ _ _ _ fun _ => rfl
      · rfl
    · split
      · exact ob _ _ _ _ fun _ => rfl
      · rfl
    · split <;> rfl
    · split <;> rfl
    · split <;> rfl
    · cases (basic _ && basic _) with
      | false => rfl
      | true =>
        simp only [cond_true]
        split
        · cases plain _ <;> rfl
        · rfl
  · split <;> rfl
  · split <;> rfl
  · split
    · split <;> rfl
    · rfl
  · rfl
theorem eqK_bind (op : BinOp) (t : TypeId) (xs ys : List C) (K : Out → Option R) : eqK E op t xs ys K = (eqK E op t xs ys some).bind K := by
  unfold eqK
  split
  · cases isAggD _ && eqOkP E.P t with
    | false => rfl
    | true =>
      simp only [cond_true]
      split
      · split <;> rfl
      · rfl
  · rfl
theorem fltK_bind (op : BinOp) (x y : FloatKind × Option Nat) (K : Out → Option R) : fltK op x y K = (fltK op x y some).bind K := by
  unfold fltK
  simp only [ifs]
  split
  · split
    · split
      · split
        · split
          · rfl
          · exact ob _ _ _ _ fun _ => rfl
        · rfl
      · split <;> rfl
    · rfl
  · split
    · split <;> rfl
    · rfl
theorem unK_bind (op : UnOp) (x : F) (K : Out → Option R) : unK E op x K = (unK E op x some).bind K := by
  unfold unK
  split
  · split
    · cases plain _ <;> rfl
    · rfl
  · rfl
theorem convK_bind (s d : TypeId) (x : F) (K : Out → Option R) : convK E s d x K = (convK E s d x some).bind K := by
  unfold convK
  split
  · split <;> rfl
  · rfl
theorem partK_bind (cs : List C) (j : Nat) (i : TI) (K : Out → Option R) : partK cs j i K = (partK cs j i some).bind K := by
  unfold partK
  cases Nat.ble _ _ with
  | false => rfl
  | true => simp only [cond_true]; split <;> rfl
theorem loadK_bind (m : Nat → Option Row) (p : Pt) (i : TI) (K : Out → Option R) : loadK m p i K = (loadK m p i some).bind K := by
  unfold loadK
  split
  · split
    · split
      · exact partK_bind ..
      · rfl
    · exact ob _ _ _ _ fun d => partK_bind ..
    · rfl
  · exact partK_bind ..
theorem storeK_bind (m : Nat → Option Row) (p : Pt) (i : TI) (x : A) (K : Out → Option R) : storeK m p i x K = (storeK m p i x some).bind K := by
  unfold storeK
  split
  · split
    · split
      · cases (_ && _ && _ : Bool) <;> rfl
      · rfl
    · split
      · refine ob _ _ _ _ fun d => ?_
        cases (_ && _ && _ && _ : Bool) with
        | false => rfl
        | true => simp only [cond_true]; split <;> rfl
      · rfl
    · rfl
  · rfl
theorem sliceK_bind (m : Nat → Option Row) (t : TypeId) (x : F) (lo hi mx : Option F) (K : Out → Option R) : sliceK E m t x lo hi mx K = (sliceK E m t x lo hi mx some).bind K := by
  unfold sliceK
  simp only [ifs]
  split
  · split
    · cases loF lo with
      | none => rfl
      | some l => simp only [Option.bind_some]; cases hiF _ hi with
        | none => rfl
        | some h => simp only [Option.bind_some]; split
                    · split <;> rfl
                    · rfl
    · split
      · split
        · cases Nat.beq _ _ with
          | false => rfl
          | true => simp only [cond_true]; cases loF lo with
            | none => rfl
            | some l => simp only [Option.bind_some]; cases hiF _ hi with
              | none => rfl
              | some h => simp only [Option.bind_some]; split
                          · split <;> rfl
                          · rfl
        · split
          · cases Nat.beq _ _ with
            | false => rfl
            | true =>
              simp only [cond_true]
              split
              · cases hiF _ hi with
                | none => rfl
                | some h => simp only [Option.bind_some]; split <;> rfl
              · cases intF _ with
                | none => rfl
                | some l => simp only [Option.bind_some]; cases hiF _ hi with
                  | none => rfl
                  | some h => simp only [Option.bind_some]; split
                              · split <;> rfl
                              · rfl
          · rfl
        · rfl
      · rfl
    · rfl
  · rfl
theorem fieldK_bind (t : TypeId) (x : F) (f : Nat) (K : Out → Option R) : fieldK E t x f K = (fieldK E t x f some).bind K := by
  unfold fieldK
  split
  · split
    · split
      · split
        · exact partK_bind ..
        · rfl
      · rfl
    · rfl
  · rfl
theorem fieldAddrK_bind (t : TypeId) (x : F) (f : Nat) (K : Out → Option R) : fieldAddrK E t x f K = (fieldAddrK E t x f some).bind K := by
  unfold fieldAddrK
  split
  · split
    · split
      · split
        · cases Nat.blt _ _ <;> rfl
        · rfl
      · rfl
    · rfl
  · rfl
theorem indexAddrK_bind (m : Nat → Option Row) (t : TypeId) (x ix : F) (K : Out → Option R) : indexAddrK E m t x ix K = (indexAddrK E m t x ix some).bind K := by
  unfold indexAddrK
  simp only [ifs]
  split
  · split
    · split
      · split
        · cases Nat.beq _ _ with
          | false => rfl
          | true =>
            simp only [cond_true]
            split
            · exact ob _ _ _ _ fun d => rfl
            · rfl
        · split
          · cases Nat.beq _ _ with
            | false => rfl
            | true => simp only [cond_true]; split <;> rfl
          · rfl
        · rfl
      · rfl
    · split
      · split <;> rfl
      · rfl
    · rfl
  · rfl
theorem indexK_bind (t : TypeId) (x ix : F) (K : Out → Option R) : indexK E t x ix K = (indexK E t x ix some).bind K := by
  unfold indexK
  simp only [ifs]
  split
  · split
    · split
      · exact ob _ _ _ _ fun d => rfl
      · rfl
    · split
      · split
        · exact partK_bind ..
        · rfl
      · rfl
    · rfl
  · rfl
theorem makeSliceK_bind (new : Nat) (t : TypeId) (l c : F) (K : Out → Option R) : makeSliceK E new t l c K = (makeSliceK E new t l c some).bind K := by
  unfold makeSliceK
  simp only [ifs]
  split
  · split
    · split
      · split
        · split
          · cases (_ && _ && _ && _ : Bool) with
            | false => rfl
            | true => simp only [cond_true]; split <;> rfl
          · rfl
        · rfl
      · rfl
    · rfl
  · rfl
theorem appendK_bind (m : Nat → Option Row) (new : Nat) (t t2 : TypeId) (x y : F) (K : Out → Option R) : appendK E m new t t2 x y K = (appendK E m new t t2 x y some).bind K := by
  unfold appendK
  simp only [ifs]
  split
  · split
    · split
      · split
        · cases (_ && _ && _ && _ && _ : Bool) with
          | false => rfl
          | true =>
            simp only [cond_true]
            split
            · split
              · split <;> rfl
              · split
                · split
                  · cases Nat.beq _ _ with
                    | false => rfl
                    | true =>
                      simp only [cond_true]
                      split
                      · split <;> rfl
                      · rfl
                  · rfl
                · rfl
              · rfl
            · rfl
        · rfl
      · rfl
    · rfl
  · rfl
theorem lenK_bind (t : TypeId) (x : F) (K : Out → Option R) : lenK E t x K = (lenK E t x some).bind K := by
  unfold lenK
  split
  · split <;> rfl
  · rfl
theorem callIO_bind (m : Nat → Option Row) (new : Nat) (f : FuncId) (sg : Sig) (args : List F) (K : OutM → Option R) : callIO E m new f sg args K = (callIO E m new f sg args some).bind K := by
  unfold callIO
  split
  · cases (_ && _ && _ : Bool) with
    | false => rfl
    | true =>
      simp only [cond_true]
      split
      · exact ob _ _ _ _ fun d => rfl
      · rfl
  · rfl
theorem eatK_bind (m : Nat → Option Row) (new : Nat) (f : FuncId) (sg : Sig) (args : List F) (K : OutM → Option R) : eatK E m new f sg args K = (eatK E m new f sg args some).bind K := by
  unfold eatK
  split
  · split
    · split
      · exact ob _ _ _ _ fun d => rfl
      · split
        · rename_i e' T' l hm
          cases (Nat.beq e' _ && !(argIds m _).any (Nat.beq _)) with
          | false => rfl
          | true =>
            simp only [cond_true]
            split
            · exact ob _ _ _ _ fun d => rfl
            · rfl
        · rfl
      · rfl
    · rfl
  · rfl
theorem callK_bind (m : Nat → Option Row) (new : Nat) (f : FuncId) (args : List F) (K : OutM → Option R) : callK E m new f args K = (callK E m new f args some).bind K := by
  unfold callK
  split
  · split
    · exact eatK_bind ..
    · split
      · exact callIO_bind ..
      · cases Nat.ble _ _ with
        | false => rfl
        | true =>
          simp only [cond_true]
          split
          · exact ob _ _ _ _ fun d => rfl
          · rfl
  · rfl

theorem aopK_bind (m : Nat → Option Row) (new : Nat) (ρ : Operand → F) (o : Op) (K : OutM → Option R) : aopK E m new ρ o K = (aopK E m new ρ o some).bind K := by
  cases o with
  | move x => rfl
  | assign x => rfl
  | pick c a b =>
    simp only [aopK, ifs]
    split
    · split <;> rfl
    · rfl
  | alloc t =>
    simp only [aopK]
    split
    · cases cellsOk _ <;> rfl
    · rfl
  | box t x =>
    simp only [aopK]
    split
    · cases (_ && _ : Bool) <;> rfl
    · rfl
  | build t parts =>
    simp only [aopK]
    split
    · split
      · split
        · split <;> rfl
        · rfl
      · rfl
    · rfl
  | buildSlice t len parts =>
    simp only [aopK]
    split
    · split
      · split
        · split
          · cases (_ && _ && _ && _ : Bool) with
            | false => rfl
            | true => simp only [cond_true]; split <;> rfl
          · rfl
        · rfl
      · rfl
    · rfl
  | load t a =>
    simp only [aopK]
    split
    · rw [loadK_bind, loadK_bind (K := fun o => some o.many)]; cases loadK _ _ _ some <;> rfl
    · rfl
  | store t a x =>
    simp only [aopK]
    split
    · rw [storeK_bind, storeK_bind (K := fun o => some o.many)]; cases storeK _ _ _ _ some <;> rfl
    · rfl
  | nilCheck x =>
    simp only [aopK]
    split <;> rfl
  | binOp op t x y yt =>
    simp only [aopK]
    split
    · rw [eqK_bind, eqK_bind (K := fun o => some o.many)]; cases eqK E op t _ _ some <;> rfl
    split
    · rw [fltK_bind, fltK_bind (K := fun o => some o.many)]; cases fltK op _ _ some <;> rfl
    · rw [binK_bind, binK_bind (K := fun o => some o.many)]; cases binK E op t _ _ some <;> rfl
  | unOp op t x => simp only [aopK]; rw [unK_bind, unK_bind (K := fun o => some o.many)]; cases unK E op _ some <;> rfl
  | convert s d x => simp only [aopK]; rw [convK_bind, convK_bind (K := fun o => some o.many)]; cases convK E s d _ some <;> rfl
  | makeFunc fn first caps =>
    cases fn with
    | func f =>
      simp only [aopK]
      cases first.isEmpty with
      | false => rfl
      | true => simp only [cond_true]; split <;> rfl
    | _ => rfl
  | makeSlice t l c => simp only [aopK]; rw [makeSliceK_bind, makeSliceK_bind (K := fun o => some o.many)]; cases makeSliceK E new t _ _ some <;> rfl
  | slice t x lo hi mx => simp only [aopK]; rw [sliceK_bind, sliceK_bind (K := fun o => some o.many)]; cases sliceK E m t _ _ _ _ some <;> rfl
  | fieldAddr s x f => simp only [aopK]; rw [fieldAddrK_bind, fieldAddrK_bind (K := fun o => some o.many)]; cases fieldAddrK E s _ f some <;> rfl
  | field t x f => simp only [aopK]; rw [fieldK_bind, fieldK_bind (K := fun o => some o.many)]; cases fieldK E t _ f some <;> rfl
  | indexAddr t x ix => simp only [aopK]; rw [indexAddrK_bind, indexAddrK_bind (K := fun o => some o.many)]; cases indexAddrK E m t _ _ some <;> rfl
  | index t x ix => simp only [aopK]; rw [indexK_bind, indexK_bind (K := fun o => some o.many)]; cases indexK E t _ _ some <;> rfl
  | extract t ix =>
    simp only [aopK]
    split
    · split <;> rfl
    · rfl
  | call c =>
    simp only [aopK]
    split
    · split
      · rw [lenK_bind, lenK_bind (K := fun o => some o.many)]; cases lenK E _ _ some <;> rfl
      · rw [appendK_bind, appendK_bind (K := fun o => some o.many)]; cases appendK E m new _ _ _ _ some <;> rfl
      · split <;> rfl
      · split <;> rfl
      · rfl
    · split
      · split
        · cases List.isEmpty _ with
          | true => simp only [cond_true]; split <;> rfl
          | false => rfl
        · exact callK_bind ..
      · rfl
    · rfl
  | _ => rfl
end

section
variable {R : Type} {r : R} {W : Wd}

/-- From some number of rounds on. -/
def Evt (p : Nat → Prop) : Prop := ∃ k0, ∀ k, k0 ≤ k → p k

theorem Evt.and {p q : Nat → Prop} (h : Evt p) (h' : Evt q) : Evt fun k => p k ∧ q k :=
  let ⟨a, ha⟩ := h; let ⟨b, hb⟩ := h'; ⟨max a b, fun k hk => ⟨ha k (by omega), hb k (by omega)⟩⟩

theorem placesOf_env (c c' : FuncId → List A → Option (List RV)) : ∀ fs, placesOf (envOf W c) fs = placesOf (envOf W c') fs
  | [] => rfl
  | f :: fs => by simp only [placesOf, placesOf_env c c' fs]; rfl

theorem finR_env (c c' : FuncId → List A → Option (List RV)) (s : S) : ∀ vs rs out seen, finR (envOf W c) s vs rs out seen = finR (envOf W c') s vs rs out seen
  | [], [], _, _ => rfl
  | [], _ :: _, _, _ => rfl
  | _ :: _, [], _, _ => rfl
  | v :: vs, r :: rs, out, seen => by
    have e : resA (envOf W c) s v = resA (envOf W c') s v := by cases v <;> rfl
    simp only [finR, e, finR_env c c' s vs]

theorem finS_env (c c' : FuncId → List A → Option (List RV)) (N : Note) (s : S) : finS (envOf W c) N s = finS (envOf W c') N s := by
  unfold finS
  simp only [finR_env c c' s]

theorem callK_goes {c : FuncId → List A → Option (List RV)} {d : Nat → FuncId → List A → Option (List RV)} (hc : ∀ f as_ rvs, c f as_ = some rvs → Evt fun k => d k f as_ = some rvs) {m : Nat → Option Row} {new : Nat} {f : FuncId} {args : List F} {out : OutM}
    (h : callK (envOf W c) m new f args some = some out) : Evt fun k => callK (envOf W (d k)) m new f args some = some out := by
  unfold callK at h ⊢
  simp only [envOf] at h ⊢
  split at h
  · rename_i sg hsg
    split at h
    · rename_i heat
      unfold eatK at h
      split at h
      · rename_i T0 Ts x xs e T hsa hsr
        split at h
        · rename_i as_ has
          split at h
          · simp only [callT] at h
            cases hcc : c f (inj (.sl T) [] :: as_) with
            | none => rw [hcc] at h; cases h
            | some rvs =>
              rw [hcc] at h
              obtain ⟨k0, hk⟩ := hc f _ rvs hcc
              refine ⟨k0, fun k hk' => ?_⟩
              try simp only [hsg, heat]
              unfold eatK
              simp only [hsa, hsr, has, callT, hk k hk']
              exact h
          · rename_i id len
            split at h
            · rename_i e' T' l hm
              cases hck : (Nat.beq e' e && !(argIds m xs).any (Nat.beq id)) with
              | false => rw [hck] at h; cases h
              | true =>
                rw [hck] at h
                simp only [cond_true] at h
                split at h
                · rename_i hTT
                  subst hTT
                  simp only [callT] at h
                  cases hcc : c f (inj (.sl T') (castL rfl (l.take len)) :: as_) with
                  | none => rw [hcc] at h; cases h
                  | some rvs =>
                    rw [hcc] at h
                    obtain ⟨k0, hk⟩ := hc f _ rvs hcc
                    refine ⟨k0, fun k hk' => ?_⟩
                    try simp only [hsg, heat]
                    unfold eatK
                    simp only [hsa, hsr, has, hm, hck, cond_true, dite_true, callT, hk k hk']
                    exact h
                · cases h
            · cases h
          · cases h
        · cases h
      · cases h
    · rename_i heat
      split at h
      · rename_i x0 xs0 hios
        unfold callIO at h
        split at h
        · rename_i ys hys
          generalize hck : (nodupL (ys.map (·.1)) && Nat.ble sg.rts.length 4 && !((ys.flatMap (fun y => y.2.2) ++ argIdsIO m sg.ios 0 args).any fun i => (ys.map (·.1)).any (Nat.beq i))) = b at h
          cases b with
          | false => cases h
          | true =>
            simp only [cond_true] at h
            split at h
            · rename_i as_ has
              unfold callT2 at h
              simp only at h
              cases hcc : c f (as_ ++ ys.map fun y => y.2.1) with
              | none => rw [hcc] at h; cases h
              | some rvs =>
                rw [hcc] at h
                obtain ⟨k0, hk⟩ := hc f _ rvs hcc
                refine ⟨k0, fun k hk' => ?_⟩
                try simp only [hsg, hios]
                unfold callIO callT2
                simp only [hys, hck, cond_true, has, hk k hk']
                exact h
            · cases h
        · cases h
      · rename_i hios
        cases hb : Nat.ble sg.rts.length 4 with
        | false => rw [hb] at h; cases h
        | true =>
          rw [hb] at h
          simp only [cond_true] at h
          split at h
          · rename_i as_ has
            unfold callT at h
            simp only at h
            cases hcc : c f as_ with
            | none => rw [hcc] at h; cases h
            | some rvs =>
              rw [hcc] at h
              obtain ⟨k0, hk⟩ := hc f as_ rvs hcc
              refine ⟨k0, fun k hk' => ?_⟩
              try simp only [hsg, hios]
              unfold callT
              simp only [hb, cond_true, has, hk k hk']
              exact h
          · cases h
  · cases h

theorem eqFs_env (c d : FuncId → List A → Option (List RV)) (g : TypeId → List C → List C → Option Bool) : ∀ (fs : List (Nat × TypeId)) (xs ys : List C), eqFs (envOf W c) g fs xs ys = eqFs (envOf W d) g fs xs ys
  | [], _, _ => rfl
  | f :: r, xs, ys => by simp only [eqFs]; rw [eqFs_env c d g r xs ys]; rfl
theorem eqT_env (c d : FuncId → List A → Option (List RV)) : ∀ n : Nat, eqT (envOf W c) n = eqT (envOf W d) n
  | 0 => rfl
  | n + 1 => by
    funext t xs ys
    simp only [eqT]
    rw [eqT_env c d n]
    simp only [eqFs_env c d]
    rfl
theorem aop_goes {c : FuncId → List A → Option (List RV)} {d : Nat → FuncId → List A → Option (List RV)} (hc : ∀ f as_ rvs, c f as_ = some rvs → Evt fun k => d k f as_ = some rvs) {m : Nat → Option Row} {new : Nat} {ρ : Operand → F} {o : Op} {out : OutM}
    (h : aopK (envOf W c) m new ρ o some = some out) : Evt fun k => aopK (envOf W (d k)) m new ρ o some = some out := by
  by_cases hcall : ∃ cl g f ps, o = .call cl ∧ cl.callee = .value g ∧ ρ g = .a (.c (.cl f ps))
  · obtain ⟨⟨callee, args, argTypes⟩, g, f, ps, rfl, hcl, hg⟩ := hcall
    simp only at hcl
    subst hcl
    simp only [aopK, hg] at h ⊢
    cases hs : (envOf W c).sg f with
    | none =>
      rw [hs] at h
      refine ⟨0, fun k _ => ?_⟩
      have hs' : (envOf W (d k)).sg f = none := hs
      simp only [hs']
      exact h
    | some s =>
      rw [hs] at h
      obtain ⟨n, hk⟩ := callK_goes hc h
      refine ⟨n, fun k hk' => ?_⟩
      have hs' : (envOf W (d k)).sg f = some s := hs
      simp only [hs']
      exact hk k hk'
  · refine ⟨0, fun k _ => ?_⟩
    rw [← h]
    cases o with
    | call cl =>
      obtain ⟨callee, args, argTypes⟩ := cl
      cases callee with
      | value g =>
        simp only [aopK]
        split
        · rename_i f ps hg
          exact absurd ⟨_, g, f, ps, rfl, rfl, hg⟩ hcall
        · rfl
      | _ => rfl
    | build t parts => simp only [aopK, placesOf_env (d k) c]; rfl
    | binOp op t x y yt => simp only [aopK, eqK, eqT_env (d k) c]; rfl
    | makeFunc fn first caps => cases fn <;> rfl
    | _ => rfl

theorem ops_goes {c : FuncId → List A → Option (List RV)} {d : Nat → FuncId → List A → Option (List RV)} (hc : ∀ f as_ rvs, c f as_ = some rvs → Evt fun k => d k f as_ = some rvs) {ck : Nat → List (Option Row) → OutM → Bool} {nt base : Nat} {ops : Array Oper} {vw : Nat → List (Option Row) → Nat → Option Row} {K : S → Option R} {L : Nat → S → Option R}
    (hK : ∀ s, K s = some r → Evt fun k => L k s = some r) : ∀ (l : List Nat) (s : S), opsK (envOf W c) ck nt base ops vw l s K = some r → Evt fun k => opsK (envOf W (d k)) ck nt base ops vw l s (L k) = some r
  | [], s, h => hK s h
  | i :: l, s, h => by
    simp only [opsK, ifs] at h ⊢
    split at h
    · cases h
    · rename_i o ho
      cases hd : dstOk nt o.dst with
      | false => rw [hd] at h; cases h
      | true =>
        rw [hd] at h
        simp only [cond_true] at h ⊢
        have go : (aopK (envOf W c) (vw i s.mem) (base + 4 * i) (evalF s.fr) o.op fun out => bif ck i s.mem out then none else opsK (envOf W c) ck nt base ops vw l (applyOut s o.dst (base + 4 * i) out) K) = some r →
            Evt fun k => (aopK (envOf W (d k)) (vw i s.mem) (base + 4 * i) (evalF s.fr) o.op fun out => bif ck i s.mem out then none else opsK (envOf W (d k)) ck nt base ops vw l (applyOut s o.dst (base + 4 * i) out) (L k)) = some r := by
          intro h
          rw [aopK_bind] at h
          cases ha : aopK (envOf W c) (vw i s.mem) (base + 4 * i) (evalF s.fr) o.op some with
          | none => rw [ha] at h; cases h
          | some out =>
            rw [ha] at h
            simp only [Option.bind_some] at h
            cases hz : (ck i s.mem out) with
            | true => rw [hz] at h; cases h
            | false =>
              rw [hz] at h
              obtain ⟨k0, hk⟩ := (aop_goes hc ha).and (ops_goes hc hK l _ h)
              refine ⟨k0, fun k hk' => ?_⟩
              obtain ⟨h1, h2⟩ := hk k hk'
              rw [aopK_bind, h1]
              simp only [Option.bind_some, hz, cond_false]
              exact h2
        split at h
        · rename_i hg
          try simp only [hg]
          exact go h
        · rename_i j want hg
          try simp only [hg]
          split at h
          · rename_i oj hoj
            try simp only [hoj]
            split at h
            · rename_i dd hdd
              try simp only [hdd]
              split at h
              · rename_i b hb
                try simp only [hb]
                split at h
                · rename_i hbw
                  try simp only [hbw, if_true]
                  exact go h
                · rename_i hbw
                  try simp only [hbw, if_false]
                  exact ops_goes hc hK l _ h
              · rename_i hb
                try simp only [hb]
                exact ops_goes hc hK l _ h
              · cases h
            · cases h
          · cases h

theorem run_goes {c : FuncId → List A → Option (List RV)} {d : Nat → FuncId → List A → Option (List RV)} (hc : ∀ f as_ rvs, c f as_ = some rvs → Evt fun k => d k f as_ = some rvs) {N : Note} {cut : List Item → S → Option (List RV)} {cuts : Nat → List Item → S → Option (List RV)}
    (hcut : ∀ t s rvs, cut t s = some rvs → Evt fun k => cuts k t s = some rvs) : ∀ (n : Nat) (ex : Bool) (todo : List Item) (s : S) (rvs : List RV), run (envOf W c) N cut n ex todo s = some rvs → Evt fun k => run (envOf W (d k)) N (cuts k) n ex todo s = some rvs
  | 0, _, _, _, _, h => by simp [run] at h
  | n + 1, ex, todo, s, rvs, h => by
    have ih := run_goes (N := N) hc hcut n
    have loop : ∀ (b : Code) (k : List Item), (match firstReg b with | some id => (match lookN N.loops id with | some live => cut (.code b :: .inLoop b :: k) (canonS N.ios.length live s) | none => none) | none => none) = some rvs →
        Evt fun q => (match firstReg b with | some id => (match lookN N.loops id with | some live => cuts q (.code b :: .inLoop b :: k) (canonS N.ios.length live s) | none => none) | none => none) = some rvs := by
      intro b k h
      split at h
      · rename_i id hid
        split at h
        · rename_i live hl
          obtain ⟨k0, hk⟩ := hcut _ _ _ h
          exact ⟨k0, fun q hq => by try simp only [hl]
                                    exact hk q hq⟩
        · cases h
      · cases h
    unfold run at h ⊢
    split at h
    · exact ⟨0, fun k _ => (finS_env (d k) c N s).trans h⟩
    · rename_i c0 k
      split at h
      · exact ih _ _ _ _ h
      · exact ih _ _ _ _ h
      · rename_i id ops draw
        split at h
        · rename_i live hl
          obtain ⟨k0, hk⟩ := hcut _ _ _ h
          exact ⟨k0, fun q hq => by try simp only [hl]
                                    exact hk q hq⟩
        · rename_i hl
          try simp only [hl]
          cases draw with
          | false =>
            simp only [cond_false] at h ⊢
            exact ops_goes hc (fun s' h' => ih _ _ _ _ h') _ _ h
          | true =>
            simp only [cond_true] at h ⊢
            cases hok : drawOk ops (masks ops.toList []) with
            | false => rw [hok] at h; cases h
            | true =>
              rw [hok] at h
              simp only [cond_true] at h ⊢
              exact ops_goes hc (fun s' h' => ih _ _ _ _ h') _ _ h
      · exact ih _ _ _ _ h
      · rename_i cnd x y
        simp only [ifs] at h ⊢
        split at h
        · rename_i t ht
          try simp only [ht]
          split at h
          · rename_i htt
            try simp only [htt, if_true]
            exact ih _ _ _ _ h
          · rename_i htt
            try simp only [htt, if_false]
            exact ih _ _ _ _ h
        · cases h
      · exact ih _ _ _ _ h
      · exact ih _ _ _ _ h
      · rename_i b
        exact loop b k h
      · rename_i id
        split at h
        · rename_i k' hk
          try simp only [hk]
          exact ih _ _ _ _ h
        · cases h
      · exact ⟨0, fun k _ => (finS_env (d k) c N s).trans h⟩
      · cases h
    · exact ih _ _ _ _ h
    · exact ih _ _ _ _ h
    · rename_i b k
      exact loop b k h
    · cases h

theorem callStep_goes {c : FuncId → List A → Option (List RV)} {d : Nat → FuncId → List A → Option (List RV)} (hc : ∀ f as_ rvs, c f as_ = some rvs → Evt fun k => d k f as_ = some rvs) {cut : Note → List Item → S → Option (List RV)} {cuts : Nat → Note → List Item → S → Option (List RV)}
    (hcut : ∀ N t s rvs, cut N t s = some rvs → Evt fun k => cuts k N t s = some rvs) {f : FuncId} {args : List A} {rvs : List RV} (h : callStep W c cut f args = some rvs) : Evt fun k => callStep W (d k) (cuts k) f args = some rvs := by
  unfold callStep at h ⊢
  split at h
  · exact ⟨0, fun k _ => h⟩
  · split at h
    · rename_i c0 N hf
      split at h
      · rename_i hN
        try simp only [hN]
        exact run_goes hc (hcut _) _ _ _ _ _ h
      · rename_i hN
        rw [hN] at h
        try simp only [hN]
        exact run_goes hc (hcut _) _ _ _ _ _ h
    · cases h

theorem cutStep_goes {c : FuncId → List A → Option (List RV)} {d : Nat → FuncId → List A → Option (List RV)} (hc : ∀ f as_ rvs, c f as_ = some rvs → Evt fun k => d k f as_ = some rvs) {cut : Note → List Item → S → Option (List RV)} {cuts : Nat → Note → List Item → S → Option (List RV)}
    (hcut : ∀ N t s rvs, cut N t s = some rvs → Evt fun k => cuts k N t s = some rvs) {N : Note} {t : List Item} {s : S} {rvs : List RV} (h : cutStep W c cut N t s = some rvs) : Evt fun k => cutStep W (d k) (cuts k) N t s = some rvs :=
  run_goes hc (hcut N) _ _ _ _ _ h

theorem rounds_mono : ∀ k, (∀ f args rvs, callN W k f args = some rvs → callN W (k + 1) f args = some rvs) ∧ (∀ N t s rvs, cutN W k N t s = some rvs → cutN W (k + 1) N t s = some rvs)
  | 0 => ⟨fun f args rvs h => by simp [callN] at h, fun N t s rvs h => by simp [cutN] at h⟩
  | k + 1 => by
    obtain ⟨h1, h2⟩ := rounds_mono k
    refine ⟨fun f args rvs h => ?_, fun N t s rvs h => ?_⟩
    · rw [callN] at h ⊢
      obtain ⟨k0, hk⟩ := callStep_goes (d := fun _ => callN W (k + 1)) (cuts := fun _ => cutN W (k + 1)) (fun f as_ rvs h => ⟨0, fun _ _ => h1 f as_ rvs h⟩) (fun N t s rvs h => ⟨0, fun _ _ => h2 N t s rvs h⟩) h
      exact hk k0 (Nat.le_refl _)
    · rw [cutN] at h ⊢
      obtain ⟨k0, hk⟩ := cutStep_goes (d := fun _ => callN W (k + 1)) (cuts := fun _ => cutN W (k + 1)) (fun f as_ rvs h => ⟨0, fun _ _ => h1 f as_ rvs h⟩) (fun N t s rvs h => ⟨0, fun _ _ => h2 N t s rvs h⟩) h
      exact hk k0 (Nat.le_refl _)

theorem callN_le {k k' : Nat} (hk : k ≤ k') {f : FuncId} {args : List A} {rvs : List RV} (h : callN W k f args = some rvs) : callN W k' f args = some rvs := by
  induction hk with
  | refl => exact h
  | step _ ih => exact (rounds_mono _).1 _ _ _ ih
theorem cutN_le {k k' : Nat} (hk : k ≤ k') {N : Note} {t : List Item} {s : S} {rvs : List RV} (h : cutN W k N t s = some rvs) : cutN W k' N t s = some rvs := by
  induction hk with
  | refl => exact h
  | step _ ih => exact (rounds_mono _).2 _ _ _ _ ih

theorem callW_evt {f : FuncId} {args : List A} {rvs : List RV} (h : callW W f args = some rvs) : Evt fun k => callN W k f args = some rvs :=
  let ⟨k, hk⟩ := limO_some h; ⟨k, fun q hq => callN_le hq hk⟩
theorem cutW_evt {N : Note} {t : List Item} {s : S} {rvs : List RV} (h : cutW W N t s = some rvs) : Evt fun k => cutN W k N t s = some rvs :=
  let ⟨k, hk⟩ := limO_some h; ⟨k, fun q hq => cutN_le hq hk⟩

theorem limO_of {α : Type} {g : Nat → Option α} {r : α} (hm : ∀ k q x, k ≤ q → g k = some x → g q = some x) {k : Nat} (h : g k = some r) : limO g = some r := by
  unfold limO
  have hx : ∃ r k, g k = some r := ⟨r, k, h⟩
  rw [dif_pos hx]
  obtain ⟨q, hq⟩ := hx.choose_spec
  have h1 := hm q (max q k) _ (by omega) hq
  have h2 := hm k (max q k) _ (by omega) h
  rw [h1] at h2
  exact h2

/-- ████ One round more is no more: what the body answers over the limit, the limit answers. ████ -/
theorem callW_step {f : FuncId} {args : List A} {rvs : List RV} (h : callStep W (callW W) (cutW W) f args = some rvs) : callW W f args = some rvs := by
  obtain ⟨k, hk⟩ := callStep_goes (d := callN W) (cuts := cutN W) (fun f as_ rvs h => callW_evt h) (fun N t s rvs h => cutW_evt h) h
  refine limO_of (fun k q x hkq hx => callN_le hkq hx) (k := k + 1) ?_
  rw [callN]; exact hk k (Nat.le_refl _)

theorem cutW_step {N : Note} {t : List Item} {s : S} {rvs : List RV} (h : cutStep W (callW W) (cutW W) N t s = some rvs) : cutW W N t s = some rvs := by
  obtain ⟨k, hk⟩ := cutStep_goes (d := callN W) (cuts := cutN W) (fun f as_ rvs h => callW_evt h) (fun N t s rvs h => cutW_evt h) h
  refine limO_of (fun k q x hkq hx => cutN_le hkq hx) (k := k + 1) ?_
  rw [cutN]; exact hk k (Nat.le_refl _)

end
end Go.Proofs.Ytefhcmkiachphaa.Ab
end
section
/- The machine with the tests remembered: a slot that was tested is not tested again. No condition. -/
set_option linter.unusedVariables false
set_option linter.unusedSimpArgs false
namespace Go.Proofs.Ytefhcmkiachphaa.Ab
open Go Go.RowKit

abbrev Gd := List (Nat × Bool)

def dropG : Option Nat → Gd → Gd
  | none, g => g
  | some d, g => g.filter fun x => !Nat.beq x.1 d

def setG (dst : Option Nat) (v : Option Bool) (g : Gd) : Gd :=
  match v with
  | some b => match dst with
    | some d => (d, b) :: dropG (some d) g
    | none => g
  | none => dropG dst g

def beqB : Bool → Bool → Bool
  | true, b => b
  | false, b => !b

def valG (g : Gd) : Operand → Option Bool
  | .tmp t => lookN g t
  | _ => none

def cbool (b : Bool) : F := .a (.c (.sc (.bool b)))

/-! ### States brought to their form at once -/
section
variable {α : Type}

def fcB (b : Bool) (k : Bool → α) : α := match b with
  | true => k true
  | false => k false
def fcV (v : Value) (k : Value → α) : α := match v with
  | .int i n => k (.int i n)
  | .bool b => k (.bool b)
  | .string s => k (.string s)
  | .float i n => k (.float i n)
  | v => k v
def fcP (p : Pt) (k : Pt → α) : α := match p with
  | .own id i j => k (.own id i j)
  | .sh T d j => k (.sh T d j)
def fcL {β : Type} (f : β → (β → α) → α) : List β → (List β → α) → α
  | [], k => k []
  | x :: r, k => f x fun x' => fcL f r fun r' => k (x' :: r')
def fcO {β : Type} (f : β → (β → α) → α) (x : Option β) (k : Option β → α) : α := match x with
  | none => k none
  | some x => f x fun x' => k (some x')
def fcC (c : C) (k : C → α) : α := match c with
  | .sc v => fcV v fun v => k (.sc v)
  | .sl T xs => k (.sl T xs)
  | .nl => k .nl
  | .em => k .em
  | .nan fk => k (.nan fk)
  | .ow id len => k (.ow id len)
  | .pt p => fcP p fun p => k (.pt p)
  | .cl f caps => fcL fcP caps fun caps => k (.cl f caps)
  | .jk => k .jk
def fcA (x : A) (k : A → α) : α := match x with
  | .c x => fcC x fun x => k (.c x)
  | .ag cs => fcL fcC cs fun cs => k (.ag cs)
def fcF (x : F) (k : F → α) : α := match x with
  | .a x => fcA x fun x => k (.a x)
  | .tp xs => fcL fcA xs fun xs => k (.tp xs)
def fcRow (x : Row) (k : Row → α) : α := match x with
  | .box t T cs fz => fcO (fun T k => k T) T fun T => fcL fcC cs fun cs => fcB fz fun fz => k (.box t T cs fz)
  | .arr e T xs fz => fcB fz fun fz => k (.arr e T xs fz)
def fcGe (x : Nat × Bool) (k : Nat × Bool → α) : α := match x with
  | (d, b) => fcB b fun b => k (d, b)

theorem fcB_eq (b : Bool) (k : Bool → α) : fcB b k = k b := by cases b <;> rfl
theorem fcV_eq (v : Value) (k : Value → α) : fcV v k = k v := by cases v <;> rfl
theorem fcP_eq (v : Pt) (k : Pt → α) : fcP v k = k v := by cases v <;> rfl
theorem fcL_eq {β : Type} {f : β → (β → α) → α} (hf : ∀ x k, f x k = k x) : ∀ (l : List β) (k : List β → α), fcL f l k = k l
  | [], k => rfl
  | x :: r, k => by rw [fcL, hf, fcL_eq hf r]
theorem fcO_eq {β : Type} {f : β → (β → α) → α} (hf : ∀ x k, f x k = k x) (l : Option β) (k : Option β → α) : fcO f l k = k l := by
  cases l with
  | none => rfl
  | some x => rw [fcO, hf]
theorem fcC_eq (v : C) (k : C → α) : fcC v k = k v := by
  cases v with
  | sc v => rw [fcC, fcV_eq]
  | pt p => rw [fcC, fcP_eq]
  | cl f caps => rw [fcC, fcL_eq fcP_eq]
  | _ => rfl
theorem fcA_eq (v : A) (k : A → α) : fcA v k = k v := by
  cases v with
  | c x => rw [fcA, fcC_eq]
  | ag cs => rw [fcA, fcL_eq fcC_eq]
theorem fcF_eq (v : F) (k : F → α) : fcF v k = k v := by
  cases v with
  | a x => rw [fcF, fcA_eq]
  | tp xs => rw [fcF, fcL_eq fcA_eq]
theorem fcRow_eq (v : Row) (k : Row → α) : fcRow v k = k v := by
  cases v with
  | box t T cs fz => rw [fcRow, fcO_eq (fun _ _ => rfl), fcL_eq fcC_eq, fcB_eq]
  | arr e T xs fz => rw [fcRow, fcB_eq]
theorem fcGe_eq (v : Nat × Bool) (k : Nat × Bool → α) : fcGe v k = k v := by
  obtain ⟨d, b⟩ := v
  rw [fcGe, fcB_eq]

def fcId {β : Type} (x : β) (k : β → α) : α := k x
def fcFr (x : Nat × F) (k : Nat × F → α) : α := match x with
  | (t, v) => fcF v fun v => k (t, v)
theorem fcFr_eq (v : Nat × F) (k : Nat × F → α) : fcFr v k = k v := by
  obtain ⟨d, b⟩ := v
  rw [fcFr, fcF_eq]

def nilG : List (Nat × LK) → List (Nat × F) → List (Option Row) → (S → α) → α
  | [], fr, mem, k => k { fr := fr, mem := mem, nx := mem.length }
  | _ :: _, [], mem, k => k { fr := [], mem := mem, nx := mem.length }
  | l :: live, p :: fr, mem, k =>
    match nilOne l.2 p.2 mem.length with
    | some (y, r) => fcL (fcO fcRow) (mem ++ [some r]) fun mem => nilG live fr mem fun s => k { fr := (p.1, y) :: s.fr, mem := s.mem, nx := s.nx }
    | none => nilG live fr mem fun s => k { fr := p :: s.fr, mem := s.mem, nx := s.nx }

theorem nilG_eq : ∀ (live : List (Nat × LK)) (fr : List (Nat × F)) (mem : List (Option Row)) (k : S → α), nilG live fr mem k = k (nilFr live fr mem)
  | [], fr, mem, k => rfl
  | _ :: _, [], mem, k => rfl
  | l :: live, p :: fr, mem, k => by
    simp only [nilG, nilFr]
    cases nilOne l.2 p.2 mem.length with
    | none => simp only [nilG_eq live]
    | some x => simp only [fcL_eq (fcO_eq fcRow_eq), nilG_eq live]

def fixG (id : Nat) (x : Nat × TypeId × Ty) (s : S) (k : S → α) : α :=
  match getM s.mem id with
  | some (.box t T0 cells fz) => match cells[x.1]? with
    | some .nl => fcL (fcO fcRow) (fixOne id x s).mem fun mem => match s with | ⟨fr, _, nx⟩ => k ⟨fr, mem, nx + 1⟩
    | _ => k s
  | _ => k s

theorem fixG_eq (id : Nat) (x : Nat × TypeId × Ty) (s : S) (k : S → α) : fixG id x s k = k (fixOne id x s) := by
  obtain ⟨fr, mem, nx⟩ := s
  obtain ⟨i, e, T⟩ := x
  unfold fixG
  cases h : getM mem id with
  | none => simp only [fixOne, h]
  | some r =>
    cases r with
    | arr => simp only [fixOne, h]
    | box t T0 cells fz =>
      simp only [h]
      cases hc : cells[i]? with
      | none => simp only [fixOne, h, hc]
      | some c =>
        cases c with
        | nl => simp only [fcL_eq (fcO_eq fcRow_eq), fixOne, h, hc]
        | _ => simp only [fixOne, h, hc]

def fixGs (id : Nat) : List (Nat × TypeId × Ty) → S → (S → α) → α
  | [], s, k => k s
  | x :: l, s, k => fixG id x s fun s => fixGs id l s k

theorem fixGs_eq (id : Nat) : ∀ (l : List (Nat × TypeId × Ty)) (s : S) (k : S → α), fixGs id l s k = k (fixCs id l s)
  | [], s, k => rfl
  | x :: l, s, k => by simp only [fixGs, fixCs, fixG_eq, fixGs_eq id l]

def fixGF (x : F) (l : List (Nat × TypeId × Ty)) (s : S) (k : S → α) : α :=
  match x with
  | .a (.c (.pt (.own id 0 0))) => fixGs id l s k
  | _ => k s

theorem fixGF_eq (x : F) (l : List (Nat × TypeId × Ty)) (s : S) (k : S → α) : fixGF x l s k = k (fixF x l s) := by
  unfold fixGF fixF
  split
  · exact fixGs_eq _ l s k
  · rename_i h
    split
    · exact absurd rfl (h _)
    · rfl

def fixGAll : List (Nat × LK) → S → (S → α) → α
  | [], s, k => k s
  | (t, .cells l) :: r, s, k => fixGF (getF s.fr t) l s fun s => fixGAll r s k
  | (_, .any) :: r, s, k => fixGAll r s k
  | (_, .own _ _) :: r, s, k => fixGAll r s k
  | (_, .sh) :: r, s, k => fixGAll r s k

theorem fixGAll_eq : ∀ (l : List (Nat × LK)) (s : S) (k : S → α), fixGAll l s k = k (fixAll l s)
  | [], s, k => rfl
  | (t, .cells l) :: r, s, k => by simp only [fixGAll, fixAll, fixGF_eq, fixGAll_eq r]
  | (_, .any) :: r, s, k => fixGAll_eq r s k
  | (_, .own _ _) :: r, s, k => fixGAll_eq r s k
  | (_, .sh) :: r, s, k => fixGAll_eq r s k

def shareG (t : Nat) (s : S) (k : S → α) : α :=
  fcL fcFr (shareS t s).fr fun fr => fcL (fcO fcRow) (shareS t s).mem fun mem => k ⟨fr, mem, (shareS t s).nx⟩

theorem shareG_eq (t : Nat) (s : S) (k : S → α) : shareG t s k = k (shareS t s) := by
  unfold shareG
  rw [fcL_eq fcFr_eq, fcL_eq (fcO_eq fcRow_eq)]

def shareGAll : List (Nat × LK) → S → (S → α) → α
  | [], s, k => k s
  | (t, .sh) :: r, s, k => shareG t s fun s => shareGAll r s k
  | (_, .any) :: r, s, k => shareGAll r s k
  | (_, .own _ _) :: r, s, k => shareGAll r s k
  | (_, .cells _) :: r, s, k => shareGAll r s k

theorem shareGAll_eq : ∀ (l : List (Nat × LK)) (s : S) (k : S → α), shareGAll l s k = k (shareAll l s)
  | [], s, k => rfl
  | (t, .sh) :: r, s, k => by simp only [shareGAll, shareAll, shareG_eq, shareGAll_eq r]
  | (_, .any) :: r, s, k => shareGAll_eq r s k
  | (_, .own _ _) :: r, s, k => shareGAll_eq r s k
  | (_, .cells _) :: r, s, k => shareGAll_eq r s k

def canonG (nio : Nat) (live : List (Nat × LK)) (s : S) (k : S → α) : α :=
  shareGAll live s fun s =>
  fcL fcFr (live.map fun x => (x.1, getF s.fr x.1)) fun fr =>
  fcL fcId (addNew (rangeL 0 nio) (fr.flatMap fun x => fDirIds x.2)) fun ids =>
  fcL fcId (addNew ids (ids.flatMap (rowIds s.mem))) fun ids =>
  fcL fcId (addNew ids (ids.flatMap (rowIds s.mem))) fun ids =>
  fcL fcId (addNew ids (ids.flatMap (rowIds s.mem))) fun ids =>
  fcL fcFr (fr.map fun x => (x.1, renF ids x.2)) fun fr =>
  fcL (fcO fcRow) (ids.map fun id => (getM s.mem id).map (renRow ids)) fun mem =>
  nilG live fr mem fun s => fixGAll live s k

theorem canonG_eq (nio : Nat) (live : List (Nat × LK)) (s : S) (k : S → α) : canonG nio live s k = k (canonS nio live s) := by
  unfold canonG canonS canon0
  have h1 : ∀ (x : Nat) (k : Nat → α), fcId x k = k x := fun _ _ => rfl
  simp only [fcL_eq fcFr_eq, fcL_eq h1, fcL_eq (fcO_eq fcRow_eq), nilG_eq, fixGAll_eq, shareGAll_eq, closeIds, List.map_map, List.flatMap_map]
  rfl

/-- The state behind an operation, in its form. -/
def stepS (s : S) (dst : Option Nat) (new : Nat) (out : OutM) (k : S → α) : α :=
  match s with
  | ⟨fr, mem, nx⟩ => fcF out.v fun v =>
    let kk (mem : List (Option Row)) : α := match dst with
      | none => k ⟨fr, mem, nx⟩
      | some d => k ⟨(d, v) :: fr, mem, nx⟩
    match out.upd, out.ups, out.rows, out.fz with
    | none, [], [], [] => kk mem
    | _, _, _, _ => fcL (fcO fcRow) (applyOut ⟨fr, mem, nx⟩ dst new out).mem kk

theorem stepS_eq (s : S) (dst : Option Nat) (new : Nat) (out : OutM) (k : S → α) : stepS s dst new out k = k (applyOut s dst new out) := by
  obtain ⟨fr, mem, nx⟩ := s
  unfold stepS
  simp only
  rw [fcF_eq]
  obtain ⟨v, rows, upd, ups, fz⟩ := out
  have main : fcL (fcO fcRow) (applyOut ⟨fr, mem, nx⟩ dst new ⟨v, rows, upd, ups, fz⟩).mem (fun mem => match dst with
      | none => k ⟨fr, mem, nx⟩
      | some d => k ⟨(d, v) :: fr, mem, nx⟩) = k (applyOut ⟨fr, mem, nx⟩ dst new ⟨v, rows, upd, ups, fz⟩) := by
    rw [fcL_eq (fcO_eq fcRow_eq)]
    cases dst <;> rfl
  cases upd with
  | some p => exact main
  | none =>
    cases ups with
    | cons a b => exact main
    | nil =>
      cases rows with
      | cons a b => exact main
      | nil =>
        cases fz with
        | cons a b => exact main
        | nil => cases dst <;> rfl
end

section
variable {R : Type} (E : Env)

def opsG (ck : Nat → List (Option Row) → OutM → Bool) (nt base : Nat) (ops : Array Oper) (vw : Nat → List (Option Row) → Nat → Option Row) : List Nat → Gd → S → (Gd → S → Option R) → Option R
  | [], g, s, K => K g s
  | i :: r, g, s, K => match ops[i]? with
    | none => none
    | some o => bif dstOk nt o.dst then
      (let fin (g : Gd) (out : OutM) : Option R := bif ck i s.mem out then none else fcL fcGe g fun g => stepS s o.dst (base + 4 * i) out fun s => opsG ck nt base ops vw r g s K
      let go (g : Gd) : Option R := match o.op with
        | .pick (.tmp c) a b => match lookN g c with
          | some t => bif t then fin (setG o.dst (valG g a) g) { v := evalF s.fr a } else fin (setG o.dst (valG g b) g) { v := evalF s.fr b }
          | none => match getF s.fr c with
            | .a (.c (.sc (.bool t))) => ifs (t = true) (fin (setG o.dst (valG ((c, true) :: g) a) ((c, true) :: g)) { v := evalF s.fr a }) (fin (setG o.dst (valG ((c, false) :: g) b) ((c, false) :: g)) { v := evalF s.fr b })
            | _ => none
        | .move x => fin (setG o.dst (valG g x) g) { v := evalF s.fr x }
        | .assign x => fin (setG o.dst (valG g x) g) { v := evalF s.fr x }
        | .unOp .not t x => aopK E (vw i s.mem) (base + 4 * i) (evalF s.fr) (.unOp .not t x) fun out => fin (setG o.dst ((valG g x).map (!·)) g) out
        | op => aopK E (vw i s.mem) (base + 4 * i) (evalF s.fr) op fun out => fin (dropG o.dst g) out
      let skip (g : Gd) : Option R := fcL fcGe (dropG o.dst g) fun g => stepS s o.dst (base + 4 * i) { v := F.un } fun s => opsG ck nt base ops vw r g s K
      match o.guard with
      | none => go g
      | some (j, want) => match ops[j]? with
        | some oj => match oj.dst with
          | some d => match lookN g d with
            | some b => bif beqB b want then go g else skip g
            | none => match getF s.fr d with
              | .a (.c (.sc (.bool b))) => ifs (b = want) (go ((d, want) :: g)) (skip ((d, !want) :: g))
              | .tp [] => skip g
              | _ => none
          | none => none
        | none => none) else none

/-- What is remembered is so. -/
def ValG (g : Gd) (fr : List (Nat × F)) : Prop := ∀ d v, lookN g d = some v → getF fr d = cbool v

theorem ValG.nil (fr : List (Nat × F)) : ValG [] fr := by intro d v h; cases h

theorem ValG.cons {g : Gd} {fr : List (Nat × F)} {d : Nat} {v : Bool} (h : ValG g fr) (hd : getF fr d = cbool v) : ValG ((d, v) :: g) fr := by
  intro t b hb
  simp only [lookN] at hb
  by_cases e : Nat.beq d t = true
  · rw [e] at hb; simp only [cond_true, Option.some.injEq] at hb
    rw [← Nat.eq_of_beq_eq_true e, ← hb]; exact hd
  · simp only [e, cond_false] at hb; exact h t b hb

theorem lookN_filter : ∀ (g : Gd) (d t : Nat), lookN (g.filter fun x => !Nat.beq x.1 d) t = if d = t then none else lookN g t
  | [], d, t => by simp [lookN]
  | (k, v) :: g, d, t => by
    have ih := lookN_filter g d t
    simp only [List.filter]
    by_cases e : Nat.beq k d = true
    · simp only [e, Bool.not_true, ih, lookN]
      by_cases e2 : d = t
      · simp [e2]
      · have : Nat.beq k t = false := by
          cases hb : Nat.beq k t with
          | false => rfl
          | true => exact absurd ((Nat.eq_of_beq_eq_true e).symm.trans (Nat.eq_of_beq_eq_true hb)) e2
        simp [e2, this]
    · simp only [e, Bool.not_false, lookN, ih]
      by_cases e2 : d = t
      · subst e2; simp [e]
      · simp [e2]

theorem ValG.put {g : Gd} {fr : List (Nat × F)} (h : ValG g fr) (dst : Option Nat) (x : F) : ValG (dropG dst g) (putF dst x fr) := by
  cases dst with
  | none => exact h
  | some d =>
    intro t b hb
    simp only [dropG, lookN_filter] at hb
    by_cases e : d = t
    · simp [e] at hb
    · simp only [e, if_false] at hb
      have : Nat.beq d t = false := by
        cases hb : Nat.beq d t with
        | false => rfl
        | true => exact absurd (Nat.eq_of_beq_eq_true hb) e
      simp only [putF, getF, this, cond_false]; exact h t b hb

theorem ValG.set {g : Gd} {fr : List (Nat × F)} (h : ValG g fr) (dst : Option Nat) (v : Option Bool) (x : F) (hx : ∀ b, v = some b → x = cbool b) : ValG (setG dst v g) (putF dst x fr) := by
  cases v with
  | none => exact h.put _ x
  | some b =>
    cases dst with
    | none => exact h.put none x
    | some d =>
      refine (h.put (some d) x).cons ?_
      simp only [putF, getF]
      have : Nat.beq d d = true := Nat.beq_refl d
      rw [this, cond_true]; exact hx b rfl

theorem ValG.val {g : Gd} {fr : List (Nat × F)} (h : ValG g fr) (x : Operand) {b : Bool} (hb : valG g x = some b) : evalF fr x = cbool b := by
  cases x with
  | tmp t => exact h t b hb
  | _ => cases hb

theorem opsG_eq {ck : Nat → List (Option Row) → OutM → Bool} {nt base : Nat} {ops : Array Oper} {vw : Nat → List (Option Row) → Nat → Option Row} {KG : Gd → S → Option R} {K : S → Option R} (hK : ∀ g s, ValG g s.fr → KG g s = K s) :
    ∀ (l : List Nat) (g : Gd) (s : S), ValG g s.fr → opsG E ck nt base ops vw l g s KG = opsK E ck nt base ops vw l s K
  | [], g, s, hv => hK g s hv
  | i :: r, g, s, hv => by
    have ih := opsG_eq (ck := ck) (nt := nt) (base := base) (ops := ops) (vw := vw) hK r
    simp only [opsG, opsK, fcL_eq fcGe_eq, stepS_eq]
    cases hi : ops[i]? with
    | none => rfl
    | some o =>
      simp only
      cases hd : dstOk nt o.dst with
      | false => rfl
      | true =>
        simp only [cond_true]
        have fin : ∀ (g' : Gd) (out : OutM), ValG g' (putF o.dst out.v s.fr) → (bif ck i s.mem out then none else opsG E ck nt base ops vw r g' (applyOut s o.dst (base + 4 * i) out) KG) = (bif ck i s.mem out then none else opsK E ck nt base ops vw r (applyOut s o.dst (base + 4 * i) out) K) := by
          intro g' out h'
          rw [ih g' _ h']
        have skip : ∀ (g' : Gd), ValG g' s.fr → opsG E ck nt base ops vw r (dropG o.dst g') (applyOut s o.dst (base + 4 * i) { v := F.un }) KG = opsK E ck nt base ops vw r (applyOut s o.dst (base + 4 * i) { v := F.un }) K := by
          intro g' h'
          exact ih _ _ (h'.put _ _)
        have go : ∀ (g' : Gd), ValG g' s.fr → (match o.op with
            | .pick (.tmp c) a b => match lookN g' c with
              | some t => bif t then (bif ck i s.mem { v := evalF s.fr a } then none else opsG E ck nt base ops vw r (setG o.dst (valG g' a) g') (applyOut s o.dst (base + 4 * i) { v := evalF s.fr a }) KG) else (bif ck i s.mem { v := evalF s.fr b } then none else opsG E ck nt base ops vw r (setG o.dst (valG g' b) g') (applyOut s o.dst (base + 4 * i) { v := evalF s.fr b }) KG)
              | none => match getF s.fr c with
                | .a (.c (.sc (.bool t))) => ifs (t = true) (bif ck i s.mem { v := evalF s.fr a } then none else opsG E ck nt base ops vw r (setG o.dst (valG ((c, true) :: g') a) ((c, true) :: g')) (applyOut s o.dst (base + 4 * i) { v := evalF s.fr a }) KG) (bif ck i s.mem { v := evalF s.fr b } then none else opsG E ck nt base ops vw r (setG o.dst (valG ((c, false) :: g') b) ((c, false) :: g')) (applyOut s o.dst (base + 4 * i) { v := evalF s.fr b }) KG)
                | _ => none
            | .move x => bif ck i s.mem { v := evalF s.fr x } then none else opsG E ck nt base ops vw r (setG o.dst (valG g' x) g') (applyOut s o.dst (base + 4 * i) { v := evalF s.fr x }) KG
            | .assign x => bif ck i s.mem { v := evalF s.fr x } then none else opsG E ck nt base ops vw r (setG o.dst (valG g' x) g') (applyOut s o.dst (base + 4 * i) { v := evalF s.fr x }) KG
            | .unOp .not t x => aopK E (vw i s.mem) (base + 4 * i) (evalF s.fr) (.unOp .not t x) fun out => bif ck i s.mem out then none else opsG E ck nt base ops vw r (setG o.dst ((valG g' x).map (!·)) g') (applyOut s o.dst (base + 4 * i) out) KG
            | op => aopK E (vw i s.mem) (base + 4 * i) (evalF s.fr) op fun out => bif ck i s.mem out then none else opsG E ck nt base ops vw r (dropG o.dst g') (applyOut s o.dst (base + 4 * i) out) KG)
            = aopK E (vw i s.mem) (base + 4 * i) (evalF s.fr) o.op fun out => bif ck i s.mem out then none else opsK E ck nt base ops vw r (applyOut s o.dst (base + 4 * i) out) K := by
          intro g' h'
          split
          · rename_i c a b hop
            rw [hop]
            have e1 : evalF s.fr (.tmp c) = getF s.fr c := rfl
            simp only [aopK, e1]
            cases hl : lookN g' c with
            | some t =>
              have hc := h' c t hl
              simp only [hc, cbool]
              cases t with
              | true =>
                simp only [cond_true, ifs, if_true]
                exact fin _ { v := evalF s.fr a } (h'.set _ _ _ fun b hb => h'.val a hb)
              | false =>
                simp only [cond_false, ifs]
                exact fin _ { v := evalF s.fr b } (h'.set _ _ _ fun b' hb => h'.val b hb)
            | none =>
              simp only
              cases hc : getF s.fr c with
              | tp xs => rfl
              | a x =>
                cases x with
                | ag cs => rfl
                | c y =>
                  cases y with
                  | sc v =>
                    cases v with
                    | bool t =>
                      simp only [ifs]
                      cases t with
                      | true =>
                        have h2 : ValG ((c, true) :: g') s.fr := h'.cons hc
                        simp only [if_true]
                        exact fin _ { v := evalF s.fr a } (h2.set _ _ _ fun b hb => h2.val a hb)
                      | false =>
                        have h2 : ValG ((c, false) :: g') s.fr := h'.cons hc
                        exact fin _ { v := evalF s.fr b } (h2.set _ _ _ fun b' hb => h2.val b hb)
                    | _ => rfl
                  | _ => rfl
          · rename_i x hop
            rw [hop]
            exact fin _ { v := evalF s.fr x } (h'.set _ _ _ fun b hb => h'.val x hb)
          · rename_i x hop
            rw [hop]
            exact fin _ { v := evalF s.fr x } (h'.set _ _ _ fun b hb => h'.val x hb)
          · rename_i t x hop
            rw [hop]
            cases hx : valG g' x with
            | none =>
              have : (fun out => bif ck i s.mem out then none else opsG E ck nt base ops vw r (setG o.dst (Option.map (!·) none) g') (applyOut s o.dst (base + 4 * i) out) KG) = fun out => bif ck i s.mem out then none else opsK E ck nt base ops vw r (applyOut s o.dst (base + 4 * i) out) K := by
                funext out
                exact fin _ out (h'.set _ _ _ fun b hb => by cases hb)
              rw [this]
            | some b =>
              have hb := h'.val x hx
              simp only [aopK, unK, hb, cbool]
              have e : free E.P (Op.unary .not (.bool b)) = some (.bool (!b)) := rfl
              rw [e]
              simp only [plain, cond_true]
              exact fin _ (outV (.bool (!b))).many (h'.set _ _ _ fun b' hb' => by simp only [Option.map_some, Option.some.injEq] at hb'; subst hb'; rfl)
          · have : (fun out => bif ck i s.mem out then none else opsG E ck nt base ops vw r (dropG o.dst g') (applyOut s o.dst (base + 4 * i) out) KG) = fun out => bif ck i s.mem out then none else opsK E ck nt base ops vw r (applyOut s o.dst (base + 4 * i) out) K := by
              funext out
              exact fin _ out (h'.put _ _)
            rw [this]
        cases hg : o.guard with
        | none => exact go g hv
        | some p =>
          obtain ⟨j, want⟩ := p
          simp only
          cases hj : ops[j]? with
          | none => rfl
          | some oj =>
            simp only
            cases hdj : oj.dst with
            | none => rfl
            | some d =>
              simp only
              cases hl : lookN g d with
              | some b =>
                have hb := hv d b hl
                simp only [hb, cbool]
                by_cases e : b = want
                · subst e
                  have : beqB b b = true := by cases b <;> rfl
                  simp only [this, cond_true, ifs, if_true]
                  exact go g hv
                · have : beqB b want = false := by cases b <;> cases want <;> first | rfl | exact absurd rfl e
                  simp only [this, cond_false, ifs, e, if_false]
                  exact skip g hv
              | none =>
                simp only
                cases hb : getF s.fr d with
                | tp xs =>
                  cases xs with
                  | nil => exact skip g hv
                  | cons y ys => rfl
                | a x =>
                  cases x with
                  | ag cs => rfl
                  | c y =>
                    cases y with
                    | sc v =>
                      cases v with
                      | bool b =>
                        simp only [ifs]
                        by_cases e : b = want
                        · subst e
                          simp only [if_true]
                          exact go _ (hv.cons hb)
                        · simp only [e, if_false]
                          have : b = !want := by cases b <;> cases want <;> simp_all
                          exact skip _ (hv.cons (by rw [hb, this]; rfl))
                      | _ => rfl
                    | _ => rfl

end

def runG (E : Env) (N : Note) (cutQ : List Item → S → Option (List RV)) : Nat → Bool → List Item → Gd → S → Option (List RV)
  | 0, _, _, _, _ => none
  | n + 1, ex, todo, g, s =>
    match todo with
    | [] => finS E N s
    | .code c :: k =>
      match c with
      | .skip => runG E N cutQ n false k g s
      | .label _ => runG E N cutQ n false k g s
      | .region id ops draw =>
        match (bif ex then none else lookN N.joins id) with
        | some live => canonG N.ios.length live s fun s => cutQ (.code c :: k) s
        | none =>
          match s with
          | ⟨fr, mem, nx⟩ =>
            bif draw then
              (let M := masks ops.toList []
              let wl := wlOf E.sg nx fr ops.toList
              bif drawOk ops M then opsG E (ckD nx ops M wl) N.nt nx ops (vwD nx ops M wl) (rangeL 0 ops.size) g ⟨fr, mem, nx⟩ fun g' s' => match s' with | ⟨fr', mem', _⟩ => runG E N cutQ n false k g' ⟨fr', mem', nx + 4 * ops.size⟩ else none)
            else opsG E (fun _ _ _ => false) N.nt nx ops (fun _ mem => getM mem) (rangeL 0 ops.size) g ⟨fr, mem, nx⟩ fun g' s' => match s' with | ⟨fr', mem', _⟩ => runG E N cutQ n false k g' ⟨fr', mem', nx + 4 * ops.size⟩
      | .seq a b => runG E N cutQ n ex (.code a :: .code b :: k) g s
      | .cond (.tmp t) a b => match lookN g t with
        | some v => bif v then runG E N cutQ n false (.code a :: k) g s else runG E N cutQ n false (.code b :: k) g s
        | none => match getF s.fr t with
          | .a (.c (.sc (.bool v))) => ifs (v = true) (runG E N cutQ n false (.code a :: k) ((t, true) :: g) s) (runG E N cutQ n false (.code b :: k) ((t, false) :: g) s)
          | _ => none
      | .cond c a b => match evalF s.fr c with
        | .a (.c (.sc (.bool v))) => ifs (v = true) (runG E N cutQ n false (.code a :: k) g s) (runG E N cutQ n false (.code b :: k) g s)
        | _ => none
      | .block id b => runG E N cutQ n ex (.code b :: .inBlock id :: k) g s
      | .scope b => runG E N cutQ n ex (.code b :: .inScope b :: k) g s
      | .loop b => match firstReg b with
        | some id => match lookN N.loops id with
          | some live => canonG N.ios.length live s fun s => cutQ (.code b :: .inLoop b :: k) s
          | none => none
        | none => none
      | .exit id => match exitTo id k with
        | some k' => runG E N cutQ n false k' g s
        | none => none
      | .ret => finS E N s
      | _ => none
    | .inBlock _ :: k => runG E N cutQ n false k g s
    | .inScope _ :: k => runG E N cutQ n false k g s
    | .inLoop b :: k => match firstReg b with
      | some id => match lookN N.loops id with
        | some live => canonG N.ios.length live s fun s => cutQ (.code b :: .inLoop b :: k) s
        | none => none
      | none => none
    | _ => none

theorem runG_eq (E : Env) (N : Note) (cutQ : List Item → S → Option (List RV)) : ∀ (n : Nat) (ex : Bool) (todo : List Item) (g : Gd) (s : S), ValG g s.fr → runG E N cutQ n ex todo g s = run E N cutQ n ex todo s
  | 0, _, _, _, _, _ => rfl
  | n + 1, ex, todo, g, s, hv => by
    have ih := runG_eq E N cutQ n
    cases todo with
    | nil => rfl
    | cons x k =>
      cases x with
      | code c =>
        cases c with
        | skip => exact ih _ _ _ _ hv
        | label => exact ih _ _ _ _ hv
        | region id ops draw =>
          simp only [runG, run]
          cases (bif ex then none else lookN N.joins id) with
          | some live => exact canonG_eq _ _ _ _
          | none =>
            obtain ⟨fr, mem, nx⟩ := s
            simp only
            cases draw with
            | true =>
              simp only [cond_true]
              cases drawOk ops (masks ops.toList []) with
              | false => rfl
              | true =>
                simp only [cond_true]
                exact opsG_eq E (fun g' s' h' => ih false k g' { fr := s'.fr, mem := s'.mem, nx := nx + 4 * ops.size } h') _ _ _ hv
            | false =>
              simp only [cond_false]
              exact opsG_eq E (fun g' s' h' => ih false k g' { fr := s'.fr, mem := s'.mem, nx := nx + 4 * ops.size } h') _ _ _ hv
        | seq a b => exact ih _ _ _ _ hv
        | cond c a b =>
          cases c with
          | tmp t =>
            simp only [runG, run, evalF]
            cases hl : lookN g t with
            | some v =>
              simp only [hv t v hl, cbool]
              cases v with
              | true => simp only [cond_true, ifs, if_true]; exact ih _ _ _ _ hv
              | false => simp only [cond_false, ifs]; exact ih _ _ _ _ hv
            | none =>
              simp only
              cases hb : getF s.fr t with
              | tp xs => rfl
              | a x =>
                cases x with
                | ag cs => rfl
                | c y =>
                  cases y with
                  | sc v =>
                    cases v with
                    | bool b =>
                      simp only [ifs]
                      cases b with
                      | true => simp only [if_true]; exact ih _ _ _ _ (hv.cons hb)
                      | false => exact ih _ _ _ _ (hv.cons hb)
                    | _ => rfl
                  | _ => rfl
          | const v => simp only [runG, run, ih _ _ _ _ hv]; rfl
          | global v => rfl
          | func v => rfl
        | block id b => exact ih _ _ _ _ hv
        | scope b => exact ih _ _ _ _ hv
        | loop b => simp only [runG, run, canonG_eq]; rfl
        | exit id =>
          simp only [runG, run]
          cases exitTo id k with
          | some k' => exact ih _ _ _ _ hv
          | none => rfl
        | ret => rfl
        | _ => rfl
      | inBlock id => exact ih _ _ _ _ hv
      | inScope id => exact ih _ _ _ _ hv
      | inLoop b => simp only [runG, run, canonG_eq]; rfl
      | _ => rfl

def callG (W : Wd) (call : FuncId → List A → Option (List RV)) (cut : Note → List Item → S → Option (List RV)) (f : FuncId) (args : List A) : Option (List RV) :=
  match W.ext f with
  | some g => g args
  | none => match W.fns f with
    | some (c, N) => match N.ios with
      | [] => runG (envOf W call) N (cut N) big true [.code c] [] { fr := initS 0 args, mem := [], nx := 0 }
      | _ :: _ => fcL fcFr (initS 0 (args.take N.na)) fun fr => fcL (fcO fcRow) (ioMem N.ios (args.drop N.na)) fun mem => runG (envOf W call) N (cut N) big true [.code c] [] { fr := fr, mem := mem, nx := N.ios.length }
    | none => none

def cutG (W : Wd) (call : FuncId → List A → Option (List RV)) (cut : Note → List Item → S → Option (List RV)) (N : Note) (todo : List Item) (s : S) : Option (List RV) :=
  runG (envOf W call) N (cut N) big true todo [] s

/-- What is to do at a region, or from the head of the loop that begins with it. -/
def findT : Code → List Item → Nat → Option (List Item)
  | .seq a b, k, r => match findT a (.code b :: k) r with
    | some x => some x
    | none => findT b k r
  | .block id b, k, r => findT b (.inBlock id :: k) r
  | .scope b, k, r => findT b (.inScope b :: k) r
  | .cond _ a b, k, r => match findT a k r with
    | some x => some x
    | none => findT b k r
  | .loop b, k, r => bif (match firstReg b with | some i => Nat.beq i r | none => false) then some (.code b :: .inLoop b :: k) else findT b (.inLoop b :: k) r
  | .region id ops draw, k, r => bif Nat.beq id r then some (.code (.region id ops draw) :: k) else none
  | _, _, _ => none

theorem callG_step {W : Wd} {f : FuncId} {args : List A} {rvs : List RV} (h : callG W (callW W) (cutW W) f args = some rvs) : callW W f args = some rvs := by
  apply callW_step
  rw [← h]
  unfold callStep callG
  cases W.ext f with
  | some g => rfl
  | none =>
    cases W.fns f with
    | none => rfl
    | some p =>
      obtain ⟨c, N⟩ := p
      simp only [fcL_eq fcFr_eq, fcL_eq (fcO_eq fcRow_eq)]
      cases N.ios with
      | nil => exact (runG_eq _ _ _ _ _ _ _ _ (ValG.nil _)).symm
      | cons x xs => exact (runG_eq _ _ _ _ _ _ _ _ (ValG.nil _)).symm

theorem cutG_step {W : Wd} {N : Note} {t : List Item} {s : S} {rvs : List RV} (h : cutG W (callW W) (cutW W) N t s = some rvs) : cutW W N t s = some rvs := by
  apply cutW_step
  rw [← h]
  exact (runG_eq _ _ _ _ _ _ _ _ (ValG.nil _)).symm

theorem prjC_injC : ∀ (T : Ty) (x : T.den) (l : List C), prjC T (injC T x ++ l) = some (x, l)
  | .int k, n, l => by simp [injC, prjC]
  | .bool, n, l => by simp [injC, prjC]
  | .str, n, l => by simp [injC, prjC]
  | .flt k, n, l => by simp [injC, prjC]
  | .unit, n, l => by simp [injC, prjC]
  | .sl t, n, l => by simp [injC, prjC, castL]
  | .pair a b, x, l => by
    simp only [injC, prjC, List.append_assoc, prjC_injC a, prjC_injC b]

theorem cells_inj (T : Ty) (x : T.den) : (inj T x).cells = injC T x := by cases T <;> rfl

theorem prj_inj (T : Ty) (x : T.den) : prj T (inj T x).cells = some x := by
  have := prjC_injC T x []
  rw [List.append_nil] at this
  rw [cells_inj, prj, this]

theorem prj_injR (r : RT) (x : r.den) : prjR r (injR r x) = some x := by
  cases r with
  | d T =>
    simp only [prjR, injR]
    have h1 : shapeOk T (inj T x) = true := by cases T <;> rfl
    rw [h1, cond_true]
    exact prj_inj T x
  | own e T => simp [prjR, injR, castL]

theorem prj_injRs : ∀ (rs : List RT) (x : dens rs), prjRs rs (injRs rs x) = some x
  | [], _ => rfl
  | [r], x => prj_injR r x
  | r :: r' :: rs, x => by
    simp only [injRs, prjRs, prj_injR, prj_injRs (r' :: rs) x.2]

/-- A call's answer, from the step's. -/
theorem callT_of {W : Wd} {f : FuncId} {args : List A} {rts : List RT} {d : dens rts} (h : callG W (callW W) (cutW W) f args = some (injRs rts d)) : callT (envOf W (callW W)) rts f args = some d := by
  show (callW W f args).bind (prjRs rts) = some d
  rw [callG_step h]
  exact prj_injRs rts d

theorem injRs_length : ∀ (rs : List RT) (x : dens rs), (injRs rs x).length = rs.length
  | [], _ => rfl
  | [r], _ => rfl
  | r :: r' :: rs, x => by simp only [injRs, List.length_cons, injRs_length (r' :: rs) x.2]

/-- The same for a call that writes variables of the caller's. -/
theorem callT2_of {W : Wd} {f : FuncId} {args : List A} {rts : List RT} {os : List Ty} {d : dens rts} {o : dens (os.map RT.d)} (h : callG W (callW W) (cutW W) f args = some (injRs rts d ++ injRs (os.map RT.d) o)) : callT2 (envOf W (callW W)) rts os f args = some (d, o) := by
  show (callW W f args).bind _ = some (d, o)
  rw [callG_step h]
  have hl := injRs_length rts d
  simp only [Option.bind_some, ← hl, List.take_left, List.drop_left, prj_injRs]

end Go.Proofs.Ytefhcmkiachphaa.Ab
end
section
/- The program's calls need nothing of any package variable. No condition. -/
set_option linter.unusedVariables false
namespace Go.Proofs.Ytefhcmkiachphaa.EGlob
open Go Go.RowKit
def G (_ : World) : Prop := True
theorem G_below {w w' : World} (h : G w) (hb : Below w.heap.size w w') : G w' := trivial
end Go.Proofs.Ytefhcmkiachphaa.EGlob
end
