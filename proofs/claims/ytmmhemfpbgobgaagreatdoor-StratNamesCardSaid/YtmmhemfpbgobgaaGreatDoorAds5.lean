/-
  An interpreter of plain data for code without loose ends (Go.Ads), and that what it computes the program answers. Part 5. It says something of a program whose code compiles to it, no other condition.
-/
import Derived.Test.YtmmhemfpbgobgaaGreatDoorAds4
import Derived.OrdersIn
import Derived.RangeFuncRecord
set_option linter.unusedVariables false
set_option linter.unusedSimpArgs false
set_option linter.unusedSectionVars false
set_option autoImplicit false
set_option linter.unusedSimpArgs false
set_option linter.unusedVariables false
namespace Go.Ads
section
variable {P : Program} {tt : TT} {ρ : Rho} {h h' : H} {w : World} {v : V} {f : FR} {e : V} {inv : Inv} {r : Operand → Option Rf}
theorem Ef.of_pu {s : Sem Next} (g : G P tt ρ h w) (p : PuN P s h.next.toN ρ v h h') : Ef P tt s ρ v h h' w := by
  obtain ⟨rfl, h2, h3⟩ := p; exact ⟨ρ, w, .inl (h3 w), Step.refl g, h2⟩
theorem Ef.of_rd {s : Sem Next} (g : G P tt ρ h w) (p : RdN P s h.next.toN ρ v h h' w) : Ef P tt s ρ v h h' w := by
  obtain ⟨rfl, h2, h3⟩ := p; exact ⟨ρ, w, .inl h3, Step.refl g, h2⟩
/-- **any operation, in the calculus**: its operands are what they are said to be -/
theorem op_wp' (tk : TTok P tt) {F : Fence} (hF : Open F) (hi : InvOk P tt inv) (g : G P tt ρ h w) {o : Oper} {a : Act} {next : Act → World → Prop} {Q : Exit → Act → World → Prop} {io : IOp} {ev : Operand → Value}
    (hev : ∀ x ∈ o.op.operands, a.eval x = ev x) (hr : Ops r ev ρ h.next.toN f e) (hd : ∀ c, o.op ≠ .defer c) (hc : cio tt r o.op = some io) (he : opT inv io f e h = .ok v h')
    (K : ∀ ρ' w', Step P tt ρ h w ρ' h' w' → Bd h'.next.toN v → next (a.put o.dst (conc ρ' v)) w') : o.wpIn F 0 P a w next Q := by
  have hx : execOp a.eval o = execOp ev o := execOp_congr o (fun cs b q => by rw [q] at hc; cases hc; cases he) hev
  by_cases hcall : ∀ c, o.op = .call c → ∃ b, c.callee = .builtin b
  · refine Ef.wp hF hd ?_ K
    rw [hx]
    cases hk : ko tt o with
    | p => exact .of_pu g (pure_ok tk hr hk hc he)
    | r => exact .of_rd g (read_ok tk g hr hk hc he)
    | n => exact effect_ok tk g hr (.inl hk) hcall hc he
    | e => exact effect_ok tk g hr (.inr hk) hcall hc he
  · cases ho : o.op with
    | call c =>
      rw [ho] at hc hev
      have hc : ccall tt r c = some io := hc
      have hargs : ∀ x ∈ c.args, a.eval x = ev x := fun x hx => hev x (by simp [Op.operands, Call.operands, hx])
      cases hcal : c.callee with
      | builtin b => exact absurd (fun c' hc' => by rw [ho] at hc'; cases hc'; exact ⟨b, hcal⟩) hcall
      | invoke x nm => simp only [ccall, hcal] at hc; cases hc; cases he
      | value x =>
        have hxe : a.eval x = ev x := hev x (by simp [Op.operands, Call.operands, hcal])
        have key : ∀ (gv as : V), ev x = conc ρ gv → Bd h.next.toN gv → ∀ q, rfsOf r c.args.toList = some q → inv gv (q.ev f e) h = .ok v h' → o.wpIn F 0 P a w next Q := by
          intro gv as hg bg q hq hinv
          obtain ⟨h1, h2⟩ := rfs_ok hr hq
          refine call_wp hF hi ho hcal (hxe.trans hg) ?_ g bg h2 hinv K
          rw [Array.map_congr_left hargs]
          exact Array.ext' (by simpa using h1)
        have gen : (match r x, rfsOf r c.args.toList with | some a, some as => some (IOp.callv a as) | _, _ => none) = some io → o.wpIn F 0 P a w next Q := by
          intro hc
          split at hc
          · rename_i ra ras hra hras
            cases hc
            obtain ⟨h1, h2⟩ := hr _ _ hra
            exact key _ .nl h1 h2 ras hras he
          · cases hc
        cases x with
        | func fid =>
          simp only [ccall, hcal] at hc
          split at hc
          · rename_i b ras hb hras
            cases hc
            refine key (.x (.fn b) (.cn (.x .un .nl) .nl)) .nl ?_ ⟨trivial, trivial⟩ ras hras he
            rw [← hxe]
            show Value.func (.func fid) #[] #[] = _
            simp only [conc, concL_cn, concL_nl, fnOf, fnB_ok hb]
          · cases hc
        | tmp t => simp only [ccall, hcal] at hc; exact gen hc
        | const cv => simp only [ccall, hcal] at hc; exact gen hc
        | global gl => simp only [ccall, hcal] at hc; exact gen hc
    | _ => exact absurd (fun c' hc' => by rw [ho] at hc'; cases hc') hcall
/-- **any operation, in the calculus** -/
theorem op_wp (tk : TTok P tt) {F : Fence} (hF : Open F) (hi : InvOk P tt inv) (g : G P tt ρ h w) {o : Oper} {a : Act} {next : Act → World → Prop} {Q : Exit → Act → World → Prop} {io : IOp}
    (hr : Ops r a.eval ρ h.next.toN f e) (hd : ∀ c, o.op ≠ .defer c) (hc : cio tt r o.op = some io) (he : opT inv io f e h = .ok v h')
    (K : ∀ ρ' w', Step P tt ρ h w ρ' h' w' → Bd h'.next.toN v → next (a.put o.dst (conc ρ' v)) w') : o.wpIn F 0 P a w next Q :=
  op_wp' tk hF hi g (fun _ _ => rfl) hr hd hc he K
end
end Go.Ads
set_option autoImplicit false
set_option linter.unusedSimpArgs false
set_option linter.unusedVariables false
namespace Go.Ads
section
variable {ρ : Rho} {tn : List Nat} {nt : Nat} {tmps : Array Value} {f : FR} {e : V} {env : Env}
theorem put_same {t : Nat} {x : Value} (h : t < tmps.size) : (tmps.setIfInBounds t x)[t]? = some x := by simp [h]
theorem put_ne {t u : Nat} {x : Value} (h : u ≠ t) : (tmps.setIfInBounds t x)[u]? = tmps[u]? := by rw [Array.getElem?_setIfInBounds_ne (Ne.symm h)]
theorem FrRel.put {v : V} {t : Nat} {s : Sl} (hf : FrRel ρ tn nt tmps f) (hs : slot tn t = some s) : FrRel ρ tn nt (tmps.setIfInBounds t (conc ρ v)) (s.set v f) := by
  refine ⟨by simpa using hf.1, fun u s' hu => ?_⟩
  by_cases q : u = t
  · subst q
    rw [hs] at hu; cases hu
    rw [Sl.get_set_same]
    exact put_same (Array.getElem?_eq_some_iff.1 (hf.2 _ _ hs)).1
  · have : s' ≠ s := fun z => q (slot_inj hu (z ▸ hs))
    rw [put_ne q, Sl.get_set_ne _ _ _ _ this]
    exact hf.2 u s' hu
theorem FrRel.put_local {x : Value} {t : Nat} (hf : FrRel ρ tn nt tmps f) (hs : slot tn t = none) : FrRel ρ tn nt (tmps.setIfInBounds t x) f := by
  refine ⟨by simpa using hf.1, fun u s' hu => ?_⟩
  have q : u ≠ t := fun z => by rw [z, hs] at hu; cases hu
  rw [put_ne q]; exact hf.2 u s' hu

/-! ### The environment of a region, by its entries -/
def EnvM (ρ : Rho) (tn : List Nat) (env : Env) (tmps : Array Value) (f : FR) (e : V) : Prop := ∀ q ∈ env, slot tn q.1 = none ∧ tmps[q.1]? = some (conc ρ (q.2.ev f e)) ∧ RfB q.2
theorem seek_mem {t : Nat} {r : Rf} : ∀ {env : Env}, seek t env = some r → (t, r) ∈ env := by
  intro env
  induction env with
  | nil => intro h; cases h
  | cons q env ih =>
    intro h
    obtain ⟨u, x⟩ := q
    simp only [seek] at h
    split at h
    · rename_i e; cases h; rw [Nat.eq_of_beq_eq_true e]; exact List.mem_cons_self
    · exact List.mem_cons_of_mem _ (ih h)
theorem EnvM.rel (h : EnvM ρ tn env tmps f e) : EnvRel ρ tn env tmps f e := fun t r hs => ⟨(h _ (seek_mem hs)).1, (h _ (seek_mem hs)).2.1⟩
theorem EnvM.b (h : EnvM ρ tn env tmps f e) : EnvB env := fun t r hs => (h _ (seek_mem hs)).2.2
/-- what holds of an activation within a region -/
structure Fr (ρ : Rho) (tn : List Nat) (nt : Nat) (env : Env) (n : Nat) (tmps : Array Value) (f : FR) (e : V) : Prop where
  fr : FrRel ρ tn nt tmps f
  env : EnvM ρ tn env tmps f e
  bf : BdF n f
  be : Bd n e
theorem Fr.ops {n : Nat} {a : Act} (h : Fr ρ tn nt env n a.tmps f e) : Ops (rfOf tn env) a.eval ρ n f e :=
  fun _ _ hq => ⟨rfOf_ok hq h.fr h.env.rel, Rf.ev_bd (rfOf_b hq h.env.b) h.bf h.be⟩
theorem Fr.move {n m : Nat} {σ : Rho} (h : Fr ρ tn nt env n tmps f e) (ag : ρ.Agree n σ) (le : n ≤ m) : Fr σ tn nt env m tmps f e :=
  ⟨h.fr.agree ag h.bf, fun q hq => by
    obtain ⟨h1, h2, h3⟩ := h.env q hq
    exact ⟨h1, by rw [h2, (conc_agree ag _ (Rf.ev_bd h3 h.bf h.be)).1], h3⟩, h.bf.mono le, h.be.mono le⟩
noncomputable def dF (d : D) (v : V) (f : FR) : FR := match d with | .s p => p.set v f | _ => f
def dE (d : D) (v : V) (e : V) : V := match d with | .l => .cn v e | _ => e
theorem kD_ok {ih : FR → V → H → R} {d : D} {v : V} {h : H} : kD d ih f e (.ok v h) = ih (dF d v f) (dE d v e) h := by cases d <;> rfl
theorem kD_bad {ih : FR → V → H → R} {d : D} : kD d ih f e .bad = .bad := by cases d <;> rfl
theorem slEq_refl (s : Sl) : slEq s s = true := by
  induction s with
  | nx s ih => exact ih
  | _ => rfl
theorem drop_mem {s : Sl} {q : Nat × Rf} (h : q ∈ drop s env) : q ∈ env ∧ q.2 ≠ .s s := by
  unfold drop at h
  rw [List.mem_filter] at h
  refine ⟨h.1, fun e => ?_⟩
  have := h.2
  rw [e] at this
  simp only [isS, slEq_refl] at this
  cases this
theorem known_ne {t : Nat} (h : known t env = false) {q : Nat × Rf} (hq : q ∈ env) : q.1 ≠ t := by
  intro e
  have : known t env = true := by
    unfold known
    rw [List.any_eq_true]
    exact ⟨q, hq, by rw [e]; exact Nat.beq_refl _⟩
  rw [h] at this; cases this
theorem ev_put {s : Sl} {v : V} {r : Rf} (h : r ≠ .s s) : r.ev (s.set v f) e = r.ev f e := by
  cases r with
  | s u => exact Sl.get_set_ne _ _ _ _ (fun q => h (q ▸ rfl))
  | _ => rfl
theorem ev_bump {v : V} (r : Rf) : (bump r).ev f (.cn v e) = r.ev f e := by cases r <;> rfl
theorem bump_b {r : Rf} (h : RfB r) : RfB (bump r) := by cases r <;> exact h
/-- a result is put where it goes -/
theorem Fr.put {n : Nat} {a : Act} {v : V} {dst : Option Nat} {d : D} {env' : Env} (h : Fr ρ tn nt env n a.tmps f e) (hd : dstOf tn nt env dst = some (d, env')) (hv : Bd n v) :
    Fr ρ tn nt env' n (a.put dst (conc ρ v)).tmps (dF d v f) (dE d v e) := by
  cases dst with
  | none => cases hd; exact h
  | some t =>
    simp only [dstOf] at hd
    show Fr ρ tn nt env' n (a.tmps.setIfInBounds t (conc ρ v)) _ _
    split at hd
    · rename_i s hs
      cases hd
      refine ⟨h.fr.put hs, fun q hq => ?_, h.bf.set hv s, h.be⟩
      obtain ⟨h1, h2⟩ := drop_mem hq
      obtain ⟨h3, h4, h5⟩ := h.env q h1
      have ne : q.1 ≠ t := fun z => by rw [z, hs] at h3; cases h3
      refine ⟨h3, ?_, h5⟩
      rw [put_ne ne, h4]
      show _ = some (conc ρ (q.2.ev (s.set v f) e))
      rw [ev_put h2]
    · rename_i hs
      split at hd
      · rename_i hk hlt
        cases hd
        have hlt : t < nt := Nat.le_of_ble_eq_true hlt
        refine ⟨h.fr.put_local hs, fun q hq => ?_, h.bf, ⟨hv, h.be⟩⟩
        rcases List.mem_cons.1 hq with rfl | hq
        · exact ⟨hs, put_same (Nat.lt_of_lt_of_le hlt h.fr.1), trivial⟩
        · obtain ⟨p, hp, rfl⟩ := List.mem_map.1 hq
          obtain ⟨h3, h4, h5⟩ := h.env p hp
          refine ⟨h3, ?_, bump_b h5⟩
          rw [put_ne (known_ne hk hp), h4]
          show _ = some (conc ρ ((bump p.2).ev f (.cn v e)))
          rw [ev_bump]
      · cases hd
/-- a copy that stands for its source -/
theorem alias_ok {wr : List Nat} {o : Oper} {t : Nat} {q : Rf} (h : alias tn nt env wr o = some (t, q)) :
    o.guard = none ∧ o.dst = some t ∧ slot tn t = none ∧ t < nt ∧ ∃ x, (o.op = .move x ∨ o.op = .assign x) ∧ rfOf tn env x = some q := by
  unfold alias at h
  split at h
  · rename_i t' hg hd
    split at h
    · cases h
    · rename_i hp
      have hs : slot tn t' = none := by unfold slot; rw [hp]
      have key : ∀ x, (match Nat.blt t' nt, o.op with | true, .move x => some x | true, .assign x => some x | _, _ => none) = some x → t' < nt ∧ (o.op = .move x ∨ o.op = .assign x) := by
        intro x hx
        split at hx
        · rename_i h1 h2; cases hx; exact ⟨Nat.le_of_ble_eq_true h1, .inl h2⟩
        · rename_i h1 h2; cases hx; exact ⟨Nat.le_of_ble_eq_true h1, .inr h2⟩
        · cases hx
      split at h
      · rename_i u hu
        split at h
        · cases h
        · split at h
          · rename_i r hr; cases h; obtain ⟨h1, h2⟩ := key _ hu; exact ⟨hg, hd, hs, h1, _, h2, hr⟩
          · cases h
      · rename_i c hu
        split at h
        · rename_i r hr; cases h; obtain ⟨h1, h2⟩ := key _ hu; exact ⟨hg, hd, hs, h1, _, h2, hr⟩
        · cases h
      · rename_i g hu
        split at h
        · rename_i r hr; cases h; obtain ⟨h1, h2⟩ := key _ hu; exact ⟨hg, hd, hs, h1, _, h2, hr⟩
        · cases h
      · cases h
  · cases h
theorem Fr.alias {n : Nat} {a : Act} {t : Nat} {q : Rf} (h : Fr ρ tn nt env n a.tmps f e) (hs : slot tn t = none) (hlt : t < nt) (hk : known t env = false) (hq : RfB q) :
    Fr ρ tn nt ((t, q) :: env) n (a.put (some t) (conc ρ (q.ev f e))).tmps f e := by
  show Fr ρ tn nt _ n (a.tmps.setIfInBounds t _) _ _
  refine ⟨h.fr.put_local hs, fun p hp => ?_, h.bf, h.be⟩
  rcases List.mem_cons.1 hp with rfl | hp
  · exact ⟨hs, put_same (Nat.lt_of_lt_of_le hlt h.fr.1), hq⟩
  · obtain ⟨h3, h4, h5⟩ := h.env p hp
    exact ⟨h3, by rw [put_ne (known_ne hk hp), h4], h5⟩
theorem put_defers (a : Act) (dst : Option Tmp) (v : Value) : (a.put dst v).defers = a.defers := by cases dst <;> rfl

/-! ### Guards -/
theorem conc_bool {v : V} {b : Bool} (h : conc ρ v = .bool b) : v = .bool b := by
  cases v with
  | bool c => simp only [conc] at h; cases h; rfl
  | x t u =>
    cases t with
    | fn g =>
      simp only [conc, fnOf] at h
      split at h <;> cases h
    | _ => simp only [conc] at h; cases h
  | _ => simp only [conc] at h; cases h
theorem guard_ok {w : Bool} {v x : V} {h : H} {yes no : OR} (he : guard w v yes no = .ok x h) : (v = .bool w ∧ yes = .ok x h) ∨ (v ≠ .bool w ∧ no = .ok x h) := by
  cases v with
  | bool b => cases b <;> cases w <;> first | exact .inl ⟨rfl, he⟩ | exact .inr ⟨(fun q => by cases q), he⟩
  | _ => exact .inr ⟨(fun q => by cases q), he⟩
end
section
variable {P : Program} {tt : TT} {ρ : Rho} {h h' : H} {w : World} {v : V} {f : FR} {e : V} {inv : Inv} {tn : List Nat} {nt : Nat} {env : Env}
/-- what the guard lets be done -/
noncomputable def gRun (inv : Inv) (gd : Option (Rf × Bool)) (io : IOp) (f : FR) (e : V) (h : H) : OR := match gd with
  | none => opT inv io f e h
  | some (r, w) => guard w (r.ev f e) (opT inv io f e h) (.ok .un h)
theorem mkOs_run {d : D} {gd : Option (Rf × Bool)} {io : IOp} {t : Os} : (mkOs d gd io t).run inv f e h = kD d (t.run inv) f e (gRun inv gd io f e h) := by
  cases gd with
  | none => cases d <;> rfl
  | some q => obtain ⟨r, w⟩ := q; cases d <;> rfl
/-- is the operation wanted? -/
theorem guard_wanted {n : Nat} {ops : Array Oper} {o : Oper} {a : Act} {gd : Option (Rf × Bool)} {io : IOp} (fr : Fr ρ tn nt env n a.tmps f e) (hg : gOf ops.toList tn env o = some gd) (he : gRun inv gd io f e h = .ok v h') :
    (Region.wanted o (yielded ops a.tmps) = true ∧ opT inv io f e h = .ok v h') ∨ (Region.wanted o (yielded ops a.tmps) = false ∧ v = .un ∧ h' = h) := by
  unfold gOf at hg
  split at hg
  · rename_i hn; cases hg; exact .inl ⟨by simp [Region.wanted, hn], he⟩
  · rename_i j b hn
    split at hg
    · rename_i q hq
      split at hg
      · rename_i t ht
        split at hg
        · rename_i r hr
          cases hg
          have h1 := rfT_ok hr fr.fr fr.env.rel
          have hq : ops[j]? = some q := by simpa using hq
          have hy : yielded ops a.tmps j = match conc ρ (r.ev f e) with | .bool b => some b | _ => none := by
            unfold yielded
            simp only [hq, Option.bind_some, ht, h1]
            cases conc ρ (r.ev f e) <;> rfl
          rcases guard_ok (show guard b (r.ev f e) (opT inv io f e h) (.ok .un h) = .ok v h' from he) with ⟨h2, h3⟩ | ⟨h2, h3⟩
          · refine .inl ⟨?_, h3⟩
            rw [h2] at hy
            simp only [conc] at hy
            simp [Region.wanted, hn, hy]
          · obtain ⟨rfl, rfl⟩ := or_ok h3
            refine .inr ⟨?_, rfl, rfl⟩
            simp only [Region.wanted, hn, hy]
            cases hc : conc ρ (r.ev f e) with
            | bool c =>
              have := conc_bool hc
              have : c ≠ b := fun z => h2 (z ▸ this)
              simpa using this
            | _ => rfl
        · cases hg
      · cases hg
    · cases hg
/-- one operation of a region -/
theorem oper_ok (tk : TTok P tt) {F : Fence} (hF : Open F) (hi : InvOk P tt inv) (g : G P tt ρ h w) {ops : Array Oper} {i : Nat} {o : Oper} {a : Act} {next : Act → World → Prop} {Q : Exit → Act → World → Prop} {gd : Option (Rf × Bool)} {io : IOp}
    (ho : ops[i]? = some o) (fr : Fr ρ tn nt env h.next.toN a.tmps f e) (hc : cio tt (rfOf tn env) o.op = some io) (hg : gOf ops.toList tn env o = some gd) (he : gRun inv gd io f e h = .ok v h')
    (K : ∀ ρ' w', Step P tt ρ h w ρ' h' w' → Bd h'.next.toN v → next (a.put o.dst (conc ρ' v)) w') : wpOpIn F 0 P ops Q i next a w := by
  unfold wpOpIn
  simp only [ho]
  rcases guard_wanted fr hg he with ⟨h1, h2⟩ | ⟨h1, rfl, rfl⟩
  · simp only [h1, if_true]
    refine op_wp tk hF hi g fr.ops (fun c hd => ?_) hc h2 K
    rw [hd] at hc; cases hc; cases h2
  · simp only [h1, Bool.false_eq_true, if_false]
    refine ⟨fun f _ => hF.fn f, ?_⟩
    have := K ρ w (Step.refl g) trivial
    rw [conc_un] at this
    exact this
/-- a copy, carried out -/
theorem copy_ok {F : Fence} (hF : Open F) (g : G P tt ρ h w) {ops : Array Oper} {i : Nat} {o : Oper} {a : Act} {next : Act → World → Prop} {Q : Exit → Act → World → Prop} {x : Operand}
    (ho : ops[i]? = some o) (hg : o.guard = none) (hx : o.op = .move x ∨ o.op = .assign x) (K : next (a.put o.dst (a.eval x)) w) : wpOpIn F 0 P ops Q i next a w := by
  unfold wpOpIn
  simp only [ho, Region.wanted, hg, if_true]
  unfold Oper.wpIn
  refine ⟨fun f _ => hF.fn f, ?_⟩
  rw [Oper.semAt_eq F.round a.eval o (fun c => by rcases hx with hx | hx <;> (rw [hx]; intro q; cases q))]
  have : (execOp a.eval o).run P w = .ok (.value (a.eval x)) w := by
    unfold execOp
    rcases hx with hx | hx <;> (simp only [hx]; rfl)
  rw [this, Oper.uponIn_value]
  exact K
/-- **operations one behind the other** -/
theorem seq_ok (tk : TTok P tt) {F : Fence} (hF : Open F) (hi : InvOk P tt inv) {ops : Array Oper} {Q : Exit → Act → World → Prop} {h0 : H} {w0 : World} {ρ0 : Rho} {f' : FR} {h' : H} {df : List Deferred}
    (K : ∀ ρ' w' a', Step P tt ρ0 h0 w0 ρ' h' w' → FrRel ρ' tn nt a'.tmps f' → BdF h'.next.toN f' → a'.defers = df → Q .normal a' w') :
    ∀ (l : List Oper) (i : Nat) (env : Env) (os : Os) (ρ : Rho) (h : H) (w : World) (a : Act) (f : FR) (e : V), ops.toList.drop i = l → cseq tt ops.toList tn nt l env = some os → os.run inv f e h = .nrm f' h' →
      Step P tt ρ0 h0 w0 ρ h w → Fr ρ tn nt env h.next.toN a.tmps f e → a.defers = df → wpOpsIn F 0 P ops Q (List.range' i l.length) a w := by
  intro l
  induction l with
  | nil =>
    intro i env os ρ h w a f e _ hc he st fr hd
    cases hc
    cases he
    exact K ρ w a st fr.fr fr.bf hd
  | cons o l ih =>
    intro i env os ρ h w a f e hl hc he st fr hd
    have ho : ops[i]? = some o := by
      have : ops.toList[i]? = some o := by
        have := congrArg (fun z => z[0]?) hl
        simpa using this
      simpa using this
    have hl' : ops.toList.drop (i + 1) = l := by
      have := congrArg List.tail hl
      simpa [List.tail_drop] using this
    show wpOpsIn F 0 P ops Q (i :: List.range' (i + 1) l.length) a w
    rw [wpOpsIn_cons]
    simp only [cseq] at hc
    split at hc
    · rename_i t q hal
      obtain ⟨a1, a2, a3, a4, x, a5, a6⟩ := alias_ok hal
      split at hc
      · cases hc
      · rename_i hk
        obtain ⟨ex, bx⟩ := fr.ops _ _ a6
        refine copy_ok hF st.g ho a1 a5 ?_
        rw [a2, ex]
        exact ih (i + 1) _ os ρ h w _ f e hl' hc he st (fr.alias a3 a4 hk (rfOf_b a6 fr.env.b)) (by rw [put_defers]; exact hd)
    · split at hc
      · rename_i io gd d env' hio hgd hdst
        split at hc
        · rename_i os' hos
          cases hc
          rw [mkOs_run] at he
          cases hr : gRun inv gd io f e h with
          | bad => rw [hr, kD_bad] at he; cases he
          | ok v h1 =>
            rw [hr, kD_ok] at he
            refine oper_ok tk hF hi st.g ho fr hio hgd hr fun ρ' w' st' bv => ?_
            exact ih (i + 1) env' os' ρ' h1 w' _ _ _ hl' hos he (st.trans st') ((fr.move st'.keep.lo st'.le).put hdst bv) (by rw [put_defers]; exact hd)
        · cases hc
      · cases hc
end
end Go.Ads
set_option autoImplicit false
set_option linter.unusedSimpArgs false
set_option linter.unusedVariables false
namespace Go.Ads

/-! ### Marks of ranges over functions -/
def markOf (ρ : Rho) (b : B) : Deferred := { target := .collected (ρ.blk b), args := #[] }
def Marks (ρ' : Rho) (h h' : H) (df df' : List Deferred) : Prop :=
  ∃ L : List B, df' = L.map (markOf ρ') ++ df ∧ L.Nodup ∧ ∀ b ∈ L, h.next.toN ≤ b.toN ∧ h'.get b = .dfr ∧ ρ'.lv b = true
section
variable {P : Program} {tt : TT} {ρ ρ' : Rho} {h h' : H} {w w' : World}
theorem G.lt_of (g : G P tt ρ h w) {b : B} (hb : h.get b ≠ .gone) : b.toN < h.next.toN := by
  rcases Nat.lt_or_ge b.toN h.next.toN with q | q
  · exact q
  · exact absurd (g.none b q) hb
theorem Marks.refl (ρ' : Rho) (h h' : H) (df : List Deferred) : Marks ρ' h h' df df := ⟨[], rfl, List.nodup_nil, fun _ hb => by cases hb⟩
theorem Marks.trans {ρ1 ρ2 : Rho} {h0 h1 h2 : H} {w1 w2 : World} {d0 d1 d2 : List Deferred} (g : G P tt ρ1 h1 w1) (le : h0.next.toN ≤ h1.next.toN) (s : Step P tt ρ1 h1 w1 ρ2 h2 w2) (a : Marks ρ1 h0 h1 d0 d1) (b : Marks ρ2 h1 h2 d1 d2) : Marks ρ2 h0 h2 d0 d2 := by
  obtain ⟨L, rfl, n1, p1⟩ := a
  obtain ⟨K, rfl, n2, p2⟩ := b
  have lt : ∀ c ∈ L, c.toN < h1.next.toN := fun c hc => g.lt_of (by rw [(p1 c hc).2.1]; intro q; cases q)
  refine ⟨K ++ L, ?_, ?_, fun c hc => ?_⟩
  · rw [List.map_append, List.append_assoc]
    have : L.map (markOf ρ1) = L.map (markOf ρ2) := by
      apply List.map_congr_left
      intro c hc
      unfold markOf
      rw [(s.keep.lo c (lt c hc)).1]
    rw [this]
  · rw [List.nodup_append]
    refine ⟨n2, n1, fun x hx y hy e => ?_⟩
    have := (p2 x hx).1
    have := lt y hy
    rw [e] at *
    omega
  · rcases List.mem_append.1 hc with hc | hc
    · obtain ⟨q1, q2, q3⟩ := p2 c hc; exact ⟨by omega, q2, q3⟩
    · obtain ⟨q1, q2, q3⟩ := p1 c hc; exact ⟨q1, s.dfrs c q2, by rw [← s.keep.lv c (lt c hc)]; exact q3⟩

/-! ### What code has done -/
def Aft (P : Program) (tt : TT) (tn : List Nat) (nt : Nat) (nb : Bool) (ρ : Rho) (h : H) (w : World) (df : List Deferred) (f' : FR) (h' : H) (a' : Act) (w' : World) : Prop :=
  ∃ ρ', Step P tt ρ h w ρ' h' w' ∧ FrRel ρ' tn nt a'.tmps f' ∧ BdF h'.next.toN f' ∧ Marks ρ' h h' df a'.defers ∧ (nb = true → a'.defers = df)
variable {tn : List Nat} {nt : Nat} {nb : Bool}
theorem Aft.refl {a : Act} {f : FR} (g : G P tt ρ h w) (fr : FrRel ρ tn nt a.tmps f) (bf : BdF h.next.toN f) : Aft P tt tn nt nb ρ h w a.defers f h a w :=
  ⟨ρ, Step.refl g, fr, bf, Marks.refl _ _ _ _, fun _ => rfl⟩
theorem Aft.of {ρ1 : Rho} {h0 h1 h2 : H} {w0 w1 w2 : World} {d0 d1 : List Deferred} {f2 : FR} {a2 : Act} (s : Step P tt ρ h0 w0 ρ1 h1 w1) (m : Marks ρ1 h0 h1 d0 d1) (e : nb = true → d1 = d0)
    (k : Aft P tt tn nt nb ρ1 h1 w1 d1 f2 h2 a2 w2) : Aft P tt tn nt nb ρ h0 w0 d0 f2 h2 a2 w2 := by
  obtain ⟨ρ2, t, fr, bf, mk, eq⟩ := k
  exact ⟨ρ2, s.trans t, fr, bf, m.trans s.g s.le t mk, fun q => (eq q).trans (e q)⟩
theorem Aft.any {f' : FR} {a' : Act} {df : List Deferred} (k : Aft P tt tn nt true ρ h w df f' h' a' w') : Aft P tt tn nt nb ρ h w df f' h' a' w' := by
  obtain ⟨ρ2, t, fr, bf, mk, eq⟩ := k
  exact ⟨ρ2, t, fr, bf, mk, fun _ => eq rfl⟩
/-- what is asked of a post by a result -/
def CQ (P : Program) (tt : TT) (tn : List Nat) (nt : Nat) (nb : Bool) (ρ : Rho) (h : H) (w : World) (df : List Deferred) (r : R) (Q : Exit → Act → World → Prop) : Prop := match r with
  | .bad => False
  | .nrm f' h' => ∀ a' w', Aft P tt tn nt nb ρ h w df f' h' a' w' → Q .normal a' w'
  | .ret f' h' => ∀ a' w', Aft P tt tn nt nb ρ h w df f' h' a' w' → Q .ret a' w'
  | .ex id f' h' => ∀ a' w', Aft P tt tn nt nb ρ h w df f' h' a' w' → Q (.exit id) a' w'
theorem CQ.of {ρ1 : Rho} {h0 h1 : H} {w0 w1 : World} {d0 d1 : List Deferred} {r : R} {Q : Exit → Act → World → Prop} (s : Step P tt ρ h0 w0 ρ1 h1 w1) (m : Marks ρ1 h0 h1 d0 d1) (e : nb = true → d1 = d0)
    (k : CQ P tt tn nt nb ρ h0 w0 d0 r Q) : CQ P tt tn nt nb ρ1 h1 w1 d1 r Q := by
  cases r with
  | bad => exact k.elim
  | nrm f' h' => exact fun a' w' q => k a' w' (q.of s m e)
  | ret f' h' => exact fun a' w' q => k a' w' (q.of s m e)
  | ex id f' h' => exact fun a' w' q => k a' w' (q.of s m e)
/-- is the frame one of a round? -/
def RdOk (F : Fence) (ρ : Rho) (h : H) : Prop := F.round = none ∨ ∃ b, F.round = some (ρ.blk b) ∧ isLoop (h.get b) = true
theorem RdOk.step {F : Fence} (s : Step P tt ρ h w ρ' h' w') (g : G P tt ρ h w) (k : RdOk F ρ h) : RdOk F ρ' h' := by
  rcases k with k | ⟨b, k1, k2⟩
  · exact .inl k
  · have lt := g.lt_of (b := b) (by intro q; rw [q] at k2; cases k2)
    exact .inr ⟨b, by rw [k1, (s.keep.lo b lt).1], s.loops b k2⟩
theorem isLoop_ok {o : O} (h : isLoop o = true) : ∃ fr ps as bd st p, o = .loop fr ps as bd st p := by
  cases o <;> first | exact ⟨_, _, _, _, _, _, rfl⟩ | cases h

/-! ### A range over a function -/
/-- the record of a loop is laid -/
theorem enter_ok {F : Fence} {f : FR} {a : Act} {hint : Nat → List Nat} {ps : Array Tmp} {as bd : Code} {s : Sls} {ca cb : Cd} (g : G P tt ρ h w) (rd : RdOk F ρ h) (fr : FrRel ρ tn nt a.tmps f) (bf : BdF h.next.toN f)
    (hs : slsOf tn ps.toList = some s) (h1 : comp tt tn nt hint as = some ca) (h2 : comp tt tn nt hint bd = some cb) (fn : FuncId) :
    ∃ l mark w1 ρ', (Instr.enterLoop fn a.tmps ps as bd F.round).run P w = .ok (l, mark) w1 ∧ Step P tt ρ h w ρ' ((h.add .dfr).add (.loop f s ca cb .ready .none)) w1 ∧ ρ'.blk (h.add .dfr).next = l ∧
      Marks ρ' h ((h.add .dfr).add (.loop f s ca cb .ready .none)) a.defers (mark ++ a.defers) := by
  have hn1 : (h.add O.dfr).next ≠ h.next := fun e => by have := H.next_add O.dfr h; rw [e] at this; omega
  have push : ∀ (w : World) (o : Obj) r, r < w.heap.size → (w.alloc o).heap[r]? = w.heap[r]? := fun w o r hr => by
    show (w.heap.push _)[r]? = _
    rw [Array.getElem?_push, if_neg (by omega)]
  have two : ∀ (ρ1 : Rho) (w1 : World) (d : Nat), Step P tt ρ h w ρ1 (h.add .dfr) w1 →
      ∃ ρ', Step P tt ρ h w ρ' ((h.add .dfr).add (.loop f s ca cb .ready .none)) (w1.alloc (.loop { state := .ready, pending := none, fn, tmps := a.tmps, params := ps, assign := as, body := bd, defers := d })) ∧
        ρ'.blk (h.add .dfr).next = w1.heap.size ∧ (∀ b, b ≠ (h.add .dfr).next → ρ'.lv b = ρ1.lv b) ∧ (∀ b, b ≠ (h.add .dfr).next → ρ'.blk b = ρ1.blk b) := by
    intro ρ1 w1 d s1
    have bf1 : BdF (h.add O.dfr).next.toN f := bf.mono s1.le
    have ag : ρ1.Agree (h.add O.dfr).next.toN (ρ1.upd (h.add .dfr).next w1.heap.size 0 0 0 false) := (ρ1.upd_keep _ _ _ _ _ _).lo
    have s2 := Step.add (o := .loop f s ca cb .ready .none) (blk := w1.heap.size) (base := 0) (tot := 0) (es := 0) (lv := false)
      (w' := w1.alloc (.loop { state := .ready, pending := none, fn, tmps := a.tmps, params := ps, assign := as, body := bd, defers := d })) s1.g (push _ _) (by rw [World.size_alloc]; omega) rfl rfl rfl bf1
      ⟨_, by simp only [Rho.upd, if_true]; exact World.alloc_heap_new _ _, rfl, rfl, tn, nt, hint, (fr.agree s1.keep.lo bf).agree ag bf1, hs, h1, h2⟩ (fun _ => Nat.le_refl _)
    exact ⟨_, s1.trans s2, by simp [Rho.upd], fun b hb => by simp [Rho.upd, hb], fun b hb => by simp [Rho.upd, hb]⟩
  rcases rd with rd | ⟨b, rd, hb⟩
  · have s1 := Step.add (o := .dfr) (blk := w.heap.size) (base := 0) (tot := 0) (es := 0) (lv := true) (w' := w.alloc (.deferred (some []))) g (push _ _) (by rw [World.size_alloc]; omega) rfl rfl rfl trivial
      (fun _ => by simp only [Rho.upd, if_true]; exact World.alloc_heap_new _ _) (fun _ => Nat.le_refl _)
    obtain ⟨ρ', t1, t2, t3, t4⟩ := two _ _ w.heap.size s1
    refine ⟨_, _, _, ρ', by rw [rd]; exact run_enterLoop_outer fn a.tmps ps as bd, t1, by rw [t2, World.size_alloc], [h.next], ?_, by simp, fun c hc => ?_⟩
    · simp only [List.map_cons, List.map_nil, markOf, t4 _ (Ne.symm hn1)]
      simp [Rho.upd]
    · obtain rfl := List.mem_singleton.1 hc
      exact ⟨Nat.le_refl _, by rw [H.get_add_ne _ _ (Ne.symm hn1), H.get_add_same], by rw [t3 _ (Ne.symm hn1)]; simp [Rho.upd]⟩
  · obtain ⟨fr', ps', as', bd', st', p', hbo⟩ := isLoop_ok hb
    have hr := g.real b
    rw [hbo] at hr
    obtain ⟨r, hr, _⟩ := hr
    have s1 := Step.add (o := .dfr) (blk := 0) (base := 0) (tot := 0) (es := 0) (lv := false) (w' := w) g (fun _ _ => rfl) (Nat.le_refl _) rfl rfl rfl trivial
      (fun q => by simp [Rho.upd] at q) (fun q => by simp [Live, Rho.upd] at q)
    obtain ⟨ρ', t1, t2, t3, t4⟩ := two _ _ r.defers s1
    refine ⟨_, [], _, ρ', ?_, t1, t2, Marks.refl _ _ _ _⟩
    rw [rd]
    simp only [Instr.enterLoop, Sem.run_bind, run_getLoop hr, Result.andThen_ok, Sem.run_pure, run_newObj_alloc]
theorem endL_ok {b : B} {f : FR} {r : R} (he : endL b f h = r) (hr : r ≠ .bad) : ∃ fr ps as bd st p, h.get b = .loop fr ps as bd st p ∧ st ≠ .busy ∧ p.run f (h.set b (.loop fr ps as bd .over p)) = r := by
  unfold endL at he
  cases ho : h.get b with
  | loop fr ps as bd st p =>
    rw [ho] at he
    cases st with
    | ready => exact ⟨_, _, _, _, _, _, rfl, by simp, he⟩
    | done => exact ⟨_, _, _, _, _, _, rfl, by simp, he⟩
    | busy => exact absurd he.symm hr
    | over => exact absurd he.symm hr
  | _ => rw [ho] at he; exact absurd he.symm hr
theorem stOf_busy {st : LS} (h : st ≠ .busy) : stOf st ≠ .busy := by cases st <;> simp [stOf] at h ⊢
theorem stOf_ne {st : LS} (h : st ≠ .busy) {r : Loop} (e : r.state = stOf st) : r.state ≠ .busy := by rw [e]; exact stOf_busy h
/-- a record's state turns -/
theorem Step.loop (g : G P tt ρ h w) {b : B} {fr : FR} {ps : Sls} {as bd : Cd} {st st' : LS} {p p' : Pend} {r : Loop} (hb : h.get b = .loop fr ps as bd st p) (hr : w.heap[ρ.blk b]? = some (.loop r)) :
    Step P tt ρ h w ρ (h.set b (.loop fr ps as bd st' p')) (w.putObj (ρ.blk b) (.loop { r with state := stOf st', pending := pendOf p' })) := by
  have lt := (Array.getElem?_eq_some_iff.1 hr).1
  have real := g.real b
  rw [hb] at real
  obtain ⟨r', hr', _, _, tn, nt, hint, q1, q2, q3, q4⟩ := real
  rw [hr] at hr'
  cases hr'
  have bd' := g.bd b
  rw [hb] at bd'
  refine Step.set g (by rw [hb]; trivial) (fun k hk => World.putObj_heap_other hk) World.putObj_size rfl rfl rfl bd' ?_ (by rw [hb]; intro q; cases q) (fun _ => rfl)
  exact ⟨_, World.putObj_heap_same lt, rfl, rfl, tn, nt, hint, q1, q2, q3, q4⟩
end
end Go.Ads
set_option autoImplicit false
set_option linter.unusedSimpArgs false
set_option linter.unusedVariables false
namespace Go.Ads
section
variable {P : Program} {tt : TT} {ρ ρ' : Rho} {h h' : H} {w w' : World} {tn : List Nat} {nt : Nat} {inv : Inv} {N : Nat} {nb : Bool}
/-- no range over a function -/
def Cd.norf : Cd → Bool
  | .rfunc _ _ _ _ => false
  | .loop a => a.norf
  | .block _ a => a.norf
  | .cond _ a b => a.norf && b.norf
  | .seq a b => a.norf && b.norf
  | _ => true
/-- **a region that draws, by a schedule** -/
def DrawOk (P : Program) (tt : TT) : Prop := ∀ {inv : Inv}, InvOk P tt inv → ∀ {F : Fence}, Open F → ∀ {id : Nat} {ops : Array Oper} {Q : Exit → Act → World → Prop} {tn : List Nat} {nt : Nat} {wr hl : List Nat} {os : Os} {ρ : Rho} {h h' : H} {w : World} {a : Act} {f f' : FR},
  temps ops.toList (ancs ops.toList []) = true → cdraw tt ops.toList (ancs ops.toList []) tn nt wr hl [] [] = some os → os.run inv f .nl h = .nrm f' h' → G P tt ρ h w → FrRel ρ tn nt a.tmps f → BdF h.next.toN f →
  (∀ a' w', Aft P tt tn nt true ρ h w a.defers f' h' a' w' → Q .normal a' w') → (Code.region id ops true).wpIn F 0 P Q a w
theorem os_nrm {os : Os} {f : FR} {e : V} {h : H} : (∃ f' h', os.run inv f e h = .nrm f' h') ∨ os.run inv f e h = .bad := by
  induction os generalizing f e h with
  | nl => exact .inl ⟨_, _, rfl⟩
  | cg r b q o t ih =>
    show (∃ f' h', guardR b (r.ev f e) (kC (t.run inv) f e h (q.ev f e) (opT inv o f e h)) (t.run inv f e h) = .nrm f' h') ∨ guardR b (r.ev f e) (kC (t.run inv) f e h (q.ev f e) (opT inv o f e h)) (t.run inv f e h) = .bad
    have key : (∃ f' h', kC (t.run inv) f e h (q.ev f e) (opT inv o f e h) = .nrm f' h') ∨ kC (t.run inv) f e h (q.ev f e) (opT inv o f e h) = .bad := by
      cases opT inv o f e h with
      | bad => exact .inr rfl
      | ok v h1 => unfold kC; show (∃ f' h', (Bool.rec R.bad (t.run inv f e h) (vEq (q.ev f e) v) : R) = _) ∨ (Bool.rec R.bad (t.run inv f e h) (vEq (q.ev f e) v) : R) = _; cases vEq (q.ev f e) v; exact .inr rfl; exact ih
    cases r.ev f e with
    | bool c => cases c <;> cases b <;> first | exact key | exact ih
    | _ => exact ih
  | ck q o t ih =>
    show (∃ f' h', kC (t.run inv) f e h (q.ev f e) (opT inv o f e h) = .nrm f' h') ∨ kC (t.run inv) f e h (q.ev f e) (opT inv o f e h) = .bad
    cases opT inv o f e h with
    | bad => exact .inr rfl
    | ok v h1 => unfold kC; show (∃ f' h', (Bool.rec R.bad (t.run inv f e h) (vEq (q.ev f e) v) : R) = _) ∨ (Bool.rec R.bad (t.run inv f e h) (vEq (q.ev f e) v) : R) = _; cases vEq (q.ev f e) v; exact .inr rfl; exact ih
  | g r b d o t ih =>
    show (∃ f' h', kD d (t.run inv) f e (guard b (r.ev f e) (opT inv o f e h) (.ok .un h)) = .nrm f' h') ∨ kD d (t.run inv) f e (guard b (r.ev f e) (opT inv o f e h) (.ok .un h)) = .bad
    cases guard b (r.ev f e) (opT inv o f e h) (.ok .un h) with
    | bad => exact .inr kD_bad
    | ok v h1 => rw [kD_ok]; exact ih
  | n o t ih =>
    show (∃ f' h', kN (t.run inv) f e (opT inv o f e h) = .nrm f' h') ∨ kN (t.run inv) f e (opT inv o f e h) = .bad
    cases opT inv o f e h with
    | bad => exact .inr rfl
    | ok v h1 => exact ih
  | s p o t ih =>
    show (∃ f' h', kS p (t.run inv) f e (opT inv o f e h) = .nrm f' h') ∨ kS p (t.run inv) f e (opT inv o f e h) = .bad
    cases opT inv o f e h with
    | bad => exact .inr rfl
    | ok v h1 => exact ih
  | l o t ih =>
    show (∃ f' h', kL (t.run inv) f e (opT inv o f e h) = .nrm f' h') ∨ kL (t.run inv) f e (opT inv o f e h) = .bad
    cases opT inv o f e h with
    | bad => exact .inr rfl
    | ok v h1 => exact ih
theorem toBoolR_ok {a b r : R} {v : V} (he : toBoolR a b v = r) (hr : r ≠ .bad) : (v = .bool true ∧ a = r) ∨ (v = .bool false ∧ b = r) := by
  cases v with
  | bool c => cases c; exact .inr ⟨rfl, he⟩; exact .inl ⟨rfl, he⟩
  | _ => exact absurd he.symm hr
theorem FrRel.fr0 {n : Nat} {tmps : Array Value} {f : FR} (fr : FrRel ρ tn nt tmps f) (bf : BdF n f) : Fr ρ tn nt [] n tmps f .nl := ⟨fr, fun _ hq => (by cases hq), bf, trivial⟩
theorem rf0_ok {n : Nat} {a : Act} {f : FR} {x : Operand} {r : Rf} (fr : FrRel ρ tn nt a.tmps f) (bf : BdF n f) (hx : rfOf tn [] x = some r) : a.eval x = conc ρ (r.ev f .nl) ∧ Bd n (r.ev f .nl) :=
  (fr.fr0 bf).ops _ _ hx
theorem isFn_bd {v : V} : isFn v = true → ∃ b u, v = .x (.fn b) u := by
  cases v with
  | x t u => cases t <;> first | exact fun _ => ⟨_, _, rfl⟩ | (intro h; cases h)
  | _ => intro h; cases h
/-- a range over a function -/
theorem rfunc_ok (hi : InvOk P tt inv) {F : Fence} (hF : Open F) {Q : Exit → Act → World → Prop} {hint : Nat → List Nat} {g : Operand} {ps : Array Tmp} {as bd : Code} {rg : Rf} {s : Sls} {ca cb : Cd} {a : Act} {f : FR} {r : R}
    (hg : rfOf tn [] g = some rg) (hs : slsOf tn ps.toList = some s) (h1 : comp tt tn nt hint as = some ca) (h2 : comp tt tn nt hint bd = some cb)
    (he : rfK inv (rg.ev f .nl) f (.loop f s ca cb .ready .none) (h.add .dfr) = r) (G0 : G P tt ρ h w) (rd : RdOk F ρ h) (fr : FrRel ρ tn nt a.tmps f) (bf : BdF h.next.toN f) (hnb : nb = false) (K : CQ P tt tn nt nb ρ h w a.defers r Q) :
    (Code.rangeFunc g ps as bd).wpIn F 0 P Q a w := by
  have hr : r ≠ .bad := fun e => by rw [e] at K; exact K
  unfold rfK at he
  cases hfn : isFn (rg.ev f .nl) with
  | false => rw [hfn] at he; exact absurd he.symm hr
  | true =>
    rw [hfn] at he
    cases hinv : inv (rg.ev f .nl) (.cn (.x (.yld (h.add .dfr).next) .nl) .nl) ((h.add .dfr).add (.loop f s ca cb .ready .none)) with
    | bad => rw [hinv] at he; exact absurd he.symm hr
    | ok v h3 =>
      rw [hinv] at he
      obtain ⟨fr', ps', as', bd', st, p, hb, hst, he⟩ := endL_ok he hr
      refine wpIn_rangeFunc fun fn _ => ?_
      obtain ⟨l, mark, w1, ρ2, e1, s1, e2, m1⟩ := enter_ok (a := a) G0 rd fr bf hs h1 h2 fn
      obtain ⟨eg, bg⟩ := rf0_ok fr bf hg
      have eg2 := eg.trans (conc_agree s1.keep.lo _ bg).1
      have hlt : (h.add O.dfr).next.toN < ((h.add O.dfr).add (.loop f s ca cb .ready .none)).next.toN := by
        have := H.next_add (.loop f s ca cb .ready .none) (h.add O.dfr); omega
      obtain ⟨d, nx, q1, q2, q3, q4⟩ := hi F hF _ _ v _ h3 ρ2 w1 hinv s1.g (bg.mono s1.le) ⟨⟨hlt, trivial⟩, trivial⟩
      obtain ⟨fid, args, rfl⟩ := q4 hfn
      refine ⟨l, mark, w1, d, w1, fid, args, w1, e1, ?_, fun f' _ => hF.fn f', q2, fun q => (by rw [hF.depth] at q; cases q), CallsIn.mono q3 ?_⟩
      · have hres : resolve a.eval (rangeCall g l) 0 = Deferred.ofValue (a.eval g) #[.func (.yield l) #[] #[]] := by simp [resolve, rangeCall, Act.eval]
        rw [hres]
        rw [eg2, ← q1]
        simp only [concL_cn, concL_nl, conc, e2]
      · rintro e w3 ⟨ρ3, rfl, s2, _⟩
        have hreal := s2.g.real (h.add .dfr).next
        rw [hb] at hreal
        obtain ⟨rec, hrec, a1, a2, a3⟩ := hreal
        have hl : w3.heap[l]? = some (.loop rec) := by rw [← e2, (s2.keep.lo _ hlt).1]; exact hrec
        have s3 := Step.loop s2.g (st' := .over) (p' := p) hb hrec
        have s13 := s1.trans s2
        have s4 := s13.trans s3
        obtain ⟨W, hW⟩ : ∃ W, W = w3.putObj l (.loop { rec with state := .exhausted }) := ⟨_, rfl⟩
        refine ⟨rec.pending, W, by rw [hW]; exact run_endLoop hl (stOf_ne hst a1), ?_⟩
        have hw : W = w3.putObj (ρ3.blk (h.add .dfr).next) (.loop { rec with state := stOf .over, pending := pendOf p }) := by
          rw [hW, ← e2, (s2.keep.lo _ hlt).1, a2.symm]; rfl
        have mk : Marks ρ3 h (h3.set (h.add O.dfr).next (.loop fr' ps' as' bd' .over p)) a.defers (mark ++ a.defers) :=
          m1.trans s1.g s1.le (s2.trans s3) (Marks.refl _ _ _ _)
        have aft : Aft P tt tn nt nb ρ h w a.defers f (h3.set (h.add O.dfr).next (.loop fr' ps' as' bd' .over p)) { a with defers := mark ++ a.defers } W :=
          ⟨ρ3, by rw [hw]; exact s4, fr.agree s4.keep.lo bf, bf.mono s4.le, mk, fun q => by rw [hnb] at q; cases q⟩
        rw [a2]
        cases p with
        | none => subst he; exact K _ _ aft
        | ret => subst he; exact wpIn_ret (K _ _ aft)
        | exit id => subst he; exact wpIn_exit (K _ _ aft)
theorem least_of (p : Nat → Prop) (h : ∃ n, p n) : ∃ n, p n ∧ ∀ m, p m → n ≤ m := by
  obtain ⟨n, hn⟩ := h
  induction n using Nat.strongRecOn with
  | _ n ih =>
    by_cases q : ∃ m, m < n ∧ p m
    · obtain ⟨m, h1, h2⟩ := q; exact ih m h1 h2
    · exact ⟨n, hn, fun m hm => by rcases Nat.lt_or_ge m n with z | z; exact absurd ⟨m, z, hm⟩ q; exact z⟩
open Classical in
noncomputable def leastN (p : Nat → Prop) : Nat := if h : ∃ n, p n then (least_of p h).choose else 0
theorem leastN_spec {p : Nat → Prop} (h : ∃ n, p n) : p (leastN p) := by
  unfold leastN; rw [dif_pos h]; exact (least_of p h).choose_spec.1
theorem leastN_le {p : Nat → Prop} {m : Nat} (h : p m) : leastN p ≤ m := by
  unfold leastN; rw [dif_pos ⟨m, h⟩]; exact (least_of p ⟨m, h⟩).choose_spec.2 m h
/-- **code** -/
theorem code_ok (tk : TTok P tt) (dk : DrawOk P tt) (hi : InvOk P tt inv) {F : Fence} (hF : Open F) {hint : Nat → List Nat} : ∀ (c : Code) (cd : Cd) (Q : Exit → Act → World → Prop) (ρ : Rho) (h : H) (w : World) (a : Act) (f : FR) (r : R),
    comp tt tn nt hint c = some cd → cd.run inv N f h = r → G P tt ρ h w → RdOk F ρ h → FrRel ρ tn nt a.tmps f → BdF h.next.toN f → (nb = true → cd.norf = true) → CQ P tt tn nt nb ρ h w a.defers r Q → c.wpIn F 0 P Q a w := by
  intro c
  induction c with
  | skip =>
    intro cd Q ρ h w a f r hc he g rd fr bf hnb K
    cases hc
    subst he
    exact wpIn_skip (K _ _ (Aft.refl g fr bf))
  | region id ops draw =>
    intro cd Q ρ h w a f r hc he g rd fr bf hnb K
    cases draw with
    | false =>
      simp only [comp] at hc
      split at hc
      · rename_i os hos
        cases hc
        have he : os.run inv f .nl h = r := he
        rcases os_nrm (inv := inv) (os := os) (f := f) (e := .nl) (h := h) with ⟨f', h', q⟩ | q
        · rw [q] at he
          subst he
          refine wpIn_region ?_
          have := seq_ok (Q := Q) (df := a.defers) (ρ0 := ρ) (w0 := w) tk hF hi (fun ρ' w' a' st fr' bf' hd => K a' w' ⟨ρ', st, fr', bf', by rw [hd]; exact Marks.refl _ _ _ _, fun _ => hd⟩) ops.toList 0 [] os ρ h w a f .nl (by simp) hos q (Step.refl g) (fr.fr0 bf) rfl
          simpa [List.range_eq_range'] using this
        · rw [q] at he; subst he; exact K.elim
      · cases hc
    | true =>
      simp only [comp] at hc
      split at hc
      · rename_i ht
        split at hc
        · rename_i os hos
          cases hc
          have he : os.run inv f .nl h = r := he
          rcases os_nrm (inv := inv) (os := os) (f := f) (e := .nl) (h := h) with ⟨f', h', q⟩ | q
          · rw [q] at he
            subst he
            exact dk hi hF ht hos q g fr bf fun a' w' z => K a' w' z.any
          · rw [q] at he; subst he; exact K.elim
        · cases hc
      · cases hc
  | seq x y ihx ihy =>
    intro cd Q ρ h w a f r hc he g rd fr bf hnb K
    simp only [comp] at hc
    split at hc
    · rename_i cx hx
      split at hc
      · rename_i cy hy
        cases hc
        have he : onNrm (cy.run inv N) (cx.run inv N f h) = r := he
        have hnb1 : nb = true → cx.norf = true := fun q => (Bool.and_eq_true_iff.1 (hnb q)).1
        have hnb2 : nb = true → cy.norf = true := fun q => (Bool.and_eq_true_iff.1 (hnb q)).2
        refine wpIn_seq (ihx cx _ ρ h w a f _ hx rfl g rd fr bf hnb1 ?_)
        cases hr : cx.run inv N f h with
        | bad => rw [hr] at he; subst he; exact K.elim
        | nrm f1 h1 =>
          rw [hr] at he
          rintro a1 w1 ⟨ρ1, st, fr1, bf1, mk, eq⟩
          exact ihy cy Q ρ1 h1 w1 a1 f1 r hy he st.g (rd.step st g) fr1 bf1 hnb2 (K.of st mk eq)
        | ret f1 h1 => rw [hr] at he; subst he; exact K
        | ex id f1 h1 => rw [hr] at he; subst he; exact K
      · cases hc
    · cases hc
  | cond x y z ihy ihz =>
    intro cd Q ρ h w a f r hc he g rd fr bf hnb K
    simp only [comp] at hc
    split at hc
    · rename_i q hq
      split at hc
      · rename_i cy hy
        split at hc
        · rename_i cz hz
          cases hc
          have he : toBoolR (cy.run inv N f h) (cz.run inv N f h) (q.ev f .nl) = r := he
          obtain ⟨ex, bx⟩ := rf0_ok fr bf hq
          rcases toBoolR_ok he (fun e => by rw [e] at K; exact K) with ⟨e1, e2⟩ | ⟨e1, e2⟩
          · rw [e1] at ex
            simp only [conc] at ex
            exact wpIn_cond_true ex (ihy cy Q ρ h w a f r hy e2 g rd fr bf (fun q => (Bool.and_eq_true_iff.1 (hnb q)).1) K)
          · rw [e1] at ex
            simp only [conc] at ex
            exact wpIn_cond_false ex (ihz cz Q ρ h w a f r hz e2 g rd fr bf (fun q => (Bool.and_eq_true_iff.1 (hnb q)).2) K)
        · cases hc
      · cases hc
    · cases hc
  | block id x ih =>
    intro cd Q ρ h w a f r hc he g rd fr bf hnb K
    simp only [comp] at hc
    split at hc
    · rename_i cx hx
      cases hc
      have he : blk id (cx.run inv N f h) = r := he
      refine wpIn_block (ih cx _ ρ h w a f _ hx rfl g rd fr bf hnb ?_)
      cases hr : cx.run inv N f h with
      | bad => rw [hr] at he; subst he; exact K.elim
      | nrm f1 h1 => rw [hr] at he; subst he; exact K
      | ret f1 h1 => rw [hr] at he; subst he; exact K
      | ex id' f1 h1 =>
        rw [hr] at he
        have he : (Bool.rec (R.ex id' f1 h1) (R.nrm f1 h1) (Nat.beq id' id) : R) = r := he
        intro a' w' q
        show if id' = id then Q .normal a' w' else Q (.exit id') a' w'
        by_cases e : id' = id
        · rw [if_pos e]
          rw [e, Nat.beq_refl] at he
          subst he
          exact K a' w' q
        · rw [if_neg e]
          have : Nat.beq id' id = false := by
            cases hb : Nat.beq id' id
            · rfl
            · exact absurd (Nat.eq_of_beq_eq_true hb) e
          rw [this] at he
          subst he
          exact K a' w' q
    · cases hc
  | loop x ih =>
    intro cd Q ρ h w a f r hc he g rd fr bf hnb K
    simp only [comp] at hc
    split at hc
    · rename_i cx hx
      cases hc
      have he : loopN (cx.run inv N) N f h = r := he
      have hr : r ≠ .bad := fun e => by rw [e] at K; exact K
      let J : Nat → Act → World → Prop := fun n a' w' => ∃ f' h', Aft P tt tn nt nb ρ h w a.defers f' h' a' w' ∧ loopN (cx.run inv N) n f' h' = r
      let μ : Act → World → Nat := fun a' w' => leastN (fun n => J n a' w')
      refine wpIn_loop (fun a' w' => ∃ n, J n a' w') μ ⟨N, f, h, Aft.refl g fr bf, he⟩ fun a1 w1 hI => ?_
      have hJ : J (μ a1 w1) a1 w1 := by
        exact leastN_spec (p := fun n => J n a1 w1) hI
      obtain ⟨f1, h1, ⟨ρ1, st, fr1, bf1, mk, eq⟩, hl⟩ := hJ
      cases hm : μ a1 w1 with
      | zero => rw [hm] at hl; exact absurd hl.symm hr
      | succ m =>
        rw [hm] at hl
        have hl : onNrm (loopN (cx.run inv N) m) (cx.run inv N f1 h1) = r := hl
        refine ih cx _ ρ1 h1 w1 a1 f1 _ hx rfl st.g (rd.step st g) fr1 bf1 hnb ?_
        cases hq : cx.run inv N f1 h1 with
        | bad => rw [hq] at hl; exact absurd hl.symm hr
        | nrm f2 h2 =>
          rw [hq] at hl
          intro a2 w2 q
          have hJ2 : J m a2 w2 := ⟨f2, h2, q.of st mk eq, hl⟩
          refine ⟨⟨m, hJ2⟩, ?_⟩
          have : μ a2 w2 ≤ m := leastN_le (p := fun n => J n a2 w2) hJ2
          omega
        | ret f2 h2 => rw [hq] at hl; subst hl; exact K.of st mk eq
        | ex id f2 h2 => rw [hq] at hl; subst hl; exact K.of st mk eq
    · cases hc
  | rangeFunc gv ps as bd _ _ =>
    intro cd Q ρ h w a f r hc he g rd fr bf hnb K
    simp only [comp] at hc
    split at hc
    · rename_i rg s hrg hs
      split at hc
      · rename_i ca hca
        split at hc
        · rename_i cb hcb
          cases hc
          exact rfunc_ok hi hF hrg hs hca hcb he g rd fr bf (by cases nb with | false => rfl | true => cases hnb rfl) K
        · cases hc
      · cases hc
    · cases hc
  | exit id =>
    intro cd Q ρ h w a f r hc he g rd fr bf hnb K
    cases hc
    subst he
    exact wpIn_exit (K _ _ (Aft.refl g fr bf))
  | ret =>
    intro cd Q ρ h w a f r hc he g rd fr bf hnb K
    cases hc
    subst he
    exact wpIn_ret (K _ _ (Aft.refl g fr bf))
  | scope x _ => intro cd Q ρ h w a f r hc; cases hc
  | label l => intro cd Q ρ h w a f r hc; cases hc
  | goto l => intro cd Q ρ h w a f r hc; cases hc
  | refuse s =>
    intro cd Q ρ h w a f r hc he g rd fr bf hnb K
    cases hc
    have he : R.bad = r := he
    subst he
    exact K.elim
end
end Go.Ads
set_option autoImplicit false
set_option linter.unusedSimpArgs false
set_option linter.unusedVariables false
namespace Go.Ads

/-! ### One and the same value -/
theorem andB_ok {a b : Bool} (h : andB a b = true) : a = true ∧ b = true := by cases a <;> cases b <;> first | exact ⟨rfl, rfl⟩ | cases h
theorem bEq_ok : ∀ {a b : B}, bEq a b = true → a = b := by
  intro a
  induction a with
  | one => intro b h; cases b <;> first | rfl | cases h
  | o a ih => intro b h; cases b <;> first | exact congrArg B.o (ih h) | cases h
  | i a ih => intro b h; cases b <;> first | exact congrArg B.i (ih h) | cases h
theorem nEqL_ok : ∀ {a b : List Nat}, nEqL a b = true → a = b := by
  intro a
  induction a with
  | nil => intro b h; cases b <;> first | rfl | cases h
  | cons x a ih =>
    intro b h
    cases b with
    | nil => cases h
    | cons y b =>
      have h : (Bool.rec false (nEqL a b) (Nat.beq x y) : Bool) = true := h
      cases hq : Nat.beq x y with
      | false => rw [hq] at h; cases h
      | true => rw [hq] at h; rw [Nat.eq_of_beq_eq_true hq, ih h]
theorem cpEq_ok {a b : Cp} (h : cpEq a b = true) : a = b := by
  cases a <;> cases b <;> first | (obtain ⟨h1, h2⟩ := andB_ok h; rw [Nat.eq_of_beq_eq_true h1, Nat.eq_of_beq_eq_true h2]; done) | cases h; done | (rw [Nat.eq_of_beq_eq_true h])
theorem tagEq_ok {a b : Tag} (h : tagEq a b = true) : a = b := by
  cases a <;> cases b <;> first | rfl | (exact congrArg _ (bEq_ok h)) | (exact congrArg _ (Nat.eq_of_beq_eq_true h)) | cases h
theorem vEq_ok : ∀ {a b : V}, vEq a b = true → a = b := by
  intro a
  induction a with
  | x t u ih =>
    intro b h
    cases b with
    | x t' u' => obtain ⟨h1, h2⟩ := andB_ok (show andB (tagEq t t') (vEq u u') = true from h); rw [tagEq_ok h1, ih h2]
    | _ => cases h
  | str s => intro b h; cases b <;> first | exact congrArg V.str (nEqL_ok h) | cases h
  | nl => intro b h; cases b <;> first | rfl | cases h
  | cn x y ihx ihy =>
    intro b h
    cases b with
    | cn x' y' => obtain ⟨h1, h2⟩ := andB_ok (show andB (vEq x x') (vEq y y') = true from h); rw [ihx h1, ihy h2]
    | _ => cases h
  | agg c ih => intro b h; cases b <;> first | exact congrArg V.agg (ih h) | cases h
  | sl p o n c =>
    intro b h
    cases b with
    | sl p' o' n' c' =>
      obtain ⟨h1, h2⟩ := andB_ok (show andB (bEq p p') (andB (Nat.beq o o') (andB (Nat.beq n n') (cpEq c c'))) = true from h)
      obtain ⟨h3, h4⟩ := andB_ok h2
      obtain ⟨h5, h6⟩ := andB_ok h4
      rw [bEq_ok h1, Nat.eq_of_beq_eq_true h3, Nat.eq_of_beq_eq_true h5, cpEq_ok h6]
    | _ => cases h
  | bool x =>
    intro b h
    cases b with
    | bool y => have h : beqB x y = true := h; cases x <;> cases y <;> first | rfl | cases h
    | _ => cases h
  | ptr p o =>
    intro b h
    cases b with
    | ptr p' o' => obtain ⟨h1, h2⟩ := andB_ok (show andB (bEq p p') (Nat.beq o o') = true from h); rw [bEq_ok h1, Nat.eq_of_beq_eq_true h2]
    | _ => cases h
  | int k n =>
    intro b h
    cases b with
    | int k' n' =>
      obtain ⟨h1, h2⟩ := andB_ok (show andB (keq k k') (ieq n n') = true from h)
      rw [ieq_eq] at h2
      rw [keq_eq h1, of_decide_eq_true h2]
    | _ => cases h

/-! ### What a schedule's run goes through -/
section
variable {tt : TT} {inv : Inv} {L : List Oper} {an tn : List Nat} {nt : Nat} {wr : List Nat}
/-- one place of the schedule -/
def StepAt (tt : TT) (inv : Inv) (L : List Oper) (tn : List Nat) (nt : Nat) (o : Oper) (env : Env) (f : FR) (e : V) (h : H) (v : V) (env' : Env) (f' : FR) (e' : V) (h' : H) : Prop :=
  (∃ wr t q, alias tn nt env wr o = some (t, q) ∧ known t env = false ∧ env' = (t, q) :: env ∧ f' = f ∧ e' = e ∧ h' = h ∧ v = q.ev f e) ∨
  (∃ io gd d, cio tt (rfOf tn env) o.op = some io ∧ gOf L tn env o = some gd ∧ dstOf tn nt env o.dst = some (d, env') ∧ gRun inv gd io f e h = .ok v h' ∧ f' = dF d v f ∧ e' = dE d v e)
/-- the checks behind an effect -/
def ChkAt (tt : TT) (inv : Inv) (L : List Oper) (an tn : List Nat) (done : List Nat) (i : Nat) (env : Env) (f : FR) (e : V) (h : H) : Prop :=
  ∀ j ∈ done, ∀ o, L[j]? = some o → ko tt o = .r → Nat.testBit (an.getD i 0) j = false → chkOk L an (done ++ [i]) j o = true ∧
    ∃ t q io g, o.dst = some t ∧ rfT tn env t = some q ∧ cio tt (rfOf tn env) o.op = some io ∧ gOf L tn env o = some g ∧
      ((∀ r w, g = some (r, w) → r.ev f e = .bool w) → ∃ h', opT inv io f e h = .ok (q.ev f e) h')
theorem guardR_ok {w : Bool} {v : V} {yes no r : R} (he : guardR w v yes no = r) : (v = .bool w ∧ yes = r) ∨ (v ≠ .bool w ∧ no = r) := by
  cases v with
  | bool b => cases b <;> cases w <;> first | exact .inl ⟨rfl, he⟩ | exact .inr ⟨(fun q => by cases q), he⟩
  | _ => exact .inr ⟨(fun q => by cases q), he⟩
theorem kC_ok {ih : FR → V → H → R} {f f' : FR} {e q : V} {h h' : H} {r : OR} (he : kC ih f e h q r = .nrm f' h') : (∃ h1, r = .ok q h1) ∧ ih f e h = .nrm f' h' := by
  cases r with
  | bad => cases he
  | ok v h1 =>
    have he : (Bool.rec R.bad (ih f e h) (vEq q v) : R) = .nrm f' h' := he
    cases hq : vEq q v with
    | false => rw [hq] at he; cases he
    | true => rw [hq] at he; exact ⟨⟨h1, by rw [vEq_ok hq]⟩, he⟩
theorem chk_run {i : Nat} {done : List Nat} {env : Env} {f f' : FR} {e : V} {h h' : H} : ∀ (l : List Nat) (k k' : Os), cchk tt L an tn env (done ++ [i]) (an.getD i 0) l k = some k' → k'.run inv f e h = .nrm f' h' →
    k.run inv f e h = .nrm f' h' ∧ ∀ j ∈ l, ∀ o, L[j]? = some o → ko tt o = .r → Nat.testBit (an.getD i 0) j = false → chkOk L an (done ++ [i]) j o = true ∧
    ∃ t q io g, o.dst = some t ∧ rfT tn env t = some q ∧ cio tt (rfOf tn env) o.op = some io ∧ gOf L tn env o = some g ∧
      ((∀ r w, g = some (r, w) → r.ev f e = .bool w) → ∃ h', opT inv io f e h = .ok (q.ev f e) h') := by
  intro l
  induction l with
  | nil => intro k k' hc he; cases hc; exact ⟨he, fun j hj => by cases hj⟩
  | cons j l ih =>
    intro k k' hc he
    simp only [cchk] at hc
    split at hc
    · cases hc
    · rename_i k1 hk1
      split at hc
      · cases hc
      · rename_i o ho
        have skip : ∀ k2, k2 = k1 → k2.run inv f e h = .nrm f' h' → (ko tt o = .r → Nat.testBit (an.getD i 0) j = true) → k.run inv f e h = .nrm f' h' ∧ ∀ j' ∈ j :: l, ∀ o, L[j']? = some o → ko tt o = .r → Nat.testBit (an.getD i 0) j' = false → chkOk L an (done ++ [i]) j' o = true ∧
            ∃ t q io g, o.dst = some t ∧ rfT tn env t = some q ∧ cio tt (rfOf tn env) o.op = some io ∧ gOf L tn env o = some g ∧
              ((∀ r w, g = some (r, w) → r.ev f e = .bool w) → ∃ h', opT inv io f e h = .ok (q.ev f e) h') := by
          rintro k2 rfl he2 hno
          obtain ⟨h1, h2⟩ := ih k k2 hk1 he2
          refine ⟨h1, fun j' hj' o' ho' hr' hb' => ?_⟩
          rcases List.mem_cons.1 hj' with rfl | hj'
          · rw [ho] at ho'; cases ho'
            rw [hno hr'] at hb'; cases hb'
          · exact h2 j' hj' o' ho' hr' hb'
        split at hc
        · rename_i hko
          split at hc
          · rename_i hb
            cases hc
            exact skip _ rfl he (fun _ => hb)
          · rename_i hb
            split at hc
            · cases hc
            · cases hc
            · rename_i t hch hdst
              split at hc
              · rename_i q io hq hio hg
                cases hc
                obtain ⟨⟨h1, e1⟩, e2⟩ := kC_ok he
                obtain ⟨h2, h3⟩ := ih k k1 hk1 e2
                refine ⟨h2, fun j' hj' o' ho' hr' hb' => ?_⟩
                rcases List.mem_cons.1 hj' with rfl | hj'
                · rw [ho] at ho'; cases ho'
                  exact ⟨hch, t, q, io, none, hdst, hq, hio, hg, fun _ => ⟨h1, e1⟩⟩
                · exact h3 j' hj' o' ho' hr' hb'
              · rename_i q io r w hq hio hg
                cases hc
                rcases guardR_ok he with ⟨g1, g2⟩ | ⟨g1, g2⟩
                · obtain ⟨⟨h1, e1⟩, e2⟩ := kC_ok g2
                  obtain ⟨h2, h3⟩ := ih k k1 hk1 e2
                  refine ⟨h2, fun j' hj' o' ho' hr' hb' => ?_⟩
                  rcases List.mem_cons.1 hj' with rfl | hj'
                  · rw [ho] at ho'; cases ho'
                    exact ⟨hch, t, q, io, _, hdst, hq, hio, hg, fun _ => ⟨h1, e1⟩⟩
                  · exact h3 j' hj' o' ho' hr' hb'
                · obtain ⟨h2, h3⟩ := ih k k1 hk1 g2
                  refine ⟨h2, fun j' hj' o' ho' hr' hb' => ?_⟩
                  rcases List.mem_cons.1 hj' with rfl | hj'
                  · rw [ho] at ho'; cases ho'
                    exact ⟨hch, t, q, io, _, hdst, hq, hio, hg, fun hw => absurd (hw r w rfl) g1⟩
                  · exact h3 j' hj' o' ho' hr' hb'
              · cases hc
        · rename_i hno
          cases hc
          exact skip _ rfl he (fun q => absurd q hno)
def sh0 {α : Type} (x : α) (f : Nat → α) : Nat → α | 0 => x | k + 1 => f k
/-- a schedule's run, place by place -/
theorem draw_tr {f' : FR} {h' : H} : ∀ (l done : List Nat) (env : Env) (os : Os) (f : FR) (e : V) (h : H), cdraw tt L an tn nt wr l done env = some os → os.run inv f e h = .nrm f' h' →
    ∃ (op : Nat → Oper) (en : Nat → Env) (fs : Nat → FR) (es : Nat → V) (hs : Nat → H) (vs : Nat → V), en 0 = env ∧ fs 0 = f ∧ es 0 = e ∧ hs 0 = h ∧ fs l.length = f' ∧ hs l.length = h' ∧ done.length + l.length = L.length ∧
      ∀ k i, l[k]? = some i → L[i]? = some (op k) ∧ mayNow tt L an (done ++ l.take k) i = true ∧ StepAt tt inv L tn nt (op k) (en k) (fs k) (es k) (hs k) (vs k) (en (k + 1)) (fs (k + 1)) (es (k + 1)) (hs (k + 1)) ∧
        (ko tt (op k) = .e → ChkAt tt inv L an tn (done ++ l.take k) i (en (k + 1)) (fs (k + 1)) (es (k + 1)) (hs (k + 1))) := by
  intro l
  induction l with
  | nil =>
    intro done env os f e h hc he
    simp only [cdraw] at hc
    split at hc
    · rename_i hlen
      cases hc
      cases he
      exact ⟨fun _ => default, fun _ => env, fun _ => f', fun _ => e, fun _ => h', fun _ => .un, rfl, rfl, rfl, rfl, rfl, rfl, by simpa using Nat.eq_of_beq_eq_true hlen, fun k i hk => by simp at hk⟩
    · cases hc
  | cons i l ih =>
    intro done env os f e h hc he
    simp only [cdraw] at hc
    split at hc
    · rename_i o hmay ho
      have glue : ∀ (env1 : Env) (os1 : Os) (f1 : FR) (e1 : V) (h1 : H) (v : V), cdraw tt L an tn nt wr l (done ++ [i]) env1 = some os1 → os1.run inv f1 e1 h1 = .nrm f' h' → StepAt tt inv L tn nt o env f e h v env1 f1 e1 h1 →
          (ko tt o = .e → ChkAt tt inv L an tn done i env1 f1 e1 h1) →
          ∃ (op : Nat → Oper) (en : Nat → Env) (fs : Nat → FR) (es : Nat → V) (hs : Nat → H) (vs : Nat → V), en 0 = env ∧ fs 0 = f ∧ es 0 = e ∧ hs 0 = h ∧ fs (i :: l).length = f' ∧ hs (i :: l).length = h' ∧ done.length + (i :: l).length = L.length ∧
            ∀ k i', (i :: l)[k]? = some i' → L[i']? = some (op k) ∧ mayNow tt L an (done ++ (i :: l).take k) i' = true ∧ StepAt tt inv L tn nt (op k) (en k) (fs k) (es k) (hs k) (vs k) (en (k + 1)) (fs (k + 1)) (es (k + 1)) (hs (k + 1)) ∧
              (ko tt (op k) = .e → ChkAt tt inv L an tn (done ++ (i :: l).take k) i' (en (k + 1)) (fs (k + 1)) (es (k + 1)) (hs (k + 1))) := by
        intro env1 os1 f1 e1 h1 v hc1 he1 hst hchk
        obtain ⟨op, en, fs, es, hs, vs, a1, a2, a3, a4, a5, a6, a7, a8⟩ := ih (done ++ [i]) env1 os1 f1 e1 h1 hc1 he1
        refine ⟨sh0 o op, sh0 env en, sh0 f fs, sh0 e es, sh0 h hs, sh0 v vs, rfl, rfl, rfl, rfl, a5, a6, by simp at a7 ⊢; omega, fun k i' hk => ?_⟩
        cases k with
        | zero =>
          simp only [List.getElem?_cons_zero, Option.some.injEq] at hk
          subst hk
          refine ⟨ho, by simpa using hmay, ?_, ?_⟩
          · show StepAt tt inv L tn nt o env f e h v (en 0) (fs 0) (es 0) (hs 0)
            rw [a1, a2, a3, a4]; exact hst
          · intro hk
            have : ChkAt tt inv L an tn (done ++ []) i (en 0) (fs 0) (es 0) (hs 0) := by rw [a1, a2, a3, a4, List.append_nil]; exact hchk hk
            exact this
        | succ k =>
          simp only [List.getElem?_cons_succ] at hk
          have := a8 k i' hk
          simpa [sh0, List.take_succ_cons, List.append_assoc] using this
      split at hc
      · rename_i t q hal
        split at hc
        · cases hc
        · rename_i hk
          obtain ⟨_, _, _, _, x, hx, _⟩ := alias_ok hal
          refine glue _ _ _ _ _ _ hc he (.inl ⟨_, _, _, hal, hk, rfl, rfl, rfl, rfl, rfl⟩) fun hko => ?_
          unfold ko at hko
          rcases hx with hx | hx <;> (rw [hx] at hko; cases hko)
      · split at hc
        · rename_i io gd d env1 hio hgd hdst
          split at hc
          · rename_i os1 hos1
            have fin : ∀ os2, os = mkOs d gd io os2 → (∀ f2 e2 h2, os2.run inv f2 e2 h2 = .nrm f' h' → os1.run inv f2 e2 h2 = .nrm f' h' ∧ (ko tt o = .e → ChkAt tt inv L an tn done i env1 f2 e2 h2)) →
                ∃ (op : Nat → Oper) (en : Nat → Env) (fs : Nat → FR) (es : Nat → V) (hs : Nat → H) (vs : Nat → V), en 0 = env ∧ fs 0 = f ∧ es 0 = e ∧ hs 0 = h ∧ fs (i :: l).length = f' ∧ hs (i :: l).length = h' ∧ done.length + (i :: l).length = L.length ∧
                  ∀ k i', (i :: l)[k]? = some i' → L[i']? = some (op k) ∧ mayNow tt L an (done ++ (i :: l).take k) i' = true ∧ StepAt tt inv L tn nt (op k) (en k) (fs k) (es k) (hs k) (vs k) (en (k + 1)) (fs (k + 1)) (es (k + 1)) (hs (k + 1)) ∧
                    (ko tt (op k) = .e → ChkAt tt inv L an tn (done ++ (i :: l).take k) i' (en (k + 1)) (fs (k + 1)) (es (k + 1)) (hs (k + 1))) := by
              rintro os2 rfl hos2
              rw [mkOs_run] at he
              cases hr : gRun inv gd io f e h with
              | bad => rw [hr, kD_bad] at he; cases he
              | ok v h1 =>
                rw [hr, kD_ok] at he
                obtain ⟨q1, q2⟩ := hos2 _ _ _ he
                exact glue env1 os1 _ _ h1 v hos1 q1 (.inr ⟨io, gd, d, hio, hgd, hdst, hr, rfl, rfl⟩) q2
            split at hc
            · rename_i hko
              split at hc
              · rename_i os2 hos2
                cases hc
                exact fin os2 rfl fun f2 e2 h2 h3 => by
                  obtain ⟨q1, q2⟩ := chk_run _ _ _ hos2 h3
                  exact ⟨q1, fun _ => q2⟩
              · cases hc
            · rename_i hno
              cases hc
              exact fin os1 rfl fun f2 e2 h2 h3 => ⟨h3, fun q => absurd q hno⟩
          · cases hc
        · cases hc
    · cases hc
end
end Go.Ads
set_option autoImplicit false
set_option linter.unusedSimpArgs false
set_option linter.unusedVariables false
namespace Go.Ads

/-! ### Lists of numbers -/
theorem nodup_le : ∀ (n : Nat) (l : List Nat), l.Nodup → (∀ x ∈ l, x < n) → l.length ≤ n := by
  intro n
  induction n with
  | zero => intro l _ h; cases l with | nil => exact Nat.le_refl _ | cons x l => exact absurd (h x List.mem_cons_self) (by omega)
  | succ n ih =>
    intro l nd h
    by_cases hn : n ∈ l
    · have h1 := List.length_erase_of_mem hn
      have := ih (l.erase n) (nd.erase n) fun x hx => by
        obtain ⟨a, b⟩ := (List.Nodup.mem_erase_iff nd).1 hx
        have := h x b
        omega
      omega
    · have := ih l nd fun x hx => by
        have := h x hx
        have : x ≠ n := fun e => hn (e ▸ hx)
        omega
      omega
theorem nodup_all {n : Nat} {l : List Nat} (nd : l.Nodup) (h : ∀ x ∈ l, x < n) (hl : l.length = n) {i : Nat} (hi : i < n) : i ∈ l := by
  apply Classical.byContradiction
  intro q
  have := nodup_le n (i :: l) (List.nodup_cons.2 ⟨q, nd⟩) fun x hx => by
    rcases List.mem_cons.1 hx with rfl | hx
    · exact hi
    · exact h x hx
  simp at this
  omega

/-! ### A schedule and its run -/
section
variable {P : Program} {tt : TT} {inv : Inv} {ops : Array Oper} {an tn : List Nat} {nt : Nat} {hl : List Nat} {op : Nat → Oper} {en : Nat → Env} {fs : Nat → FR} {es : Nat → V} {hs : Nat → H} {vs : Nat → V}
structure Dr (tt : TT) (inv : Inv) (ops : Array Oper) (an tn : List Nat) (nt : Nat) (hl : List Nat) (op : Nat → Oper) (en : Nat → Env) (fs : Nat → FR) (es : Nat → V) (hs : Nat → H) (vs : Nat → V) : Prop where
  len : hl.length = ops.size
  at' : ∀ k i, hl[k]? = some i → ops.toList[i]? = some (op k) ∧ mayNow tt ops.toList an (hl.take k) i = true ∧ StepAt tt inv ops.toList tn nt (op k) (en k) (fs k) (es k) (hs k) (vs k) (en (k + 1)) (fs (k + 1)) (es (k + 1)) (hs (k + 1)) ∧
        (ko tt (op k) = .e → ChkAt tt inv ops.toList an tn (hl.take k) i (en (k + 1)) (fs (k + 1)) (es (k + 1)) (hs (k + 1)))
  env0 : en 0 = []
  tmps : temps ops.toList an = true
def ixOf (hl : List Nat) (k : Nat) : Nat := hl.getD k 0
/-- one place of the schedule is surely before another one -/
def Anc (an hl : List Nat) (k k' : Nat) : Prop := Nat.testBit (an.getD (ixOf hl k) 0) (ixOf hl k') = true
variable (D : Dr tt inv ops an tn nt hl op en fs es hs vs)
include D
theorem Dr.ix {k : Nat} (hk : k < ops.size) : hl[k]? = some (ixOf hl k) := by
  rw [← D.len] at hk
  simp [ixOf, hk]
theorem Dr.oper {k : Nat} (hk : k < ops.size) : ops.toList[ixOf hl k]? = some (op k) := (D.at' k _ (D.ix hk)).1
theorem Dr.oper' {k : Nat} (hk : k < ops.size) : ops[ixOf hl k]? = some (op k) := by have := D.oper hk; simpa using this
theorem Dr.lt {k : Nat} (hk : k < ops.size) : ixOf hl k < ops.size := (Array.getElem?_eq_some_iff.1 (D.oper' hk)).1
theorem Dr.step {k : Nat} (hk : k < ops.size) : StepAt tt inv ops.toList tn nt (op k) (en k) (fs k) (es k) (hs k) (vs k) (en (k + 1)) (fs (k + 1)) (es (k + 1)) (hs (k + 1)) := (D.at' k _ (D.ix hk)).2.2.1
theorem Dr.chk {k : Nat} (hk : k < ops.size) (he : ko tt (op k) = .e) : ChkAt tt inv ops.toList an tn (hl.take k) (ixOf hl k) (en (k + 1)) (fs (k + 1)) (es (k + 1)) (hs (k + 1)) := (D.at' k _ (D.ix hk)).2.2.2 he
theorem Dr.may {k : Nat} (hk : k < ops.size) : mayNow tt ops.toList an (hl.take k) (ixOf hl k) = true := (D.at' k _ (D.ix hk)).2.1
theorem Dr.mem_take {k k' : Nat} (hk : k < ops.size) (hlt : k' < k) : ixOf hl k' ∈ hl.take k := by
  have := D.ix (Nat.lt_trans hlt hk)
  rw [List.mem_iff_getElem?]
  exact ⟨k', by rw [List.getElem?_take, if_pos hlt]; exact this⟩
omit D in
theorem take_mem {k i : Nat} (h : i ∈ hl.take k) : ∃ k', k' < k ∧ hl[k']? = some i := by
  rw [List.mem_iff_getElem?] at h
  obtain ⟨k', hk'⟩ := h
  rw [List.getElem?_take] at hk'
  split at hk'
  · rename_i q; exact ⟨k', q, hk'⟩
  · cases hk'
theorem Dr.fresh {k : Nat} (hk : k < ops.size) : ixOf hl k ∉ hl.take k := by
  have := D.may hk
  unfold mayNow at this
  rw [D.oper hk] at this
  simp only [Bool.and_eq_true, Bool.not_eq_true'] at this
  intro q
  have h1 := this.1.1
  rw [List.contains_iff_mem.2 q] at h1
  cases h1
theorem Dr.inj {k k' : Nat} (hk : k < ops.size) (hk' : k' < ops.size) (e : ixOf hl k = ixOf hl k') : k = k' := by
  rcases Nat.lt_trichotomy k k' with q | q | q
  · exact absurd (e ▸ D.mem_take hk' q) (D.fresh hk')
  · exact q
  · exact absurd (e.symm ▸ D.mem_take hk q) (D.fresh hk)
theorem Dr.nodup : hl.Nodup := by
  rw [List.nodup_iff_pairwise_ne, List.pairwise_iff_getElem]
  intro a b ha hb hab e
  have h1 := D.ix (by rw [← D.len]; exact ha)
  have h2 := D.ix (by rw [← D.len]; exact hb)
  have : a = b := D.inj (by rw [← D.len]; exact ha) (by rw [← D.len]; exact hb) (by
    have h3 : hl[a]? = some hl[a] := List.getElem?_eq_getElem ha
    have h4 : hl[b]? = some hl[b] := List.getElem?_eq_getElem hb
    rw [h1] at h3; rw [h2] at h4
    rw [Option.some.inj h3, Option.some.inj h4, e])
  omega
theorem Dr.surj {i : Nat} (hi : i < ops.size) : ∃ k, k < ops.size ∧ ixOf hl k = i := by
  have : i ∈ hl := nodup_all D.nodup (fun x hx => by
    obtain ⟨k, hk⟩ := List.mem_iff_getElem?.1 hx
    have := (D.at' k x hk).1
    have := (List.getElem?_eq_some_iff.1 this).1
    simpa using this) D.len hi
  obtain ⟨k, hk⟩ := List.mem_iff_getElem?.1 this
  have hk2 : k < ops.size := by rw [← D.len]; exact (List.getElem?_eq_some_iff.1 hk).1
  have := D.ix hk2
  rw [hk] at this
  exact ⟨k, hk2, (Option.some.inj this).symm⟩
theorem Dr.anc {k i : Nat} (hk : k < ops.size) (hi : i < ops.size) (h : Nat.testBit (an.getD (ixOf hl k) 0) i = true) : ∃ k', k' < k ∧ ixOf hl k' = i := by
  have := D.may hk
  unfold mayNow at this
  rw [D.oper hk] at this
  simp only [Bool.and_eq_true, List.all_eq_true, List.mem_range] at this
  have h1 := this.1.2 i (by simpa using hi)
  rw [h] at h1
  simp only [Bool.not_true, Bool.false_or, List.contains_iff_mem] at h1
  obtain ⟨k', q1, q2⟩ := take_mem h1
  have := D.ix (Nat.lt_trans q1 hk)
  rw [q2] at this
  exact ⟨k', q1, (Option.some.inj this).symm⟩
theorem Dr.anc_lt {k k' : Nat} (hk : k < ops.size) (hk' : k' < ops.size) (h : Anc an hl k k') : k' < k := by
  obtain ⟨q, h1, h2⟩ := D.anc hk (D.lt hk') h
  have := D.inj (Nat.lt_trans h1 hk) hk' h2
  omega
theorem Dr.ne {k k' : Nat} (hk : k < ops.size) (hlt : k' < k) (h : ko tt (op k) = .r ∨ ko tt (op k) = .e) (h' : ko tt (op k') = .n ∨ ko tt (op k') = .e) : Anc an hl k k' := by
  have := D.may hk
  unfold mayNow at this
  rw [D.oper hk] at this
  simp only [Bool.and_eq_true] at this
  have h2 := this.2
  have hm := D.mem_take hk hlt
  have ho := D.oper (Nat.lt_trans hlt hk)
  unfold Anc
  rcases h with h | h <;> (rw [h] at h2; simp only [List.all_eq_true] at h2; have h3 := h2 _ hm; rw [ho] at h3; rcases h' with h' | h' <;> (simp only [h'] at h3; exact h3))
theorem Dr.tmp {a b t : Nat} (ha : a < ops.size) (hb : b < ops.size) (hne : a ≠ b) (hd : (op b).dst = some t) (h : t ∈ readsG ops.toList (op a) ∨ (op a).dst = some t) : Anc an hl a b ∨ Anc an hl b a := by
  have := D.tmps
  unfold temps at this
  simp only [List.all_eq_true, List.mem_range] at this
  have h1 := this (ixOf hl a) (by simpa using D.lt ha)
  rw [D.oper ha] at h1
  replace h1 := (Bool.and_eq_true_iff.1 h1).1
  unfold temps1 at h1
  simp only [List.all_eq_true, List.mem_range] at h1
  have h2 := h1 (ixOf hl b) (by simpa using D.lt hb)
  have hix : Nat.beq (ixOf hl a) (ixOf hl b) = false := by
    cases q : Nat.beq (ixOf hl a) (ixOf hl b)
    · rfl
    · exact absurd (D.inj ha hb (Nat.eq_of_beq_eq_true q)) hne
  rw [D.oper hb, hix] at h2
  simp only [hd, Bool.false_or, Bool.or_eq_true, Bool.and_eq_true, Bool.not_eq_true', bne_iff_ne, ne_eq] at h2
  rcases h2 with (⟨q1, q2⟩ | h2) | h2
  · rcases h with h | h
    · rw [List.contains_iff_mem.2 h] at q1; cases q1
    · exact absurd h q2
  · exact .inl h2
  · exact .inr h2
theorem Dr.edge {k : Nat} (hk : k < ops.size) {e : Edge} (he : e ∈ (op k).after) : e.on < ops.size := by
  have := D.tmps
  unfold temps at this
  simp only [List.all_eq_true, List.mem_range] at this
  have h1 := this (ixOf hl k) (by simpa using D.lt hk)
  rw [D.oper hk] at h1
  have h2 := List.all_eq_true.1 (Bool.and_eq_true_iff.1 h1).2 e (by simpa using he)
  have := Nat.le_of_ble_eq_true h2
  simp only [Array.length_toList] at this
  omega
end
end Go.Ads
set_option autoImplicit false
set_option linter.unusedSimpArgs false
set_option linter.unusedVariables false
namespace Go.Ads
section
variable {P : Program} {tt : TT} {inv : Inv} {L : List Oper} {tn : List Nat} {nt : Nat} {o : Oper} {env env' : Env} {f f' : FR} {e e' v : V} {h h' : H}
def EnvNd (env : Env) : Prop := (env.map (·.1)).Nodup
theorem seek_of {t : Nat} {r : Rf} : ∀ {env : Env}, EnvNd env → (t, r) ∈ env → seek t env = some r := by
  intro env
  induction env with
  | nil => intro _ h; cases h
  | cons q env ih =>
    intro nd h
    obtain ⟨u, x⟩ := q
    unfold EnvNd at nd
    rw [List.map_cons, List.nodup_cons] at nd
    simp only [seek]
    rcases List.mem_cons.1 h with h | h
    · cases h
      have : Nat.beq t t = true := Nat.beq_refl t
      rw [this]
    · have : Nat.beq t u = false := by
        cases q : Nat.beq t u
        · rfl
        · exact absurd (List.mem_map.2 ⟨_, h, Nat.eq_of_beq_eq_true q⟩) nd.1
      rw [this]
      exact ih nd.2 h
theorem known_notin {t : Nat} (h : known t env = false) : t ∉ env.map (·.1) := by
  intro q
  obtain ⟨p, hp, e⟩ := List.mem_map.1 q
  exact known_ne h hp e
theorem EnvNd.cons {t : Nat} {r : Rf} (nd : EnvNd env) (h : known t env = false) : EnvNd ((t, r) :: env) := by
  unfold EnvNd
  rw [List.map_cons, List.nodup_cons]
  exact ⟨known_notin h, nd⟩
theorem push_keys (env : Env) : (env.map fun q => (q.1, bump q.2)).map (·.1) = env.map (·.1) := by simp
theorem EnvNd.push {t : Nat} (nd : EnvNd env) (h : known t env = false) : EnvNd (push t env) := by
  unfold EnvNd Ads.push
  rw [List.map_cons, List.nodup_cons, push_keys]
  exact ⟨known_notin h, nd⟩
theorem EnvNd.drop (s : Sl) (nd : EnvNd env) : EnvNd (drop s env) := by
  unfold EnvNd Ads.drop
  exact List.Nodup.sublist (List.filter_sublist.map _) nd
theorem seek_push {t u : Nat} {r' : Rf} (hne : t ≠ u) (h : seek t (push u env) = some r') : ∃ r, seek t env = some r ∧ r' = bump r := by
  unfold push at h
  simp only [seek] at h
  have : Nat.beq t u = false := by
    cases q : Nat.beq t u
    · rfl
    · exact absurd (Nat.eq_of_beq_eq_true q) hne
  rw [this] at h
  simp only at h
  induction env with
  | nil => cases h
  | cons q env ih =>
    obtain ⟨x, y⟩ := q
    simp only [List.map_cons, seek] at h ⊢
    cases hq : Nat.beq t x with
    | true => rw [hq] at h; simp only [Option.some.injEq] at h; exact ⟨y, rfl, h.symm⟩
    | false => rw [hq] at h; exact ih h
theorem seek_self {t : Nat} {r : Rf} : seek t ((t, r) :: env) = some r := by
  simp only [seek]
  have : Nat.beq t t = true := Nat.beq_refl t
  rw [this]
theorem seek_cons {t u : Nat} {r : Rf} (hne : t ≠ u) : seek t ((u, r) :: env) = seek t env := by
  simp only [seek]
  have : Nat.beq t u = false := by
    cases q : Nat.beq t u
    · rfl
    · exact absurd (Nat.eq_of_beq_eq_true q) hne
  rw [this]
/-- where a result goes, by cases -/
theorem dst_cases {dst : Option Nat} {d : D} (h : dstOf tn nt env dst = some (d, env')) :
    (dst = none ∧ d = .no ∧ env' = env) ∨ (∃ t s, dst = some t ∧ slot tn t = some s ∧ d = .s s ∧ env' = drop s env) ∨ (∃ t, dst = some t ∧ slot tn t = none ∧ t < nt ∧ known t env = false ∧ d = .l ∧ env' = push t env) := by
  cases dst with
  | none => cases h; exact .inl ⟨rfl, rfl, rfl⟩
  | some t =>
    simp only [dstOf] at h
    split at h
    · rename_i s hs; cases h; exact .inr (.inl ⟨t, s, rfl, hs, rfl, rfl⟩)
    · rename_i hs
      split at h
      · rename_i hk hlt; cases h; exact .inr (.inr ⟨t, rfl, hs, Nat.le_of_ble_eq_true hlt, hk, rfl, rfl⟩)
      · cases h
variable (st : StepAt tt inv L tn nt o env f e h v env' f' e' h')
include st
theorem StepAt.nd (nd : EnvNd env) : EnvNd env' := by
  rcases st with ⟨wr, t, q, ha, hk, rfl, _⟩ | ⟨io, gd, d, h1, h2, h3, h4, h5, h6⟩
  · exact nd.cons hk
  · rcases dst_cases h3 with ⟨_, _, rfl⟩ | ⟨t, s, _, _, _, rfl⟩ | ⟨t, _, _, _, hk, _, rfl⟩
    · exact nd
    · exact nd.drop s
    · exact nd.push hk
/-- what is not written stands as it stood -/
theorem StepAt.stay (nd : EnvNd env) {t : Nat} {r' : Rf} (hd : o.dst ≠ some t) (hr : rfT tn env' t = some r') : ∃ r, rfT tn env t = some r ∧ r.ev f e = r'.ev f' e' := by
  unfold rfT at hr ⊢
  rcases st with ⟨wr, u, q, ha, hk, rfl, rfl, rfl, rfl, rfl⟩ | ⟨io, gd, d, h1, h2, h3, h4, rfl, rfl⟩
  · obtain ⟨_, a2, _⟩ := alias_ok ha
    have hne : t ≠ u := fun z => hd (z ▸ a2)
    split at hr
    · rename_i s hs; cases hr; exact ⟨.s s, rfl, rfl⟩
    · rw [seek_cons hne] at hr; exact ⟨r', hr, rfl⟩
  · rcases dst_cases h3 with ⟨_, rfl, rfl⟩ | ⟨u, s, hu, hs, rfl, rfl⟩ | ⟨u, hu, hs, _, hk, rfl, rfl⟩
    · split at hr
      · rename_i s hs; cases hr; exact ⟨.s s, rfl, rfl⟩
      · exact ⟨r', hr, rfl⟩
    · have hne : t ≠ u := fun z => hd (z ▸ hu)
      split at hr
      · rename_i s' hs'
        cases hr
        refine ⟨.s s', rfl, ?_⟩
        show s'.get f = s'.get (s.set v f)
        rw [Sl.get_set_ne _ _ _ _ (fun q => hne (slot_inj hs' (by rw [q]; exact hs)))]
      · obtain ⟨q1, q2⟩ := drop_mem (seek_mem hr)
        refine ⟨r', seek_of nd q1, ?_⟩
        show _ = r'.ev (s.set v f) e
        rw [ev_put q2]
    · have hne : t ≠ u := fun z => hd (z ▸ hu)
      split at hr
      · rename_i s' hs'; cases hr; exact ⟨.s s', rfl, rfl⟩
      · obtain ⟨r, q1, rfl⟩ := seek_push hne hr
        refine ⟨r, q1, ?_⟩
        show _ = (bump r).ev f (.cn v e)
        rw [ev_bump]
/-- what is written is the result -/
theorem StepAt.new {t : Nat} {r : Rf} (hd : o.dst = some t) (hr : rfT tn env' t = some r) : r.ev f' e' = v := by
  unfold rfT at hr
  rcases st with ⟨wr, u, q, ha, hk, rfl, rfl, rfl, rfl, rfl⟩ | ⟨io, gd, d, h1, h2, h3, h4, rfl, rfl⟩
  · obtain ⟨_, a2, a3, _⟩ := alias_ok ha
    rw [hd] at a2
    cases a2
    rw [a3, seek_self] at hr
    cases hr; rfl
  · rcases dst_cases h3 with ⟨q, _⟩ | ⟨u, s, hu, hs, rfl, rfl⟩ | ⟨u, hu, hs, _, hk, rfl, rfl⟩
    · rw [hd] at q; cases q
    · rw [hd] at hu; cases hu
      rw [hs] at hr; cases hr
      exact Sl.get_set_same _ _ _
    · rw [hd] at hu; cases hu
      rw [hs] at hr
      have hr : seek t ((t, .l .z) :: env.map fun q => (q.1, bump q.2)) = some r := hr
      rw [seek_self] at hr
      cases hr; rfl
/-- is the destination within the frame? -/
theorem StepAt.dst_lt {t : Nat} (hd : o.dst = some t) : (∃ s, slot tn t = some s) ∨ t < nt := by
  rcases st with ⟨wr, u, q, ha, hk, rfl, rfl, rfl, rfl, rfl⟩ | ⟨io, gd, d, h1, h2, h3, h4, rfl, rfl⟩
  · obtain ⟨_, a2, a3, a4, _⟩ := alias_ok ha
    rw [hd] at a2; cases a2
    exact .inr a4
  · rcases dst_cases h3 with ⟨q, _⟩ | ⟨u, s, hu, hs, rfl, rfl⟩ | ⟨u, hu, hs, hlt, hk, rfl, rfl⟩
    · rw [hd] at q; cases q
    · rw [hd] at hu; cases hu; exact .inl ⟨s, hs⟩
    · rw [hd] at hu; cases hu; exact .inr hlt
end
section
variable {P : Program} {tt : TT} {ρ : Rho} {w : World} {inv : Inv} {ops : Array Oper} {an tn : List Nat} {nt : Nat} {hl : List Nat} {op : Nat → Oper} {en : Nat → Env} {fs : Nat → FR} {es : Nat → V} {hs : Nat → H} {vs : Nat → V}
theorem wide_open : Open Fence.wide := ⟨rfl⟩
/-- an operation's step, whatever comes behind it -/
theorem op_step (tk : TTok P tt) (hi : InvOk P tt inv) {h h' : H} {v : V} {f : FR} {e : V} {env : Env} (g : G P tt ρ h w) {i : Nat} {o : Oper} {tmps : Array Value} {gd : Option (Rf × Bool)} {io : IOp}
    (ho : ops[i]? = some o) (fr : Fr ρ tn nt env h.next.toN tmps f e) (hc : cio tt (rfOf tn env) o.op = some io) (hg : gOf ops.toList tn env o = some gd) (he : gRun inv gd io f e h = .ok v h') :
    ∃ ρ' w', Step P tt ρ h w ρ' h' w' ∧ Bd h'.next.toN v := by
  have := oper_ok (P := P) (F := Fence.wide) (a := ⟨tmps, []⟩) (next := fun a' w' => wpOpsIn Fence.wide 0 P ops (fun _ _ w' => ∃ ρ', Step P tt ρ h w ρ' h' w' ∧ Bd h'.next.toN v) [] a' w')
    (Q := fun _ _ w' => ∃ ρ', Step P tt ρ h w ρ' h' w' ∧ Bd h'.next.toN v) tk wide_open hi g ho fr hc hg he (fun ρ' w' s b => ⟨ρ', s, b⟩)
  obtain ⟨_, _, w', ⟨ρ', s, b⟩, _⟩ := wp_opsIn [i] ⟨tmps, []⟩ w (by rw [wpOpsIn_cons]; exact this) { (default : Frame) with roundOf := none } [] [] rfl trivial (room_wide _)
  exact ⟨ρ', w', s, b⟩
/-- what holds of the abstract run alone -/
structure Df (tt : TT) (ops : Array Oper) (tn : List Nat) (op : Nat → Oper) (en : Nat → Env) (fs : Nat → FR) (es : Nat → V) (hs : Nat → H) (vs : Nat → V) : Prop where
  bf : ∀ k, k ≤ ops.size → BdF (hs k).next.toN (fs k)
  be : ∀ k, k ≤ ops.size → Bd (hs k).next.toN (es k)
  eb : ∀ k, k ≤ ops.size → EnvB (en k)
  nd : ∀ k, k ≤ ops.size → EnvNd (en k)
  ob : ∀ k, k ≤ ops.size → (∀ b, BdO (hs k).next.toN ((hs k).get b)) ∧ ∀ b : B, (hs k).next.toN ≤ b.toN → (hs k).get b = .gone
  le : ∀ k, k < ops.size → (hs k).next.toN ≤ (hs (k + 1)).next.toN
  vb : ∀ k, k < ops.size → Bd (hs (k + 1)).next.toN (vs k)
  quiet : ∀ k, k < ops.size → ko tt (op k) = .p ∨ ko tt (op k) = .r → hs (k + 1) = hs k
  news : ∀ k, k < ops.size → ko tt (op k) = .n → hs (k + 1) = hs k ∨ ∃ o, hs (k + 1) = (hs k).add o
theorem Dr.facts (tk : TTok P tt) (hi : InvOk P tt inv) (D : Dr tt inv ops an tn nt hl op en fs es hs vs) {tmps : Array Value} (g : G P tt ρ (hs 0) w) (fr : FrRel ρ tn nt tmps (fs 0)) (bf : BdF (hs 0).next.toN (fs 0)) (be : Bd (hs 0).next.toN (es 0)) :
    Df tt ops tn op en fs es hs vs := by
  have sh : ∀ k, k ≤ ops.size → (∃ ρ w tmps, G P tt ρ (hs k) w ∧ Fr ρ tn nt (en k) (hs k).next.toN tmps (fs k) (es k)) ∧ EnvNd (en k) := by
    intro k
    induction k with
    | zero => intro _; rw [D.env0]; exact ⟨⟨ρ, w, tmps, g, fr, (fun q hq => by cases hq), bf, be⟩, List.nodup_nil⟩
    | succ k ih =>
      intro hk
      obtain ⟨⟨ρ, w, tmps, g, fr⟩, nd⟩ := ih (by omega)
      have st := D.step (k := k) (by omega)
      refine ⟨?_, st.nd nd⟩
      rcases st with ⟨wr, t, q, ha, hkn, e1, e2, e3, e4, e5⟩ | ⟨io, gd, d, h1, h2, h3, h4, h5, h6⟩
      · obtain ⟨a1, a2, a3, a4, x, a5, a6⟩ := alias_ok ha
        have := fr.alias (a := ⟨tmps, []⟩) a3 a4 hkn (rfOf_b a6 fr.env.b)
        exact ⟨ρ, w, _, by rw [e4]; exact g, by rw [e1, e2, e3, e4]; exact this⟩
      · obtain ⟨ρ', w', s, b⟩ := op_step tk hi g (D.oper' (k := k) (by omega)) fr h1 h2 h4
        exact ⟨ρ', w', _, s.g, by rw [h5, h6]; exact (fr.move s.keep.lo s.le).put (a := ⟨tmps, []⟩) h3 b⟩
  have kinds : ∀ k, k < ops.size → ∃ (ρ : Rho) (w : World) (tmps : Array Value), G P tt ρ (hs k) w ∧ Fr ρ tn nt (en k) (hs k).next.toN tmps (fs k) (es k) := fun k hk => (sh k (by omega)).1
  refine ⟨fun k hk => ?_, fun k hk => ?_, fun k hk => ?_, fun k hk => (sh k hk).2, fun k hk => ?_, fun k hk => ?_, fun k hk => ?_, fun k hk hq => ?_, fun k hk hq => ?_⟩
  · obtain ⟨⟨_, _, _, _, fr⟩, _⟩ := sh k hk; exact fr.bf
  · obtain ⟨⟨_, _, _, _, fr⟩, _⟩ := sh k hk; exact fr.be
  · obtain ⟨⟨_, _, _, _, fr⟩, _⟩ := sh k hk; exact fr.env.b
  · obtain ⟨⟨_, _, _, g, _⟩, _⟩ := sh k hk; exact ⟨g.bd, g.none⟩
  · obtain ⟨ρ, w, tmps, g, fr⟩ := kinds k hk
    rcases D.step hk with ⟨_, _, _, _, _, _, _, _, e4, _⟩ | ⟨io, gd, d, h1, h2, h3, h4, h5, h6⟩
    · rw [e4]; exact Nat.le_refl _
    · obtain ⟨_, _, s, _⟩ := op_step tk hi g (D.oper' hk) fr h1 h2 h4; exact s.le
  · obtain ⟨ρ, w, tmps, g, fr⟩ := kinds k hk
    rcases D.step hk with ⟨_, t, q, ha, _, _, _, _, e4, e5⟩ | ⟨io, gd, d, h1, h2, h3, h4, h5, h6⟩
    · obtain ⟨_, _, _, _, x, _, a6⟩ := alias_ok ha
      rw [e4, e5]; exact (fr.ops (a := ⟨tmps, []⟩) _ _ a6).2
    · obtain ⟨_, _, s, b⟩ := op_step tk hi g (D.oper' hk) fr h1 h2 h4; exact b
  · obtain ⟨ρ, w, tmps, g, fr⟩ := kinds k hk
    rcases D.step hk with ⟨_, _, _, _, _, _, _, _, e4, _⟩ | ⟨io, gd, d, h1, h2, h3, h4, h5, h6⟩
    · exact e4
    · rcases guard_wanted (a := ⟨tmps, []⟩) fr h2 h4 with ⟨_, q⟩ | ⟨_, _, q⟩
      · rcases hq with hq | hq
        · exact (pure_ok tk (fr.ops (a := ⟨tmps, []⟩)) hq h1 q).1
        · exact (read_ok tk g (fr.ops (a := ⟨tmps, []⟩)) hq h1 q).1
      · exact q
  · obtain ⟨ρ, w, tmps, g, fr⟩ := kinds k hk
    rcases D.step hk with ⟨_, _, _, _, _, _, _, _, e4, _⟩ | ⟨io, gd, d, h1, h2, h3, h4, h5, h6⟩
    · exact .inl e4
    · rcases guard_wanted (a := ⟨tmps, []⟩) fr h2 h4 with ⟨_, q⟩ | ⟨_, _, q⟩
      · rcases new_ok tk (fr.ops (a := ⟨tmps, []⟩)) hq h1 q with ⟨z, _⟩ | ⟨_, _, _, _, _, z, _⟩ | ⟨o, _, _, z, _⟩
        · exact .inl z
        · exact .inr ⟨_, z⟩
        · exact .inr ⟨o, z⟩
      · exact .inl q
/-- what nobody writes between two places stands as it stood -/
theorem Dr.persist (D : Dr tt inv ops an tn nt hl op en fs es hs vs) (Fa : Df tt ops tn op en fs es hs vs) {k : Nat} {t : Nat} : ∀ {k' : Nat} {r' : Rf}, k ≤ k' → k' ≤ ops.size → (∀ j, k ≤ j → j < k' → (op j).dst ≠ some t) → rfT tn (en k') t = some r' →
    ∃ r, rfT tn (en k) t = some r ∧ r.ev (fs k) (es k) = r'.ev (fs k') (es k') := by
  intro k'
  induction k' with
  | zero => intro r' h1 _ _ hr; have : k = 0 := by omega
            subst this; exact ⟨r', hr, rfl⟩
  | succ k' ih =>
    intro r' h1 h2 hw hr
    rcases Nat.lt_or_ge k' k with q | q
    · have : k = k' + 1 := by omega
      subst this; exact ⟨r', hr, rfl⟩
    · obtain ⟨r1, q1, q2⟩ := (D.step (k := k') (by omega)).stay (Fa.nd k' (by omega)) (hw k' q (by omega)) hr
      obtain ⟨r, q3, q4⟩ := ih q (by omega) (fun j hj hj' => hw j hj (by omega)) q1
      exact ⟨r, q3, q4.trans q2⟩
theorem Df.mono (Fa : Df tt ops tn op en fs es hs vs) {k : Nat} : ∀ {k' : Nat}, k ≤ k' → k' ≤ ops.size → (hs k).next.toN ≤ (hs k').next.toN := by
  intro k'
  induction k' with
  | zero => intro h1 _; have : k = 0 := by omega
            subst this; exact Nat.le_refl _
  | succ k' ih =>
    intro h1 h2
    rcases Nat.lt_or_ge k' k with q | q
    · have : k = k' + 1 := by omega
      subst this; exact Nat.le_refl _
    · exact Nat.le_trans (ih q (by omega)) (Fa.le k' (by omega))
end
end Go.Ads
set_option autoImplicit false
set_option linter.unusedSimpArgs false
set_option linter.unusedVariables false
namespace Go.Ads

/-! ### Values that hang on some names alone -/
def AgA (A : B → Prop) (ρ σ : Rho) : Prop := ∀ b, A b → ρ.blk b = σ.blk b ∧ ρ.base b = σ.base b ∧ ρ.tot b = σ.tot b ∧ ρ.es b = σ.es b
def Ind (A : B → Prop) (v : V) : Prop := ∀ ρ σ, AgA A ρ σ → conc ρ v = conc σ v
theorem AgA.mono {A A' : B → Prop} {ρ σ : Rho} (h : AgA A' ρ σ) (s : ∀ b, A b → A' b) : AgA A ρ σ := fun b hb => h b (s b hb)
theorem AgA.symm {A : B → Prop} {ρ σ : Rho} (h : AgA A ρ σ) : AgA A σ ρ := fun b hb => by obtain ⟨a, b, c, d⟩ := h b hb; exact ⟨a.symm, b.symm, c.symm, d.symm⟩
theorem Ind.mono {A A' : B → Prop} {v : V} (h : Ind A v) (s : ∀ b, A b → A' b) : Ind A' v := fun ρ σ q => h ρ σ (q.mono s)
theorem Ind.of_bd {A : B → Prop} {n : Nat} {v : V} (h : Bd n v) (s : ∀ b : B, b.toN < n → A b) : Ind A v := fun ρ σ q => (conc_agree (n := n) (fun b hb => q b (s b hb)) v h).1
section
variable (P : Program) (tt : TT)
/-- an object that is no loop and no block of marks -/
def Pln : O → Prop | .emp => True | .cells _ _ _ => True | .map _ _ => True | _ => False
def IndO (A : B → Prop) (nm : B) (o : O) : Prop := ∀ ρ σ w w', AgA A ρ σ → (∀ X, w.heap[ρ.blk nm]? = some X → w'.heap[ρ.blk nm]? = some X) → Real P tt ρ w nm o → Real P tt σ w' nm o
end
section
variable {P : Program} {tt : TT} {ρ ρ' : Rho} {h h' : H} {w w' : World} {v : V} {f : FR} {e : V} {inv : Inv} {r : Operand → Option Rf}
theorem IndO.mono {A A' : B → Prop} {nm : B} {o : O} (h : IndO P tt A nm o) (s : ∀ b, A b → A' b) : IndO P tt A' nm o := fun ρ σ w w' q => h ρ σ w w' (q.mono s)
theorem Pln.live {o : O} (h : Pln o) {nm : B} (σ : Rho) (l : Live ρ nm o) : Live σ nm o := by cases o <;> first | exact l | exact h.elim
theorem NV.ind {nm : B} {v : V} (h : NV nm v) {A : B → Prop} (hA : A nm) : Ind A v := by
  intro ρ σ q
  obtain ⟨q1, q2, q3, q4⟩ := q nm hA
  rcases h with rfl | ⟨n, c, rfl⟩ | rfl
  · simp only [conc, Rho.addr, q1, q2]
  · simp only [conc, Rho.addr, q1, q2]; cases c <;> simp only [capOf, q3]
  · simp only [conc, q1]
/-- what the operands are taken to be, by a map -/
noncomputable def EV (r : Operand → Option Rf) (ρ : Rho) (f : FR) (e : V) (d : Operand → Value) (x : Operand) : Value := match r x with | some q => conc ρ (q.ev f e) | none => d x
def RBd (r : Operand → Option Rf) (m : Nat) (f : FR) (e : V) : Prop := ∀ x q, r x = some q → Bd m (q.ev f e)
theorem EV.ops {m : Nat} {d : Operand → Value} (hb : RBd r m f e) : Ops r (EV r ρ f e d) ρ m f e := fun x q hq => ⟨by unfold EV; rw [hq], hb x q hq⟩
def OpI (A : B → Prop) (r : Operand → Option Rf) (o : Oper) (f : FR) (e : V) : Prop := ∀ x ∈ o.op.operands, ∀ q, r x = some q → Ind A (q.ev f e)
def OpC (a : Act) (ρ : Rho) (r : Operand → Option Rf) (o : Oper) (f : FR) (e : V) : Prop := ∀ x ∈ o.op.operands, ∀ q, r x = some q → a.eval x = conc ρ (q.ev f e)
theorem EV.of_opc {a : Act} {o : Oper} (h : OpC a ρ r o f e) : ∀ x ∈ o.op.operands, a.eval x = EV r ρ f e a.eval x := fun x hx => by
  unfold EV
  cases hq : r x with
  | none => rfl
  | some q => exact h x hx q hq
theorem EV.of_ind {A : B → Prop} {o : Oper} {σ : Rho} {d : Operand → Value} (h : OpI A r o f e) (q : AgA A ρ σ) : ∀ x ∈ o.op.operands, EV r ρ f e d x = EV r σ f e d x := fun x hx => by
  unfold EV
  cases hq : r x with
  | none => rfl
  | some p => exact h x hx p hq ρ σ q
theorem nosel {o : Oper} {io : IOp} (hc : cio tt r o.op = some io) (he : opT inv io f e h = .ok v h') : ∀ cs b, o.op ≠ .select cs b := fun cs b q => by rw [q] at hc; cases hc; cases he
/-- a pure operation's result hangs on what its operands hang on -/
theorem pure_ind (tk : TTok P tt) {m : Nat} (hb : RBd r m f e) {o : Oper} {io : IOp} (hk : ko tt o = .p) (hc : cio tt r o.op = some io) (he : opT inv io f e h = .ok v h') {A : B → Prop} (hi : OpI A r o f e) (w : World) : Ind A v := by
  intro ρ σ q
  have h1 := (pure_ok tk (EV.ops (ρ := ρ) (d := fun _ => undef) hb) hk hc he).2.2 w
  have h2 := (pure_ok tk (EV.ops (ρ := σ) (d := fun _ => undef) hb) hk hc he).2.2 w
  rw [execOp_congr o (nosel hc he) (EV.of_ind hi q), h2] at h1
  simp only [Result.ok.injEq, Next.value.injEq, and_true] at h1
  exact h1.symm
theorem pure_run (tk : TTok P tt) {m : Nat} (hb : RBd r m f e) {o : Oper} {io : IOp} (hk : ko tt o = .p) (hc : cio tt r o.op = some io) (he : opT inv io f e h = .ok v h') {a : Act} (hi : OpC a ρ r o f e) (w : World) :
    (execOp a.eval o).run P w = .ok (.value (conc ρ v)) w := by
  rw [execOp_congr o (nosel hc he) (EV.of_opc hi)]
  exact (pure_ok tk (EV.ops hb) hk hc he).2.2 w
theorem read_run (tk : TTok P tt) (g : G P tt ρ h w) (hb : RBd r h.next.toN f e) {o : Oper} {io : IOp} (hk : ko tt o = .r) (hc : cio tt r o.op = some io) (he : opT inv io f e h = .ok v h') {a : Act} (hi : OpC a ρ r o f e) :
    (execOp a.eval o).run P w = .ok (.value (conc ρ v)) w ∧ Bd h.next.toN v := by
  rw [execOp_congr o (nosel hc he) (EV.of_opc hi)]
  obtain ⟨_, h2, h3⟩ := read_ok tk g (EV.ops hb) hk hc he
  exact ⟨h3, h2⟩
theorem add_ne (h : H) (o : O) : h.add o ≠ h := fun e => by
  have := H.next_add o h
  rw [e] at this; omega
theorem add_inj {h : H} {o o' : O} (e : h.add o = h.add o') : o = o' := by
  have := H.get_add_same o h
  rw [e, H.get_add_same] at this
  exact this.symm
theorem NX.pln {n : Nat} {o : O} {X : Obj} {es : Nat} (h : NX P ρ n o X es) : Pln o := by
  rcases h with ⟨vs, t, i, rfl, _⟩ | ⟨rfl, _⟩ <;> exact trivial
/-- what is made is real on its own block -/
theorem NX.real {n : Nat} {o : O} {X : Obj} {es : Nat} (h : NX P ρ n o X es) {nm : B} (hn : n ≤ nm.toN) {blk : Nat} (hw : w.heap[blk]? = some X) : Real P tt (ρ.upd nm blk 0 (dimX X) es false) w nm o := by
  rcases h with ⟨vs, t, i, rfl, rfl, hi, rfl, hb, ho⟩ | ⟨rfl, rfl, rfl⟩
  · have heq := (conc_agree ((ρ.upd_agree nm blk 0 (dimX (.cells (concL ρ vs).toArray t (0, 0))) i.size false).mono hn) vs hb).2
    refine ⟨(concL ρ vs).toArray, by simp only [Rho.upd, if_true]; exact hw, by simp [Rho.upd, dimX], fun _ => ⟨by rw [← heq]; simp [Rho.upd, dimX], by simp [Rho.upd]⟩, ⟨i, hi, by simp [Rho.upd]⟩, fun k x hx => ?_⟩
    rw [← heq] at hx
    simp only [Rho.upd, if_true, Nat.zero_add]
    simpa using hx
  · show w.heap[(ρ.upd nm blk 0 0 0 false).blk nm]? = _
    simp only [Rho.upd, if_true]
    rw [hw]; simp [concM]
/-- **an operation that makes an object, or none**: its result, and its object, hang on what its operands hang on, and on the new name -/
theorem new_ind (tk : TTok P tt) (hb : RBd r h.next.toN f e) {o : Oper} {io : IOp} (hk : ko tt o = .n) (hc : cio tt r o.op = some io) (he : opT inv io f e h = .ok v h') {A : B → Prop} (hi : OpI A r o f e) (w0 : World) :
    (h' = h ∧ Ind A v ∧ ∀ (ρ : Rho) (a : Act), OpC a ρ r o f e → ∀ w, (execOp a.eval o).run P w = .ok (.value (conc ρ v)) w) ∨
    (∃ x, h' = h.add x ∧ Pln x ∧ (∀ A' : B → Prop, (∀ b, A b → A' b) → A' h.next → Ind A' v ∧ IndO P tt A' h.next x) ∧ ∀ (ρ : Rho) (a : Act), OpC a ρ r o f e → ∀ w, ∃ blk base tot es w',
      (execOp a.eval o).run P w = .ok (.value (conc (ρ.upd h.next blk base tot es false) v)) w' ∧ Real P tt (ρ.upd h.next blk base tot es false) w' h.next x ∧
      ((w' = w ∧ x = .emp) ∨ ∃ X, w' = w.alloc X ∧ blk = w.heap.size)) := by
  have run : ∀ (ρ : Rho) (d : Operand → Value), NwN P (execOp (EV r ρ f e d) o) ρ v h h' := fun ρ d => new_ok tk (EV.ops hb) hk hc he
  have cg : ∀ (ρ : Rho) (a : Act), OpC a ρ r o f e → execOp a.eval o = execOp (EV r ρ f e a.eval) o := fun ρ a q => execOp_congr o (nosel hc he) (EV.of_opc q)
  have ci : ∀ (ρ σ : Rho), AgA A ρ σ → execOp (EV r ρ f e fun _ => undef) o = execOp (EV r σ f e fun _ => undef) o := fun ρ σ q => execOp_congr o (nosel hc he) (EV.of_ind hi q)
  rcases run ⟨fun _ => 0, fun _ => 0, fun _ => 0, fun _ => 0, fun _ => false⟩ (fun _ => undef) with ⟨e1, _⟩ | ⟨_, _, _, _, c, e1, e2, _⟩ | ⟨x, X0, _, e1, e2, e3, _⟩
  · have key : ∀ (ρ : Rho) (d : Operand → Value) w, (execOp (EV r ρ f e d) o).run P w = .ok (.value (conc ρ v)) w := by
      intro ρ d w
      rcases run ρ d with ⟨_, _, q⟩ | ⟨_, _, _, _, _, q, _⟩ | ⟨x, _, _, q, _⟩
      · exact q w
      · rw [e1] at q; exact absurd q.symm (add_ne _ _)
      · rw [e1] at q; exact absurd q.symm (add_ne _ _)
    refine .inl ⟨e1, fun ρ σ q => ?_, fun ρ a q w => by rw [cg ρ a q]; exact key ρ _ w⟩
    have h1 := key ρ (fun _ => undef) w0
    rw [ci ρ σ q, key σ] at h1
    simp only [Result.ok.injEq, Next.value.injEq, and_true] at h1
    exact h1.symm
  · refine .inr ⟨.emp, e1, trivial, fun A' hA hn => ⟨NV.ind (.inr (.inl ⟨_, _, e2⟩)) hn, fun _ _ _ _ _ _ _ => trivial⟩, fun ρ a q w => ?_⟩
    rcases run ρ a.eval with ⟨q1, _⟩ | ⟨blk, base, tot, es, _, q1, _, q3⟩ | ⟨x, X, _, q1, q2, _⟩
    · rw [e1] at q1; exact absurd q1 (add_ne _ _)
    · exact ⟨blk, base, tot, es, w, by rw [cg ρ a q]; exact q3 w, trivial, .inl ⟨rfl, rfl⟩⟩
    · rw [e1] at q1
      have := add_inj q1
      subst this
      rcases q2 with ⟨_, _, _, z, _⟩ | ⟨z, _⟩ <;> cases z
  · have key : ∀ (ρ : Rho) (d : Operand → Value), ∃ X es, NX P ρ h.next.toN x X es ∧ ∀ w, (execOp (EV r ρ f e d) o).run P w = .ok (.value (conc (ρ.upd h.next w.heap.size 0 (dimX X) es false) v)) (w.alloc X) := by
      intro ρ d
      rcases run ρ d with ⟨q, _⟩ | ⟨_, _, _, _, _, q, _⟩ | ⟨x', X, es, q1, q2, q3, q4⟩
      · rw [e1] at q; exact absurd q (add_ne _ _)
      · rw [e1] at q
        have := add_inj q
        subst this
        rcases e2 with ⟨_, _, _, z, _⟩ | ⟨z, _⟩ <;> cases z
      · rw [e1] at q1
        have := add_inj q1
        subst this
        exact ⟨X, es, q2, q4⟩
    refine .inr ⟨x, e1, e2.pln, fun A' hA hn => ⟨e3.ind hn, fun ρ σ w w' q hw hr => ?_⟩, fun ρ a q w => ?_⟩
    · obtain ⟨X1, es1, n1, r1⟩ := key ρ (fun _ => undef)
      obtain ⟨X2, es2, n2, r2⟩ := key σ (fun _ => undef)
      have hX := r1 w0
      rw [ci ρ σ (q.mono hA), r2 w0] at hX
      simp only [Result.ok.injEq] at hX
      have hX : X2 = X1 := by
        have h3 := congrArg (fun z : World => z.heap[w0.heap.size]?) hX.2
        simp only [World.alloc_heap_new, Option.some.injEq] at h3
        exact h3
      obtain ⟨p1, p2, p3, p4⟩ := q _ hn
      rcases n1 with ⟨vs, t, i, rfl, rfl, _⟩ | ⟨rfl, rfl, _⟩
      · rcases n2 with ⟨vs', t', i', z1, rfl, _⟩ | ⟨z, _⟩
        · cases z1
          have hl : concL σ vs = concL ρ vs := by
            have := (Obj.cells.inj hX).1
            simpa using congrArg Array.toList this
          obtain ⟨C, c1, c2, c3, c4, c5⟩ := hr
          refine ⟨C, by rw [← p1]; exact hw _ c1, by rw [← p2, ← p3]; exact c2, by rw [hl, ← p2, ← p3]; exact c3, by rw [← p4]; exact c4, by rw [hl, ← p2]; exact c5⟩
        · cases z
      · show w'.heap[σ.blk _]? = _
        rw [← p1]
        exact hw _ hr
    · obtain ⟨X, es, n1, r1⟩ := key ρ a.eval
      refine ⟨w.heap.size, 0, dimX X, es, w.alloc X, by rw [cg ρ a q]; exact r1 w, n1.real (Nat.le_refl _) (World.alloc_heap_new _ _), .inr ⟨X, rfl, rfl⟩⟩
end
end Go.Ads
