/-
  An interpreter of plain data for code without loose ends (Go.Ads), and that what it computes the program answers. Part 7. It says something of a program whose code compiles to it, no other condition.
-/
import Derived.Test.YtmmhemfpbgobgaaGreatDoorAds6
import Derived.Lib.ItoaNum
import Derived.Lib.LaidTab
import Derived.Sort.Grow
import Derived.Deep.Draws
import Derived.RowKit3
set_option linter.unusedVariables false
set_option linter.unusedSimpArgs false
set_option linter.unusedSectionVars false
set_option autoImplicit false
set_option linter.unusedSimpArgs false
set_option linter.unusedVariables false
namespace Go.Ads
section
variable {P : Program} {tt : TT} {ρ : Rho} {h h' : H} {w w' : World} {v : V}
/-- new blocks that nothing names -/
theorem Step.wide (g : G P tt ρ h w) (hw : ∀ r, r < w.heap.size → w'.heap[r]? = w.heap[r]?) (hs : w.heap.size ≤ w'.heap.size) (ho : w'.os = w.os) (hou : w'.output = w.output) (ht : w'.tape = w.tape) : Step P tt ρ h w ρ h w' :=
  ⟨Nat.le_refl _, .refl _ _ _, ⟨fun b => by
    rcases Nat.lt_or_ge b.toN h.next.toN with q | q
    · exact (g.real b).move (.refl _ _) q rfl (g.bd b) fun l => hw _ ((g.real b).lt l)
    · rw [g.none b q]; trivial, g.inj, g.bd, g.none⟩, fun r hr _ => hw r hr, hs, fun b l _ => ⟨b, l, rfl⟩, fun _ h => h, fun _ h => h, ho, hou, ht, fun b r vs hb => ⟨hb, hw r (g.glb hb).2.1⟩⟩
theorem one_arg {as : V} (hl : Nat.beq (lenV as) 1 = true) : concL ρ as = [conc ρ as.hd] := by
  have := Nat.eq_of_beq_eq_true hl
  rw [lenV_eq (ρ := ρ)] at this
  cases hc : concL ρ as with
  | nil => rw [hc] at this; cases this
  | cons x l =>
    rw [hc] at this
    cases l with
    | nil => rw [hd_spec hc]
    | cons y l => simp at this
theorem isNilp_ok {v : V} (h : isNilp v = true) : ∃ u, v = .x .nilp u := by
  cases v with
  | x t u => cases t <;> first | exact ⟨_, rfl⟩ | cases h
  | _ => cases h
/-- **copyCheck** -/
theorem check_ok {T cid : Nat} (fresh : ∀ (b : Nat) (w : World), w.cell? ⟨b, 0, none⟩ = some (.pointer none) → w.shape? b = some (T, 2) → w.frozen? ⟨b, 0, none⟩ = false →
      Calls P cid #[.pointer (some ⟨b, 0, none⟩)] w fun e w' => e = .returned (.tuple #[]) ∧ w' = w.setCell ⟨b, 0, none⟩ (.pointer (some ⟨b, 0, none⟩)))
    (used : ∀ (b : Nat) (w : World), w.cell? ⟨b, 0, none⟩ = some (.pointer (some ⟨b, 0, none⟩)) → Calls P cid #[.pointer (some ⟨b, 0, none⟩)] w fun e w' => e = .returned (.tuple #[]) ∧ w' = w)
    {F : Fence} (hF : Open F) {as : V} (he : pCheck T as h = .ok v h') (g : G P tt ρ h w) (ba : Bd h.next.toN as) : CallsIn F 0 P cid (concL ρ as).toArray w (Fin P tt ρ h w v h') := by
  obtain ⟨hl, e2⟩ := iff_ok he
  obtain ⟨b, off, ea, e3⟩ := toPtr_ok e2
  obtain ⟨ho, e4⟩ := iff_ok e3
  have ho := Nat.eq_of_beq_eq_true ho
  subst ho
  obtain ⟨vs, t, gr, hb, e5⟩ := onCells_ok e4
  obtain ⟨ht, e6⟩ := iff_ok e5
  have ht := Nat.eq_of_beq_eq_true ht
  subst ht
  obtain ⟨hv2, e7⟩ := iff_ok e6
  have hv2 := Nat.eq_of_beq_eq_true hv2
  rw [lenV_eq (ρ := ρ)] at hv2
  cases gr with
  | true => cases e7
  | false =>
    have hreal := g.real b
    rw [hb] at hreal
    obtain ⟨C, r1, r2, r3, r4, r5⟩ := hreal
    obtain ⟨r31, r32⟩ := r3 rfl
    have hC : C.size = 2 := by omega
    have addr : ρ.addr b 0 = ⟨ρ.blk b, 0, none⟩ := by simp [Rho.addr, r32]
    have harg : (concL ρ as).toArray = #[.pointer (some ⟨ρ.blk b, 0, none⟩)] := by rw [one_arg hl, ea]; simp [conc, addr]
    rw [harg]
    have hbd := g.bd b
    rw [hb] at hbd
    have hblt : b.toN < h.next.toN := g.lt_of (by rw [hb]; intro q; cases q)
    cases hn : isNilp vs.hd with
    | false =>
      rw [hn] at e7
      obtain ⟨q1, q2⟩ := iff_ok (show iff (vEq (.ptr b 0) vs.hd) (.ok .un h) = .ok v h' from e7)
      obtain ⟨rfl, rfl⟩ := or_ok q2
      have hvh := vEq_ok q1
      have hcell : w.cell? ⟨ρ.blk b, 0, none⟩ = some (.pointer (some ⟨ρ.blk b, 0, none⟩)) := by
        have h0 : (concL ρ vs)[0]? = some (conc ρ vs.hd) := by
          cases vs with
          | cn x y => simp [V.hd]
          | _ => simp [concL] at hv2
        rw [← hvh] at h0
        have := g.cell hb h0
        rw [addr] at this
        rw [this]; simp [conc, addr]
      refine CallsIn.mono (hF.calls (used (ρ.blk b) w hcell)) ?_
      rintro e w' ⟨rfl, rfl⟩
      exact ⟨ρ, by rw [conc_un]; rfl, Step.refl g, trivial⟩
    | true =>
      rw [hn] at e7
      obtain ⟨x, y, hxy, q2⟩ := onCn_ok (show onCn (fun _ t' => .ok .un (h.set b (.cells (.cn (.ptr b 0) t') t false))) vs = .ok v h' from e7)
      obtain ⟨rfl, rfl⟩ := or_ok q2
      subst hxy
      obtain ⟨u, hx⟩ := isNilp_ok hn
      have hx : x = .x .nilp u := hx
      subst hx
      have hcell : w.cell? ⟨ρ.blk b, 0, none⟩ = some (.pointer none) := by
        have := g.cell hb (i := 0) (x := .pointer none) (by simp [conc])
        rwa [addr] at this
      refine CallsIn.mono (hF.calls (fresh (ρ.blk b) w hcell (by simp [World.shape?, r1, hC]) (by simp [World.frozen?, r1]))) ?_
      rintro e w' ⟨rfl, rfl⟩
      have hset : (w.setCell ⟨ρ.blk b, 0, none⟩ (.pointer (some ⟨ρ.blk b, 0, none⟩))).heap[ρ.blk b]? = some (.cells (C.setIfInBounds 0 (.pointer (some ⟨ρ.blk b, 0, none⟩))) t (0, 0)) := by
        simp [World.setCell, Array.getElem?_modify, r1]
      refine ⟨ρ, by rw [conc_un]; rfl, Step.set g (by rw [hb]; trivial) (fun r hr => ?_) (by simp [World.setCell]) rfl rfl rfl ⟨⟨hblt, hbd.1.2⟩, ⟨trivial, hbd.2.2⟩⟩ ?_ (by rw [hb]; intro q; cases q) (by rw [hb]; intro q; cases q), trivial⟩
      · simp only [World.setCell, Array.getElem?_modify]
        rw [if_neg (fun q => hr q.symm)]
      · refine ⟨_, hset, by simpa using r2, fun _ => ⟨?_, r32⟩, r4, fun i z hz => ?_⟩
        · rw [← r31]; simp
        · rw [concL_cn] at hz
          cases i with
          | zero =>
            simp only [List.getElem?_cons_zero, Option.some.injEq] at hz
            subst hz
            rw [r32]
            have : (0 : Nat) < C.size := by omega
            simp [this, conc, addr]
          | succ i =>
            simp only [List.getElem?_cons_succ] at hz
            have := r5 (i + 1) z (by rw [concL_cn]; simpa using hz)
            rw [r32] at this ⊢
            rw [Array.getElem?_setIfInBounds_ne (by omega)]; exact this
theorem dig2_ok {i : Nat} (h : i < 100) : (dig2 i).map UInt8.ofNat = Lib.decDigits i := by
  unfold dig2
  cases hb : Nat.blt i 10 with
  | true =>
    have : i < 10 := Nat.le_of_ble_eq_true hb
    rw [Lib.decDigits, dif_pos this]
    rfl
  | false =>
    have h10 : ¬ i < 10 := fun q => by rw [show Nat.blt i 10 = true from Nat.ble_eq_true_of_le q] at hb; cases hb
    rw [Lib.decDigits, dif_neg h10, Lib.decDigits, dif_pos (by omega)]
    rfl
theorem powL_conc : ∀ l : List Nat, concL ρ (powL l) = l.map fun n : Nat => Value.int .u64 (n : Int) := by
  intro l
  induction l with
  | nil => simp [powL]
  | cons n l ih => simp only [powL, concL_cn, ih, List.map_cons, conc]; rfl
theorem powV_tab : concL ρ powV = Lib.pow10Tab.map (Value.int .u64) := by
  unfold powV
  rw [powL_conc]
  rfl
/-- **Itoa, of small numbers** -/
theorem itoa_ok {gid iid : Nat} {name : String} (hg : P.globalNamed name = some gid)
    (small : ∀ (i : Nat), i < 100 → ∀ w : World, Calls P iid #[.int .i64 i] w fun e w' => e = .returned (.string ⟨(Lib.decDigits i).toArray⟩) ∧ w' = w)
    (any : ∀ (n : Int), -9223372036854775808 ≤ n → n ≤ 9223372036854775807 → ∀ w : World, Lib.TabIs P w name .u64 Lib.pow10Tab →
      Calls P iid #[.int .i64 n] w fun e w' => e = .returned (.string ⟨(Lib.itoa n).toArray⟩) ∧ ∃ k os, w' = Sort.grow (w.drewN k) os)
    {F : Fence} (hF : Open F) {as : V} (he : pItoa gid as h = .ok v h') (g : G P tt ρ h w) : CallsIn F 0 P iid (concL ρ as).toArray w (Fin P tt ρ h w v h') := by
  obtain ⟨hl, e2⟩ := iff_ok he
  obtain ⟨k, n, ea, e3⟩ := toInt_ok e2
  obtain ⟨hk, e4⟩ := iff_ok e3
  have hk := keq_eq hk
  subst hk
  have harg : (concL ρ as).toArray = #[.int .i64 n] := by rw [one_arg hl, ea]; simp [conc]
  rw [harg]
  cases n with
  | ofNat m =>
    obtain ⟨hm, e5⟩ := iff_ok (show iff (Nat.blt m 100) (.ok (.str (dig2 m)) h) = .ok v h' from e4)
    have hm : m < 100 := Nat.le_of_ble_eq_true hm
    obtain ⟨rfl, rfl⟩ := or_ok e5
    refine CallsIn.mono (hF.calls (small m hm w)) ?_
    rintro e w' ⟨rfl, rfl⟩
    exact ⟨ρ, by simp only [conc]; rw [dig2_ok hm], Step.refl g, trivial⟩
  | negSucc m =>
    obtain ⟨hm, e5⟩ := iff_ok (show iff (Nat.blt m 99) (onGlb (fun r vs => iff (Nat.beq r gid) (iff (vEq vs powV) (.ok (.str (45 :: dig2 (Nat.add m 1))) h))) (h.get .one)) = .ok v h' from e4)
    have hm : m < 99 := Nat.le_of_ble_eq_true hm
    cases hone : h.get .one with
    | glb r vs =>
      rw [hone] at e5
      obtain ⟨hr, e6⟩ := iff_ok (show iff (Nat.beq r gid) (iff (vEq vs powV) (.ok (.str (45 :: dig2 (Nat.add m 1))) h)) = .ok v h' from e5)
      obtain ⟨hvs, e7⟩ := iff_ok e6
      obtain ⟨rfl, rfl⟩ := or_ok e7
      have hr := Nat.eq_of_beq_eq_true hr
      have hvs := vEq_ok hvs
      subst hr hvs
      have hreal := g.real .one
      rw [hone] at hreal
      obtain ⟨_, t, fr, hh⟩ := hreal
      have htab : Lib.TabIs P w name .u64 Lib.pow10Tab := by
        unfold Lib.TabIs World.var?
        rw [hg]
        simp only [Option.bind_some, hh, powV_tab]
      refine CallsIn.mono (hF.calls (any (.negSucc m) (by omega) (by omega) w htab)) ?_
      rintro e w' ⟨rfl, k, os, rfl⟩
      refine ⟨ρ, ?_, Step.wide g (fun r hr => ?_) (by simp [Sort.grow, World.drewN]) rfl rfl rfl, trivial⟩
      · simp only [conc]
        have : Lib.itoa (.negSucc m) = 45 :: Lib.decDigits (m + 1) := by
          unfold Lib.itoa
          rw [if_pos (Int.negSucc_lt_zero m)]
          rfl
        rw [this, ← dig2_ok (i := m + 1) (by omega)]
        rfl
      · show (w.heap ++ os)[r]? = _
        rw [Array.getElem?_append_left hr]
    | _ => rw [hone] at e5; cases e5
end
end Go.Ads
set_option autoImplicit false
set_option linter.unusedSimpArgs false
set_option linter.unusedVariables false
namespace Go.Ads

/-! ### A long run, cut into parts -/
/-- what of memory is forgotten -/
def Sub (h h' : H) : Prop := h'.next = h.next ∧ (∀ b, h'.get b = .gone ∨ h'.get b = h.get b) ∧ h'.get .one = h.get .one
structure StepS (P : Program) (tt : TT) (ρ : Rho) (h : H) (w : World) (ρ' : Rho) (h' : H) (w' : World) : Prop where
  le : h.next.toN ≤ h'.next.toN
  lo : ρ.Agree h.next.toN ρ'
  g : G P tt ρ' h' w'
  frame : ∀ r, r < w.heap.size → (∀ b, Live ρ b (h.get b) → ρ.blk b ≠ r) → w'.heap[r]? = w.heap[r]?
  size : w.heap.size ≤ w'.heap.size
  fresh : ∀ b, Live ρ' b (h'.get b) → ρ'.blk b < w.heap.size → ∃ c, Live ρ c (h.get c) ∧ ρ.blk c = ρ'.blk b
  os : w'.os = w.os
  out : w'.output = w.output
  tape : w'.tape = w.tape
  glbs : ∀ r vs, h.get .one = .glb r vs → h'.get .one = .glb r vs ∧ w'.heap[r]? = w.heap[r]?
section
variable {P : Program} {tt : TT} {ρ ρ' ρ'' : Rho} {h h' h'' : H} {w w' w'' : World} {tn : List Nat} {nt : Nat} {hint : Nat → List Nat} {inv : Inv} {N : Nat}
theorem G.sub (g : G P tt ρ h w) (s : Sub h h') : G P tt ρ h' w := by
  have lv : ∀ b, Live ρ b (h'.get b) → Live ρ b (h.get b) := fun b l => by
    rcases s.2.1 b with e | e
    · rw [e] at l; exact l.elim
    · rw [e] at l; exact l
  refine ⟨fun b => ?_, fun b c lb lc e => g.inj b c (lv b lb) (lv c lc) e, fun b => ?_, fun b hb => ?_⟩
  · rcases s.2.1 b with e | e
    · rw [e]; trivial
    · rw [e]; exact g.real b
  · rw [s.1]
    rcases s.2.1 b with e | e
    · rw [e]; trivial
    · rw [e]; exact g.bd b
  · rw [s.1] at hb
    rcases s.2.1 b with e | e
    · exact e
    · rw [e]; exact g.none b hb
theorem Step.toS (s : Step P tt ρ h w ρ' h' w') : StepS P tt ρ h w ρ' h' w' := ⟨s.le, s.keep.lo, s.g, s.frame, s.size, s.fresh, s.os, s.out, s.tape, fun r vs hb => s.glbs .one r vs hb⟩
theorem StepS.sub (s : StepS P tt ρ h w ρ' h' w') (q : Sub h' h'') : StepS P tt ρ h w ρ' h'' w' :=
  ⟨by rw [q.1]; exact s.le, s.lo, s.g.sub q, s.frame, s.size, fun b l hlt => by
    rcases q.2.1 b with e | e
    · rw [e] at l; exact l.elim
    · rw [e] at l; exact s.fresh b l hlt, s.os, s.out, s.tape, fun r vs hb => ⟨q.2.2.trans (s.glbs r vs hb).1, (s.glbs r vs hb).2⟩⟩
theorem StepS.trans (s : StepS P tt ρ h w ρ' h' w') (t : StepS P tt ρ' h' w' ρ'' h'' w'') : StepS P tt ρ h w ρ'' h'' w'' where
  le := Nat.le_trans s.le t.le
  lo := s.lo.trans (t.lo.mono s.le)
  g := t.g
  frame := fun r hr hl => by
    rw [t.frame r (Nat.lt_of_lt_of_le hr s.size) (fun b hb e => by
      obtain ⟨c, hc, ec⟩ := s.fresh b hb (e ▸ hr)
      exact hl c hc (ec.trans e)), s.frame r hr hl]
  size := Nat.le_trans s.size t.size
  fresh := fun b hb hlt => by
    obtain ⟨c, hc, ec⟩ := t.fresh b hb (Nat.lt_of_lt_of_le hlt s.size)
    obtain ⟨d, hd, ed⟩ := s.fresh c hc (ec ▸ hlt)
    exact ⟨d, hd, ed.trans ec⟩
  os := t.os.trans s.os
  out := t.out.trans s.out
  tape := t.tape.trans s.tape
  glbs := fun r vs hb => ⟨(t.glbs r vs (s.glbs r vs hb).1).1, (t.glbs r vs (s.glbs r vs hb).1).2.trans (s.glbs r vs hb).2⟩
def AftS (P : Program) (tt : TT) (tn : List Nat) (nt : Nat) (ρ : Rho) (h : H) (w : World) (df : List Deferred) (f' : FR) (h' : H) (a' : Act) (w' : World) : Prop :=
  ∃ ρ', StepS P tt ρ h w ρ' h' w' ∧ FrRel ρ' tn nt a'.tmps f' ∧ BdF h'.next.toN f' ∧ a'.defers = df
def CQS (P : Program) (tt : TT) (tn : List Nat) (nt : Nat) (ρ : Rho) (h : H) (w : World) (df : List Deferred) (r : R) (Q : Exit → Act → World → Prop) : Prop := match r with
  | .bad => False
  | .nrm f' h' => ∀ a' w', AftS P tt tn nt ρ h w df f' h' a' w' → Q .normal a' w'
  | .ret f' h' => ∀ a' w', AftS P tt tn nt ρ h w df f' h' a' w' → Q .ret a' w'
  | .ex id f' h' => ∀ a' w', AftS P tt tn nt ρ h w df f' h' a' w' → Q (.exit id) a' w'
theorem AftS.of {ρ1 : Rho} {h0 h1 h2 : H} {w0 w1 w2 : World} {d : List Deferred} {f2 : FR} {a2 : Act} (s : StepS P tt ρ h0 w0 ρ1 h1 w1) (k : AftS P tt tn nt ρ1 h1 w1 d f2 h2 a2 w2) : AftS P tt tn nt ρ h0 w0 d f2 h2 a2 w2 := by
  obtain ⟨ρ2, t, fr, bf, e⟩ := k
  exact ⟨ρ2, s.trans t, fr, bf, e⟩
theorem CQS.of {ρ1 : Rho} {h0 h1 : H} {w0 w1 : World} {d : List Deferred} {r : R} {Q : Exit → Act → World → Prop} (s : StepS P tt ρ h0 w0 ρ1 h1 w1) (k : CQS P tt tn nt ρ h0 w0 d r Q) : CQS P tt tn nt ρ1 h1 w1 d r Q := by
  cases r with
  | bad => exact k.elim
  | nrm f' h' => exact fun a' w' q => k a' w' (q.of s)
  | ret f' h' => exact fun a' w' q => k a' w' (q.of s)
  | ex id f' h' => exact fun a' w' q => k a' w' (q.of s)
/-- **code comes from a state to a result** -/
def Dz (P : Program) (tt : TT) (tn : List Nat) (nt : Nat) (hint : Nat → List Nat) (cd : Cd) (f : FR) (h : H) (r : R) : Prop := ∀ c, comp tt tn nt hint c = some cd → ∀ Q ρ w a, G P tt ρ h w → FrRel ρ tn nt a.tmps f → BdF h.next.toN f →
  CQS P tt tn nt ρ h w a.defers r Q → c.wpIn Fence.wide 0 P Q a w
theorem Dz.run (tk : TTok P tt) (dk : DrawOk P tt) (hi : InvOk P tt inv) {cd : Cd} {f : FR} {h : H} (hn : cd.norf = true) : Dz P tt tn nt hint cd f h (cd.run inv N f h) := by
  intro c hc Q ρ w a g fr bf K
  have w2 : ∀ f' h' a' w', Aft P tt tn nt true ρ h w a.defers f' h' a' w' → AftS P tt tn nt ρ h w a.defers f' h' a' w' := by
    rintro f' h' a' w' ⟨ρ', s, q1, q2, _, q3⟩
    exact ⟨ρ', s.toS, q1, q2, q3 rfl⟩
  refine code_ok (N := N) (nb := true) tk dk hi wide_open c cd Q ρ h w a f _ hc rfl g (.inl rfl) fr bf (fun _ => hn) ?_
  cases hr : cd.run inv N f h with
  | bad => rw [hr] at K; exact K
  | nrm f' h' => rw [hr] at K; exact fun a' w' q => K a' w' (w2 _ _ _ _ q)
  | ret f' h' => rw [hr] at K; exact fun a' w' q => K a' w' (w2 _ _ _ _ q)
  | ex id f' h' => rw [hr] at K; exact fun a' w' q => K a' w' (w2 _ _ _ _ q)
theorem Dz.conv {cd : Cd} {f f' f1 : FR} {h h' h1 : H} (d : Dz P tt tn nt hint cd f h (.nrm f' h')) (hf : ∀ s : Sl, s.get f1 = s.get f') (hs : Sub h' h1) : Dz P tt tn nt hint cd f h (.nrm f1 h1) := by
  intro c hc Q ρ w a g fr bf K
  refine d c hc Q ρ w a g fr bf fun a' w' q => ?_
  obtain ⟨ρ', s, q1, q2, q3⟩ := q
  exact K a' w' ⟨ρ', s.sub hs, ⟨q1.1, fun t s' h' => by rw [hf]; exact q1.2 t s' h'⟩, fun s' => by rw [hf, hs.1]; exact q2 s', q3⟩
theorem comp_seq {c : Code} {x y : Cd} (h : comp tt tn nt hint c = some (.seq x y)) : ∃ a b, c = .seq a b ∧ comp tt tn nt hint a = some x ∧ comp tt tn nt hint b = some y := by
  cases c with
  | seq a b =>
    simp only [comp] at h
    split at h
    · rename_i x' hx
      split at h
      · rename_i y' hy; cases h; exact ⟨a, b, rfl, hx, hy⟩
      · cases h
    · cases h
  | region id ops draw =>
    cases draw with
    | false => simp only [comp] at h; split at h <;> cases h
    | true =>
      simp only [comp] at h
      split at h
      · split at h <;> cases h
      · cases h
  | cond x' a b =>
    simp only [comp] at h
    split at h
    · split at h
      · split at h <;> cases h
      · cases h
    · cases h
  | block id a => simp only [comp] at h; split at h <;> cases h
  | loop a => simp only [comp] at h; split at h <;> cases h
  | rangeFunc g ps as bd =>
    simp only [comp] at h
    split at h
    · split at h
      · split at h <;> cases h
      · cases h
    · cases h
  | _ => cases h
theorem Dz.seq {x y : Cd} {f f1 : FR} {h h1 : H} {r : R} (d : Dz P tt tn nt hint x f h (.nrm f1 h1)) (d' : Dz P tt tn nt hint y f1 h1 r) : Dz P tt tn nt hint (.seq x y) f h r := by
  intro c hc Q ρ w a g fr bf K
  obtain ⟨ca, cb, rfl, ha, hb⟩ := comp_seq hc
  refine wpIn_seq (d ca ha _ ρ w a g fr bf fun a1 w1 q => ?_)
  obtain ⟨ρ1, s, q1, q2, q3⟩ := q
  refine d' cb hb Q ρ1 w1 a1 s.g q1 q2 ?_
  rw [q3]
  exact K.of s
/-- the first statements of a code, and the rest -/
def Cd.fst : Nat → Cd → Cd
  | 0, _ => .skip
  | 1, .seq a _ => a
  | k + 2, .seq a b => .seq a (Cd.fst (k + 1) b)
  | _, c => c
def Cd.rst : Nat → Cd → Cd
  | 0, c => c
  | k + 1, .seq _ b => Cd.rst k b
  | _ + 1, c => c
def Cd.len : Nat → Cd → Bool
  | 0, _ => true
  | k + 1, .seq _ b => Cd.len k b
  | _, _ => false
theorem Dz.app (tk : TTok P tt) (dk : DrawOk P tt) (hi : InvOk P tt inv) {r : R} {f1 : FR} {h1 : H} : ∀ (k : Nat) (cd : Cd) (f : FR) (h : H) (f' : FR) (h' : H), Cd.len (k + 1) cd = true → cd.norf = true →
    (Cd.fst (k + 1) cd).run inv N f h = .nrm f' h' → (∀ s : Sl, s.get f1 = s.get f') → Sub h' h1 → Dz P tt tn nt hint (Cd.rst (k + 1) cd) f1 h1 r → Dz P tt tn nt hint cd f h r := by
  intro k
  induction k with
  | zero =>
    intro cd f h f' h' hl hn hr hf hs d
    cases cd with
    | seq a b =>
      have hn := Bool.and_eq_true_iff.1 (show (a.norf && b.norf) = true from hn)
      have hr : a.run inv N f h = .nrm f' h' := hr
      have da := Dz.run (N := N) (tn := tn) (nt := nt) (hint := hint) tk dk hi (cd := a) (f := f) (h := h) hn.1
      rw [hr] at da
      have d : Dz P tt tn nt hint b f1 h1 r := d
      exact (da.conv hf hs).seq d
    | _ => cases hl
  | succ k ih =>
    intro cd f h f' h' hl hn hr hf hs d
    cases cd with
    | seq a b =>
      have hn := Bool.and_eq_true_iff.1 (show (a.norf && b.norf) = true from hn)
      have hr : onNrm ((Cd.fst (k + 1) b).run inv N) (a.run inv N f h) = .nrm f' h' := hr
      cases ha : a.run inv N f h with
      | nrm fa hha =>
        rw [ha] at hr
        have hr : (Cd.fst (k + 1) b).run inv N fa hha = .nrm f' h' := hr
        have da := Dz.run (N := N) (tn := tn) (nt := nt) (hint := hint) tk dk hi (cd := a) (f := f) (h := h) hn.1
        rw [ha] at da
        exact da.seq (ih b fa hha f' h' hl hn.2 hr hf hs d)
      | bad => rw [ha] at hr; cases hr
      | ret _ _ => rw [ha] at hr; cases hr
      | ex _ _ _ => rw [ha] at hr; cases hr
    | _ => cases hl
end
/-! ### Two states are one and the same -/
noncomputable def frUn (f : FR) : Bool := FR.rec true (fun a b c d e i j k _ ih => andB (vEq a .un) (andB (vEq b .un) (andB (vEq c .un) (andB (vEq d .un) (andB (vEq e .un) (andB (vEq i .un) (andB (vEq j .un) (andB (vEq k .un) ih)))))))) f
noncomputable def frEq (f : FR) : FR → Bool := FR.rec (motive := fun _ => FR → Bool) frUn
  (fun a b c d e i j k t ih g => FR.rec (motive := fun _ => Bool) false (fun a' b' c' d' e' i' j' k' t' _ => andB (vEq a a') (andB (vEq b b') (andB (vEq c c') (andB (vEq d d') (andB (vEq e e') (andB (vEq i i') (andB (vEq j j') (andB (vEq k k') (ih t'))))))))) g) f
theorem frUn_ok : ∀ {f : FR}, frUn f = true → ∀ s : Sl, s.get f = .un := by
  intro f
  induction f with
  | n => intro _ s; exact Sl.get_n s
  | b a b c d e i j k t ih =>
    intro h s
    obtain ⟨h1, h⟩ := andB_ok (show andB (vEq a .un) (andB (vEq b .un) (andB (vEq c .un) (andB (vEq d .un) (andB (vEq e .un) (andB (vEq i .un) (andB (vEq j .un) (andB (vEq k .un) (frUn t)))))))) = true from h)
    obtain ⟨h2, h⟩ := andB_ok h
    obtain ⟨h3, h⟩ := andB_ok h
    obtain ⟨h4, h⟩ := andB_ok h
    obtain ⟨h5, h⟩ := andB_ok h
    obtain ⟨h6, h⟩ := andB_ok h
    obtain ⟨h7, h⟩ := andB_ok h
    obtain ⟨h8, h⟩ := andB_ok h
    cases s with
    | a0 => exact vEq_ok h1
    | a1 => exact vEq_ok h2
    | a2 => exact vEq_ok h3
    | a3 => exact vEq_ok h4
    | a4 => exact vEq_ok h5
    | a5 => exact vEq_ok h6
    | a6 => exact vEq_ok h7
    | a7 => exact vEq_ok h8
    | nx s => exact ih h s
theorem frEq_ok : ∀ {f g : FR}, frEq f g = true → ∀ s : Sl, s.get f = s.get g := by
  intro f
  induction f with
  | n => intro g h s; rw [Sl.get_n]; exact (frUn_ok h s).symm
  | b a b c d e i j k t ih =>
    intro g h s
    cases g with
    | n => cases h
    | b a' b' c' d' e' i' j' k' t' =>
      obtain ⟨h1, h⟩ := andB_ok (show andB (vEq a a') (andB (vEq b b') (andB (vEq c c') (andB (vEq d d') (andB (vEq e e') (andB (vEq i i') (andB (vEq j j') (andB (vEq k k') (frEq t t')))))))) = true from h)
      obtain ⟨h2, h⟩ := andB_ok h
      obtain ⟨h3, h⟩ := andB_ok h
      obtain ⟨h4, h⟩ := andB_ok h
      obtain ⟨h5, h⟩ := andB_ok h
      obtain ⟨h6, h⟩ := andB_ok h
      obtain ⟨h7, h⟩ := andB_ok h
      obtain ⟨h8, h⟩ := andB_ok h
      cases s with
      | a0 => exact vEq_ok h1
      | a1 => exact vEq_ok h2
      | a2 => exact vEq_ok h3
      | a3 => exact vEq_ok h4
      | a4 => exact vEq_ok h5
      | a5 => exact vEq_ok h6
      | a6 => exact vEq_ok h7
      | a7 => exact vEq_ok h8
      | nx s => exact ih h s
noncomputable def meEq (a : ME) : ME → Bool := ME.rec (motive := fun _ => ME → Bool) (fun b => ME.rec (motive := fun _ => Bool) true (fun _ _ _ _ _ => false) b)
  (fun k x n _ ih b => ME.rec (motive := fun _ => Bool) false (fun k' x' n' t' _ => andB (vEq k k') (andB (vEq x x') (andB (Nat.beq n n') (ih t')))) b) a
theorem meEq_ok : ∀ {a b : ME}, meEq a b = true → a = b := by
  intro a
  induction a with
  | nl => intro b h; cases b with | nl => rfl | cn _ _ _ _ => cases h
  | cn k x n t ih =>
    intro b h
    cases b with
    | nl => cases h
    | cn k' x' n' t' =>
      obtain ⟨h1, h⟩ := andB_ok (show andB (vEq k k') (andB (vEq x x') (andB (Nat.beq n n') (meEq t t'))) = true from h)
      obtain ⟨h2, h⟩ := andB_ok h
      obtain ⟨h3, h⟩ := andB_ok h
      rw [vEq_ok h1, vEq_ok h2, Nat.eq_of_beq_eq_true h3, ih h]
noncomputable def onEmp (o : O) : Bool := O.rec false false true (fun _ _ _ _ _ _ => false) (fun _ _ _ _ => false) (fun _ _ => false) (fun _ _ _ => false) (fun _ _ => false) o
/-- the first is forgotten, or the second -/
noncomputable def oSub (a b : O) : Bool := O.rec true false (onEmp b) (fun _ _ _ _ _ _ => false) (fun _ _ _ _ => false)
  (fun es c => O.rec false false false (fun _ _ _ _ _ _ => false) (fun _ _ _ _ => false) (fun es' c' => andB (meEq es es') (Nat.beq c c')) (fun _ _ _ => false) (fun _ _ => false) b)
  (fun vs e g => O.rec false false false (fun _ _ _ _ _ _ => false) (fun _ _ _ _ => false) (fun _ _ => false) (fun vs' e' g' => andB (vEq vs vs') (andB (Nat.beq e e') (beqB g g'))) (fun _ _ => false) b)
  (fun r vs => O.rec false false false (fun _ _ _ _ _ _ => false) (fun _ _ _ _ => false) (fun _ _ => false) (fun _ _ _ => false) (fun r' vs' => andB (Nat.beq r r') (vEq vs vs')) b) a
theorem oSub_ok {a b : O} (h : oSub a b = true) : a = .gone ∨ a = b := by
  cases a with
  | gone => exact .inl rfl
  | dfr => cases h
  | emp => cases b <;> first | exact .inr rfl | cases h
  | loop _ _ _ _ _ _ => cases h
  | iter _ _ _ _ => cases h
  | map es c =>
    cases b with
    | map es' c' =>
      obtain ⟨h1, h2⟩ := andB_ok (show andB (meEq es es') (Nat.beq c c') = true from h)
      rw [meEq_ok h1, Nat.eq_of_beq_eq_true h2]; exact .inr rfl
    | _ => cases h
  | cells vs e g =>
    cases b with
    | cells vs' e' g' =>
      obtain ⟨h1, h⟩ := andB_ok (show andB (vEq vs vs') (andB (Nat.beq e e') (beqB g g')) = true from h)
      obtain ⟨h2, h3⟩ := andB_ok h
      rw [beqB_eq] at h3
      rw [vEq_ok h1, Nat.eq_of_beq_eq_true h2, eq_of_beq h3]; exact .inr rfl
    | _ => cases h
  | glb r vs =>
    cases b with
    | glb r' vs' =>
      obtain ⟨h1, h2⟩ := andB_ok (show andB (Nat.beq r r') (vEq vs vs') = true from h)
      rw [vEq_ok h2, Nat.eq_of_beq_eq_true h1]; exact .inr rfl
    | _ => cases h
noncomputable def tSub (a : T) : T → Bool := T.rec (motive := fun _ => T → Bool) (fun _ => true) (fun v _ _ ihl ihr t => andB (oSub v t.v) (andB (ihl t.l) (ihr t.r))) a
theorem tSub_ok : ∀ {a b : T}, tSub a b = true → ∀ k, T.get k a = .gone ∨ T.get k a = T.get k b := by
  intro a
  induction a with
  | lf => intro b _ k; exact .inl (T.get_lf k)
  | nd v l r ihl ihr =>
    intro b h k
    obtain ⟨h1, h⟩ := andB_ok (show andB (oSub v b.v) (andB (tSub l b.l) (tSub r b.r)) = true from h)
    obtain ⟨h2, h3⟩ := andB_ok h
    cases k with
    | one => exact oSub_ok h1
    | o k => exact ihl h2 k
    | i k => exact ihr h3 k
noncomputable def isGone (o : O) : Bool := O.rec true false false (fun _ _ _ _ _ _ => false) (fun _ _ _ _ => false) (fun _ _ => false) (fun _ _ _ => false) (fun _ _ => false) o
/-- **the state reached is that state** -/
noncomputable def chkH (n : B) (t : T) (h : H) : Bool := H.rec (fun n' t' => andB (bEq n n') (andB (Bool.rec true false (isGone t.v)) (tSub t t'))) h
noncomputable def chk (f : FR) (n : B) (t : T) (r : R) : Bool := R.rec false (fun _ _ _ => false) (fun _ _ => false) (fun f' h' => andB (frEq f f') (chkH n t h')) r
theorem chk_ok {f : FR} {n : B} {t : T} {r : R} (h : chk f n t r = true) : ∃ f' h', r = .nrm f' h' ∧ (∀ s : Sl, s.get f = s.get f') ∧ Sub h' (.mk n t) := by
  cases r with
  | bad => cases h
  | ret _ _ => cases h
  | ex _ _ _ => cases h
  | nrm f' h' =>
    obtain ⟨h1, h2⟩ := andB_ok (show andB (frEq f f') (chkH n t h') = true from h)
    refine ⟨f', h', rfl, frEq_ok h1, ?_⟩
    cases h' with
    | mk n' t' =>
      obtain ⟨h3, h4⟩ := andB_ok (show andB (bEq n n') (andB (Bool.rec true false (isGone t.v)) (tSub t t')) = true from h2)
      obtain ⟨h5, h6⟩ := andB_ok h4
      refine ⟨bEq_ok h3, tSub_ok h6, ?_⟩
      rcases tSub_ok h6 .one with e | e
      · have e : t.v = .gone := e
        rw [e] at h5; cases h5
      · exact e
end Go.Ads
set_option autoImplicit false
set_option linter.unusedSimpArgs false
set_option linter.unusedVariables false
namespace Go.Ads
theorem Cd.rst_skip (a : Nat) : ∀ c : Cd, (∀ x y, c ≠ .seq x y) → Cd.rst a c = c := by
  intro c h
  cases a with
  | zero => rfl
  | succ a => cases c <;> first | rfl | exact absurd rfl (h _ _)
theorem Cd.rst_rst (a : Nat) : ∀ (b : Nat) (c : Cd), Cd.rst a (Cd.rst b c) = Cd.rst (b + a) c := by
  intro b
  induction b with
  | zero => intro c; rw [Nat.zero_add]; rfl
  | succ b ih =>
    intro c
    rw [Nat.succ_add]
    cases c with
    | seq x y => exact ih y
    | _ => exact Cd.rst_skip a _ (fun _ _ q => by cases q)
section
variable {P : Program} {tt : TT} {ρ : Rho} {w w' : World} {tn : List Nat} {nt : Nat} {hint : Nat → List Nat} {inv : Inv} {N : Nat}
/-- one part more -/
theorem Dz.part (tk : TTok P tt) (dk : DrawOk P tt) (hi : InvOk P tt inv) {r : R} {cd : Cd} {j k : Nat} {f f1 : FR} {h : H} {n : B} {t : T} (hl : Cd.len (k + 1) (Cd.rst j cd) = true) (hn : (Cd.rst j cd).norf = true)
    (hc : chk f1 n t ((Cd.fst (k + 1) (Cd.rst j cd)).run inv N f h) = true) (d : Dz P tt tn nt hint (Cd.rst (j + (k + 1)) cd) f1 (.mk n t) r) : Dz P tt tn nt hint (Cd.rst j cd) f h r := by
  obtain ⟨f', h', e, q1, q2⟩ := chk_ok hc
  exact Dz.app (N := N) tk dk hi k _ f h f' h' hl hn e q1 q2 (by rw [Cd.rst_rst]; exact d)
theorem h0_get (g : Nat) (b : B) : b = .one ∧ (h0 g).get b = .glb g powV ∨ b ≠ .one ∧ (h0 g).get b = .gone := by
  cases b with
  | one => exact .inl ⟨rfl, rfl⟩
  | o b => exact .inr ⟨(fun q => by cases q), T.get_lf b⟩
  | i b => exact .inr ⟨(fun q => by cases q), T.get_lf b⟩
theorem powL_bd (n : Nat) : ∀ l, Bd n (powL l)
  | [] => trivial
  | _ :: l => ⟨trivial, powL_bd n l⟩
def startRho (g : Nat) : Rho := ⟨fun _ => g, fun _ => 0, fun _ => 0, fun _ => 1, fun _ => true⟩
theorem G.start {g : Nat} {t : TypeId} {fr : Nat × Nat} (hg : w.heap[g]? = some (.cells (Lib.pow10Tab.map (Value.int .u64)).toArray t fr)) : G P tt (startRho g) (h0 g) w := by
  refine ⟨fun b => ?_, fun b c lb lc _ => ?_, fun b => ?_, fun b hb => ?_⟩
  · rcases h0_get g b with ⟨_, e⟩ | ⟨_, e⟩
    · rw [e]; exact ⟨rfl, t, fr, by rw [powV_tab]; exact hg⟩
    · rw [e]; trivial
  · rcases h0_get g b with ⟨e1, _⟩ | ⟨_, e⟩
    · rcases h0_get g c with ⟨e2, _⟩ | ⟨_, e⟩
      · rw [e1, e2]
      · rw [e] at lc; exact lc.elim
    · rw [e] at lb; exact lb.elim
  · rcases h0_get g b with ⟨_, e⟩ | ⟨_, e⟩
    · rw [e]; exact powL_bd _ _
    · rw [e]; trivial
  · rcases h0_get g b with ⟨rfl, _⟩ | ⟨_, e⟩
    · exact absurd (show 2 ≤ 1 from hb) (by decide)
    · exact e
/-- what was there is there as it was -/
def Same (w w' : World) : Prop := w'.os = w.os ∧ w'.output = w.output ∧ ∀ r, r < w.heap.size → w'.heap[r]? = w.heap[r]?
theorem Same.frame (h : Same w w') (may : MemPlace → Prop) : w.keptBut w' may := by
  refine ⟨h.1, h.2.1, fun i hi => ?_⟩
  rw [h.2.2 i hi]
  split <;> simp_all
theorem StepS.same {g : Nat} {ρ' : Rho} {h' : H} (s : StepS P tt (startRho g) (h0 g) w ρ' h' w') : Same w w' := by
  refine ⟨s.os, s.out, fun r hr => ?_⟩
  by_cases e : r = g
  · subst e; exact (s.glbs r powV rfl).2
  · refine s.frame r hr fun b lb q => ?_
    rcases h0_get g b with ⟨rfl, _⟩ | ⟨_, e'⟩
    · exact e q.symm
    · rw [e'] at lb; exact lb.elim
theorem start_of {name : String} {g : Nat} (hg : P.globalNamed name = some g) (h : Lib.TabIs P w name .u64 Lib.pow10Tab) : ∃ t fr, w.heap[g]? = some (.cells (Lib.pow10Tab.map (Value.int .u64)).toArray t fr) := by
  unfold Lib.TabIs World.var? at h
  rw [hg, Option.bind_some] at h
  split at h
  · rename_i cs t fr hh
    rw [Option.some.inj h] at hh
    exact ⟨t, fr, hh⟩
  · cases h
theorem top_ok (tk : TTok P tt) {Fn : Func} {fid : FuncId} {cd : Cd} {res : List RV} {h : H} {r : R} {v : V} {h' : H} (hf : P.funcs[fid]? = some Fn) (hc : compF tt tn hint Fn = some ⟨.nl, cd, res⟩)
    (d : Dz P tt tn Fn.ntmps hint cd .n h r) (he : fin res r = .ok v h') (g : G P tt ρ h w) : Calls P fid #[] w fun e w' => ∃ ρ', e = .returned (conc ρ' v) ∧ StepS P tt ρ h w ρ' h' w' := by
  unfold compF at hc
  split at hc
  · cases hc
  · rename_i c hbody
    split at hc
    · cases hc
    · rename_i hall
      split at hc
      · rename_i ps' cd' rs h1 h2 h3
        cases hc
        refine callsIn_wide.1 (callsIn_of_wp_marks (F := Fence.wide) (n := 0) hf hbody trivial ?_ rfl)
        have fr : FrRel ρ tn Fn.ntmps (#[] ++ Array.replicate (Fn.ntmps - (#[] : Array Value).size) undef) .n := by
          have := FrRel.enter (ρ := ρ) (as := .nl) h1 rfl hall
          rw [concL_nl] at this
          exact this
        have fin : ∀ (f' : FR) (h2 : H), finK res f' h2 = .ok v h' → ∀ (a' : Act) (w' : World), AftS P tt tn Fn.ntmps ρ h w [] f' h2 a' w' → LeavesInM Fence.wide 0 P Fn a'.tmps (fun e w' => ∃ ρ', e = .returned (conc ρ' v) ∧ StepS P tt ρ h w ρ' h' w') a'.defers .returning w' := by
          rintro f' h2 hfin a' w' ⟨ρ', st, fr', bf', hd⟩
          rw [hd]
          obtain ⟨rfl, q1, q2⟩ := fin_ok tk st.g fr' bf' h3 hfin
          exact ⟨_, q1, ρ', rfl, st⟩
        refine d c h2 _ ρ w _ g fr (BdF.n _) ?_
        cases hr : r with
        | bad => rw [hr] at he; cases he
        | nrm f1 h1 => rw [hr] at he; exact fun a' w' q => fin f1 h1 he a' w' q
        | ret f1 h1 => rw [hr] at he; exact fun a' w' q => fin f1 h1 he a' w' q
        | ex id f1 h1 => rw [hr] at he; cases he
      · cases hc
/-- **a law without arguments that answers true** -/
theorem law_ok (tk : TTok P tt) {Fn : Func} {fid g : Nat} {name : String} {cd : Cd} {res : List RV} {r : R} (hf : P.funcs[fid]? = some Fn) (hc : compF tt tn hint Fn = some ⟨.nl, cd, res⟩) (hg : P.globalNamed name = some g)
    (d : Dz P tt tn Fn.ntmps hint cd .n (h0 g) r) (he : isTrue (fin res r) = true) (ht : Lib.TabIs P w name .u64 Lib.pow10Tab) : Calls P fid #[] w fun e w' => e = .returned (.bool true) ∧ Same w w' := by
  obtain ⟨t, fr, hh⟩ := start_of hg ht
  obtain ⟨h', e⟩ := isTrue_ok he
  refine (top_ok tk hf hc d e (G.start hh)).mono ?_
  rintro e w' ⟨ρ', rfl, s⟩
  exact ⟨by simp only [conc], s.same⟩
theorem prC_ok {c ci b : B} {T g : Nat} {as v : V} {h h' : H} (e : prC c T ci g b as h = .ok v h') : (b = c ∧ pCheck T as h = .ok v h') ∨ (b = ci ∧ pItoa g as h = .ok v h') := by
  cases hb : bEq b c with
  | true => exact .inl ⟨bEq_ok hb, by unfold prC at e; rw [hb] at e; exact e⟩
  | false =>
    unfold prC at e
    rw [hb] at e
    obtain ⟨h1, h2⟩ := iff_ok (show iff (bEq b ci) (pItoa g as h) = .ok v h' from e)
    exact .inr ⟨bEq_ok h1, h2⟩
end
end Go.Ads
