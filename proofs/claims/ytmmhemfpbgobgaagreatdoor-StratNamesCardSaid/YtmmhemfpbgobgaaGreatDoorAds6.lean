/-
  An interpreter of plain data for code without loose ends (Go.Ads), and that what it computes the program answers. Part 6. It says something of a program whose code compiles to it, no other condition.
-/
import Derived.Test.YtmmhemfpbgobgaaGreatDoorAds5
import Derived.Test.YtmmhemfpbgobgaaGreatDoorAds1
set_option linter.unusedVariables false
set_option linter.unusedSimpArgs false
set_option linter.unusedSectionVars false
set_option autoImplicit false
set_option linter.unusedSimpArgs false
set_option linter.unusedVariables false
namespace Go.Ads

/-! ### Steps whose later names are given already -/
structure StepK (P : Program) (tt : TT) (n' : Nat) (ρ : Rho) (h : H) (w : World) (ρ' : Rho) (h' : H) (w' : World) : Prop where
  le : h.next.toN ≤ h'.next.toN
  keep : ρ.Keep h.next.toN n' ρ'
  g : G P tt ρ' h' w'
  frame : ∀ r, r < w.heap.size → (∀ b, Live ρ b (h.get b) → ρ.blk b ≠ r) → w'.heap[r]? = w.heap[r]?
  size : w.heap.size ≤ w'.heap.size
  fresh : ∀ b, Live ρ' b (h'.get b) → ρ'.blk b < w.heap.size → ∃ c, Live ρ c (h.get c) ∧ ρ.blk c = ρ'.blk b
  loops : ∀ b, isLoop (h.get b) = true → isLoop (h'.get b) = true
  dfrs : ∀ b, h.get b = .dfr → h'.get b = .dfr
  os : w'.os = w.os
  out : w'.output = w.output
  tape : w'.tape = w.tape
  glbs : ∀ b r vs, h.get b = .glb r vs → h'.get b = .glb r vs ∧ w'.heap[r]? = w.heap[r]?
section
variable {P : Program} {tt : TT} {n' : Nat} {ρ ρ' ρ'' : Rho} {h h' h'' : H} {w w' w'' : World}
theorem Rho.Keep.up {n m k : Nat} {ρ σ : Rho} (h : ρ.Keep n m σ) (le : m ≤ k) : ρ.Keep n k σ := ⟨h.lo, fun b hb => h.hi b (by omega), h.lv⟩
theorem StepK.refl (g : G P tt ρ h w) (le : h.next.toN ≤ n') : StepK P tt n' ρ h w ρ h w :=
  ⟨Nat.le_refl _, .refl _ _ _, g, fun _ _ _ => rfl, Nat.le_refl _, fun b l _ => ⟨b, l, rfl⟩, fun _ h => h, fun _ h => h, rfl, rfl, rfl, fun _ _ _ h => ⟨h, rfl⟩⟩
theorem StepK.toStep (s : StepK P tt h'.next.toN ρ h w ρ' h' w') : Step P tt ρ h w ρ' h' w' := ⟨s.le, s.keep, s.g, s.frame, s.size, s.fresh, s.loops, s.dfrs, s.os, s.out, s.tape, s.glbs⟩
theorem StepK.trans (s : StepK P tt n' ρ h w ρ' h' w') (t : Step P tt ρ' h' w' ρ'' h'' w'') (le : h''.next.toN ≤ n') : StepK P tt n' ρ h w ρ'' h'' w'' where
  le := Nat.le_trans s.le t.le
  keep := ⟨s.keep.lo.trans (t.keep.lo.mono s.le), fun b hb => by
    obtain ⟨a1, a2, a3, a4⟩ := s.keep.hi b hb
    obtain ⟨b1, b2, b3, b4⟩ := t.keep.hi b (Nat.le_trans le hb)
    exact ⟨a1.trans b1, a2.trans b2, a3.trans b3, a4.trans b4⟩, fun b hb => (s.keep.lv b hb).trans (t.keep.lv b (Nat.lt_of_lt_of_le hb s.le))⟩
  g := t.g
  frame := fun r hr hl => by
    rw [t.frame r (Nat.lt_of_lt_of_le hr s.size) (fun b hb e => by
      obtain ⟨c, hc, ec⟩ := s.fresh b hb (e ▸ hr)
      exact hl c hc (ec.trans e)), s.frame r hr hl]
  size := Nat.le_trans s.size t.size
  fresh := fun b hb hlt => by
    obtain ⟨c, hc, ec⟩ := t.fresh b hb (Nat.lt_of_lt_of_le hlt s.size)
    obtain ⟨d, hd, ed⟩ := s.fresh c hc (ec ▸ hlt)
    exact ⟨d, hd, ed.trans ec⟩
  loops := fun b hb => t.loops b (s.loops b hb)
  dfrs := fun b hb => t.dfrs b (s.dfrs b hb)
  os := t.os.trans s.os
  out := t.out.trans s.out
  tape := t.tape.trans s.tape
  glbs := fun b r vs hb => by
    obtain ⟨h1, h2⟩ := s.glbs b r vs hb
    obtain ⟨h3, h4⟩ := t.glbs b r vs h1
    exact ⟨h3, h4.trans h2⟩
/-- an object that was made before is taken in -/
theorem StepK.take (s : StepK P tt n' ρ h w ρ' h' w') {o : O} (ob : ∀ b, BdO (h'.add o).next.toN ((h'.add o).get b)) (real : Real P tt ρ' w' h'.next o)
    (live : Live ρ' h'.next o → w.heap.size ≤ ρ'.blk h'.next ∧ ∀ b, Live ρ' b (h'.get b) → ρ'.blk b ≠ ρ'.blk h'.next) : StepK P tt n' ρ h w ρ' (h'.add o) w' := by
  have hn := H.next_add o h'
  have gne : ∀ b, b ≠ h'.next → (h'.add o).get b = h'.get b := fun b hb => H.get_add_ne o h' hb
  have old : ∀ b, isLoop (h.get b) = true ∨ h.get b = .dfr → isLoop (h'.get b) = true ∨ h'.get b = .dfr → b ≠ h'.next := fun b _ hb e => by
    have := s.g.none b (by rw [e]; exact Nat.le_refl _)
    rw [this] at hb
    rcases hb with hb | hb <;> cases hb
  refine ⟨by have := s.le; omega, s.keep, ⟨fun b => ?_, fun b c lb lc e => ?_, ob, fun b hb => ?_⟩, s.frame, s.size, fun b lb hlt => ?_, fun b hb => ?_, fun b hb => ?_, s.os, s.out, s.tape, fun b r vs hb => by
    obtain ⟨h1, h2⟩ := s.glbs b r vs hb
    refine ⟨?_, h2⟩
    have : b ≠ h'.next := fun e => by rw [s.g.none b (by rw [e]; exact Nat.le_refl _)] at h1; cases h1
    rw [gne b this]; exact h1⟩
  · by_cases e : b = h'.next
    · subst e; rw [H.get_add_same]; exact real
    · rw [gne b e]; exact s.g.real b
  · by_cases eb : b = h'.next
    · by_cases ec : c = h'.next
      · rw [eb, ec]
      · subst eb
        rw [H.get_add_same] at lb
        rw [gne c ec] at lc
        exact absurd e.symm ((live lb).2 c lc)
    · by_cases ec : c = h'.next
      · subst ec
        rw [H.get_add_same] at lc
        rw [gne b eb] at lb
        exact absurd e ((live lc).2 b lb)
      · rw [gne b eb] at lb; rw [gne c ec] at lc
        exact s.g.inj b c lb lc e
  · rw [gne b (fun e => by rw [hn, e] at hb; omega)]; exact s.g.none b (by omega)
  · by_cases e : b = h'.next
    · subst e
      rw [H.get_add_same] at lb
      exact absurd (live lb).1 (by omega)
    · rw [gne b e] at lb; exact s.fresh b lb hlt
  · have := s.loops b hb
    rw [gne b (old b (.inl hb) (.inl this))]; exact this
  · have := s.dfrs b hb
    rw [gne b (old b (.inr hb) (.inr this))]; exact this
/-- an object is made before its time -/
theorem StepK.early (s : StepK P tt n' ρ h w ρ' h' w') {nm : B} (lo : h'.next.toN ≤ nm.toN) (hi : nm.toN < n') (blk base tot es : Nat) (hw : ∀ r, r < w'.heap.size → w''.heap[r]? = w'.heap[r]?) (sz : w'.heap.size ≤ w''.heap.size)
    (ho : w''.os = w'.os) (hou : w''.output = w'.output) (ht : w''.tape = w'.tape) : StepK P tt n' ρ h w (ρ'.upd nm blk base tot es false) h' w'' := by
  have ne : ∀ b : B, b.toN < h'.next.toN → b ≠ nm := fun b hb e => by rw [e] at hb; omega
  have lv : ∀ b, Live (ρ'.upd nm blk base tot es false) b (h'.get b) → b ≠ nm ∧ Live ρ' b (h'.get b) := fun b l => by
    have : b.toN < h'.next.toN := by
      rcases Nat.lt_or_ge b.toN h'.next.toN with q | q
      · exact q
      · rw [s.g.none b q] at l; exact l.elim
    exact ⟨ne b this, Live.move (ρ := ρ'.upd nm blk base tot es false) (ρ' := ρ') (by simp [Rho.upd, ne b this]) l⟩
  have bq : ∀ b, b ≠ nm → (ρ'.upd nm blk base tot es false).blk b = ρ'.blk b := fun b hb => by simp [Rho.upd, hb]
  refine ⟨s.le, ⟨fun b hb => ?_, fun b hb => ?_, fun b hb => ?_⟩, ⟨fun b => ?_, fun b c lb lc e => ?_, s.g.bd, s.g.none⟩, fun r hr hl => ?_, Nat.le_trans s.size sz, fun b lb hlt => ?_, s.loops, s.dfrs, ho.trans s.os, hou.trans s.out, ht.trans s.tape, fun b r vs hb => by
    obtain ⟨h1, h2⟩ := s.glbs b r vs hb
    exact ⟨h1, (hw r (s.g.glb h1).2.1).trans h2⟩⟩
  · have := ne b (Nat.lt_of_lt_of_le hb s.le)
    obtain ⟨a1, a2, a3, a4⟩ := s.keep.lo b hb
    simp [Rho.upd, this, a1, a2, a3, a4]
  · have : b ≠ nm := fun e => by rw [e] at hb; omega
    obtain ⟨a1, a2, a3, a4⟩ := s.keep.hi b hb
    simp [Rho.upd, this, a1, a2, a3, a4]
  · have := ne b (Nat.lt_of_lt_of_le hb s.le)
    rw [s.keep.lv b hb]; simp [Rho.upd, this]
  · rcases Nat.lt_or_ge b.toN h'.next.toN with q | q
    · have hb := ne b q
      refine (s.g.real b).move (n := h'.next.toN) (fun c hc => ?_) q (by simp [Rho.upd, hb]) (s.g.bd b) fun l => hw _ ((s.g.real b).lt l)
      have := ne c hc
      simp [Rho.upd, this]
    · rw [s.g.none b q]; trivial
  · obtain ⟨nb, lb⟩ := lv b lb
    obtain ⟨nc, lc⟩ := lv c lc
    rw [bq b nb, bq c nc] at e
    exact s.g.inj b c lb lc e
  · rw [hw r (Nat.lt_of_lt_of_le hr s.size)]; exact s.frame r hr hl
  · obtain ⟨nb, lb⟩ := lv b lb
    rw [bq b nb] at hlt ⊢
    exact s.fresh b lb hlt
end

/-! ### What holds in the midst of a region that draws -/
section
variable {P : Program} {tt : TT} {inv : Inv} {ops : Array Oper} {an tn : List Nat} {nt : Nat} {hl : List Nat} {op : Nat → Oper} {en : Nat → Env} {fs : Nat → FR} {es : Nat → V} {hs : Nat → H} {vs : Nat → V}
/-- the names that are given -/
def AS (tt : TT) (N : Nat) (op : Nat → Oper) (hs : Nat → H) (m : Nat) (S : Nat → Prop) (b : B) : Prop :=
  b.toN < (hs m).next.toN ∨ ∃ k, m ≤ k ∧ k < N ∧ S k ∧ ko tt (op k) = .n ∧ (hs k).next.toN < (hs (k + 1)).next.toN ∧ b = (hs k).next
def VAL (N : Nat) (tn : List Nat) (op : Nat → Oper) (en : Nat → Env) (fs : Nat → FR) (es : Nat → V) (S : Nat → Prop) (ρ : Rho) (A : B → Prop) (tmps : Array Value) : Prop :=
  ∀ k, k ≤ N → ∀ t r, rfT tn (en k) t = some r → (∀ j, j < N → (op j).dst = some t → (S j ↔ j < k)) → tmps[t]? = some (conc ρ (r.ev (fs k) (es k))) ∧ Ind A (r.ev (fs k) (es k))
structure Iv (P : Program) (tt : TT) (ops : Array Oper) (an tn hl : List Nat) (op : Nat → Oper) (en : Nat → Env) (fs : Nat → FR) (es : Nat → V) (hs : Nat → H) (ρ0 : Rho) (w0 : World) (sz : Nat) (df : List Deferred)
    (S : Nat → Prop) (a : Act) (w : World) (ρ : Rho) (m : Nat) : Prop where
  mN : m ≤ ops.size
  top : m = 0 ∨ ∃ p, m = p + 1 ∧ ko tt (op p) = .e ∧ S p
  cl : ∀ k, k < ops.size → S k → ∀ k', k' < ops.size → Anc an hl k k' → S k'
  noe : ∀ k, m ≤ k → k < ops.size → ko tt (op k) = .e → ¬ S k
  st : StepK P tt (hs ops.size).next.toN ρ0 (hs 0) w0 ρ (hs m) w
  rcd : ∀ k, m ≤ k → k < ops.size → S k → ko tt (op k) = .n → ∀ o, hs (k + 1) = (hs k).add o → Real P tt ρ w (hs k).next o ∧ Pln o ∧ IndO P tt (AS tt ops.size op hs m S) (hs k).next o ∧
    (Live ρ (hs k).next o → w0.heap.size ≤ ρ.blk (hs k).next ∧ ∀ b, Live ρ b ((hs m).get b) → ρ.blk b ≠ ρ.blk (hs k).next)
  dis : ∀ k k', m ≤ k → k < k' → k' < ops.size → S k → S k' → ko tt (op k) = .n → ko tt (op k') = .n → ∀ o o', hs (k + 1) = (hs k).add o → hs (k' + 1) = (hs k').add o' → Live ρ (hs k).next o → Live ρ (hs k').next o' →
    ρ.blk (hs k).next ≠ ρ.blk (hs k').next
  val : VAL ops.size tn op en fs es S ρ (AS tt ops.size op hs m S) a.tmps
  sz : a.tmps.size = sz
  df : a.defers = df
variable {ρ0 ρ : Rho} {w0 w : World} {sz : Nat} {df : List Deferred} {S : Nat → Prop} {a : Act} {m : Nat}
/-- the memory of the base, with what was made before its time, is the memory of a later place -/
theorem Iv.pass (D : Dr tt inv ops an tn nt hl op en fs es hs vs) (Fa : Df tt ops tn op en fs es hs vs) (I : Iv P tt ops an tn hl op en fs es hs ρ0 w0 sz df S a w ρ m) : ∀ k, m ≤ k → k ≤ ops.size →
    (∀ j, m ≤ j → j < k → ko tt (op j) = .n ∨ ko tt (op j) = .e → S j) →
    StepK P tt (hs ops.size).next.toN ρ0 (hs 0) w0 ρ (hs k) w ∧ ∀ k', k ≤ k' → k' < ops.size → S k' → ko tt (op k') = .n → ∀ o, hs (k' + 1) = (hs k').add o → Live ρ (hs k').next o → ∀ b, Live ρ b ((hs k).get b) → ρ.blk b ≠ ρ.blk (hs k').next := by
  intro k
  induction k with
  | zero => intro h1 _ _; have : m = 0 := by omega
            subst this; exact ⟨I.st, fun k' q1 q2 q3 q4 o q5 q6 => ((I.rcd k' q1 q2 q3 q4 o q5).2.2.2 q6).2⟩
  | succ k ih =>
    intro h1 h2 hne
    rcases Nat.lt_or_ge k m with q | q
    · have : m = k + 1 := by omega
      subst this; exact ⟨I.st, fun k' q1 q2 q3 q4 o q5 q6 => ((I.rcd k' q1 q2 q3 q4 o q5).2.2.2 q6).2⟩
    · obtain ⟨s, d⟩ := ih q (by omega) (fun j j1 j2 => hne j j1 (by omega))
      have same : hs (k + 1) = hs k → StepK P tt (hs ops.size).next.toN ρ0 (hs 0) w0 ρ (hs (k + 1)) w ∧ ∀ k', k + 1 ≤ k' → k' < ops.size → S k' → ko tt (op k') = .n → ∀ o, hs (k' + 1) = (hs k').add o → Live ρ (hs k').next o → ∀ b, Live ρ b ((hs (k + 1)).get b) → ρ.blk b ≠ ρ.blk (hs k').next := by
        intro e
        rw [e]
        exact ⟨s, fun k' q1 => d k' (by omega)⟩
      cases hk : ko tt (op k) with
      | p => exact same (Fa.quiet k (by omega) (.inl hk))
      | r => exact same (Fa.quiet k (by omega) (.inr hk))
      | e => exact absurd (hne k q (by omega) (.inr hk)) (I.noe k q (by omega) hk)
      | n =>
        rcases Fa.news k (by omega) hk with e | ⟨o, e⟩
        · exact same e
        · have hS := hne k q (by omega) (.inl hk)
          obtain ⟨r1, r2, r3, r4⟩ := I.rcd k q (by omega) hS hk o e
          have ob := (Fa.ob (k + 1) (by omega)).1
          rw [e] at ob ⊢
          refine ⟨s.take ob r1 fun l => ⟨(r4 l).1, d k (Nat.le_refl _) (by omega) hS hk o e l⟩, fun k' q1 q2 q3 q4 o' q5 q6 b lb => ?_⟩
          by_cases eb : b = (hs k).next
          · subst eb
            rw [H.get_add_same] at lb
            exact I.dis k k' q (by omega) q2 hS q3 hk q4 o o' e q5 lb q6
          · rw [H.get_add_ne o _ eb] at lb
            exact d k' (by omega) q2 q3 q4 o' q5 q6 b lb
/-- the temporaries that an operation looks at are what they are at its place -/
theorem Iv.look (D : Dr tt inv ops an tn nt hl op en fs es hs vs) (I : Iv P tt ops an tn hl op en fs es hs ρ0 w0 sz df S a w ρ m) {p : Nat} (hp : p < ops.size) (hn : ¬ S p) (ha : ∀ k, k < ops.size → Anc an hl p k → S k) :
    ∀ t ∈ readsG ops.toList (op p), ∀ r, rfT tn (en p) t = some r → a.tmps[t]? = some (conc ρ (r.ev (fs p) (es p))) ∧ Ind (AS tt ops.size op hs m S) (r.ev (fs p) (es p)) := by
  intro t ht r hr
  refine I.val p (by omega) t r hr fun j hj hd => ?_
  by_cases e : j = p
  · subst e; exact ⟨fun q => absurd q hn, fun q => by omega⟩
  · rcases D.tmp hp hj (fun q => e q.symm) hd (.inl ht) with q | q
    · exact ⟨fun _ => D.anc_lt hp hj q, fun _ => ha j hj q⟩
    · exact ⟨fun z => absurd (I.cl j hj z p hp q) hn, fun z => by have := D.anc_lt hj hp q; omega⟩
/-- the values behind an operation -/
theorem val_step (D : Dr tt inv ops an tn nt hl op en fs es hs vs) (Fa : Df tt ops tn op en fs es hs vs) {A A' : B → Prop} {ρ' : Rho} {p : Nat} {tmps : Array Value} (hp : p < ops.size) (hn : ¬ S p)
    (cl : ∀ k, k < ops.size → S k → ∀ k', k' < ops.size → Anc an hl k k' → S k') (ha : ∀ k, k < ops.size → Anc an hl p k → S k)
    (val : VAL ops.size tn op en fs es S ρ A tmps) (ag : AgA A ρ ρ') (sub : ∀ b, A b → A' b) (iv : Ind A' (vs p)) (hsz : ∀ t, (op p).dst = some t → t < tmps.size) :
    VAL ops.size tn op en fs es (fun j => S j ∨ j = p) ρ' A' (match (op p).dst with | some t => tmps.setIfInBounds t (conc ρ' (vs p)) | none => tmps) := by
  intro k hk t r hr hcond
  by_cases hd : (op p).dst = some t
  · rw [hd]
    have hpk : p < k := (hcond p hp hd).1 (.inr rfl)
    have now : ∀ j, p + 1 ≤ j → j < k → (op j).dst ≠ some t := fun j j1 j2 hj => by
      have hjN : j < ops.size := by omega
      have hS : S j := by
        rcases (hcond j hjN hj).2 j2 with q | q
        · exact q
        · omega
      rcases D.tmp hp hjN (by omega) hj (.inr hd) with q | q
      · have := D.anc_lt hp hjN q; omega
      · exact hn (cl j hjN hS p hp q)
    obtain ⟨r0, q1, q2⟩ := D.persist Fa hpk hk now hr
    have hv := (D.step hp).new hd q1
    rw [← q2, hv]
    exact ⟨put_same (hsz t hd), iv⟩
  · have hcond' : ∀ j, j < ops.size → (op j).dst = some t → (S j ↔ j < k) := fun j hj hjd => by
      rw [← hcond j hj hjd]
      refine ⟨.inl, fun q => ?_⟩
      rcases q with q | q
      · exact q
      · subst q; exact absurd hjd hd
    obtain ⟨h1, h2⟩ := val k hk t r hr hcond'
    refine ⟨?_, h2.mono sub⟩
    rw [h2 ρ' ρ ag.symm]
    cases hdp : (op p).dst with
    | none => exact h1
    | some u =>
      show (tmps.setIfInBounds u _)[t]? = _
      rw [put_ne (fun e => hd (by rw [hdp, e]))]; exact h1
theorem put_tmps (a : Act) (dst : Option Tmp) (v : Value) : (a.put dst v).tmps = match dst with | some t => a.tmps.setIfInBounds t v | none => a.tmps := by cases dst <;> rfl
theorem put_size (a : Act) (dst : Option Tmp) (v : Value) : (a.put dst v).tmps.size = a.tmps.size := by cases dst <;> simp [Act.put]
theorem AS.mono {S' : Nat → Prop} (h : ∀ k, S k → S' k) : ∀ b, AS tt ops.size op hs m S b → AS tt ops.size op hs m S' b := by
  rintro b (q | ⟨k, k1, k2, k3, k4, k5, k6⟩)
  · exact .inl q
  · exact .inr ⟨k, k1, k2, h k k3, k4, k5, k6⟩
end
end Go.Ads
set_option autoImplicit false
set_option linter.unusedSimpArgs false
set_option linter.unusedVariables false
set_option linter.unusedSectionVars false
namespace Go.Ads
section
variable {P : Program} {tt : TT} {inv : Inv} {ops : Array Oper} {an tn : List Nat} {nt : Nat} {hl : List Nat} {op : Nat → Oper} {en : Nat → Env} {fs : Nat → FR} {es : Nat → V} {hs : Nat → H} {vs : Nat → V}
variable {ρ0 ρ : Rho} {w0 w : World} {sz : Nat} {df : List Deferred} {S : Nat → Prop} {a : Act} {m : Nat}

/-! ### Operands and guards out of temporaries -/
theorem gOf_inv {L : List Oper} {env : Env} {o : Oper} {gd : Option (Rf × Bool)} (h : gOf L tn env o = some gd) :
    (o.guard = none ∧ gd = none) ∨ ∃ j b q t r, o.guard = some (j, b) ∧ L[j]? = some q ∧ q.dst = some t ∧ rfT tn env t = some r ∧ gd = some (r, b) := by
  unfold gOf at h
  split at h
  · rename_i hg; cases h; exact .inl ⟨hg, rfl⟩
  · rename_i j b hg
    split at h
    · rename_i q hq
      split at h
      · rename_i t ht
        split at h
        · rename_i r hr; cases h; exact .inr ⟨j, b, q, t, r, hg, hq, ht, hr, rfl⟩
        · cases h
      · cases h
    · cases h
theorem guard_reads {L : List Oper} {o : Oper} {j : Nat} {b : Bool} {q : Oper} {t : Nat} (hg : o.guard = some (j, b)) (hq : L[j]? = some q) (ht : q.dst = some t) : t ∈ readsG L o := by
  unfold readsG
  rw [List.mem_append]
  refine .inr ?_
  rw [hg]
  simp [hq, ht]
theorem operand_reads {L : List Oper} {o : Oper} {t : Nat} (h : (Operand.tmp t) ∈ o.op.operands) : t ∈ readsG L o := by
  unfold readsG reads
  rw [List.mem_append]
  refine .inl ?_
  rw [List.mem_filterMap]
  exact ⟨_, by simpa using h, rfl⟩
/-- what is asked of the temporaries that an operation looks at -/
def Lk (L : List Oper) (tn : List Nat) (o : Oper) (env : Env) (f : FR) (e : V) (ρ : Rho) (tmps : Array Value) : Prop := ∀ t ∈ readsG L o, ∀ r, rfT tn env t = some r → tmps[t]? = some (conc ρ (r.ev f e))
theorem rf_const {env : Env} {x : Operand} {q : Rf} (hx : ∀ t, x ≠ .tmp t) (h : rfOf tn env x = some q) (a : Act) (ρ : Rho) (f : FR) (e : V) : a.eval x = conc ρ (q.ev f e) ∧ ∀ n, Bd n (q.ev f e) := by
  cases x with
  | tmp t => exact absurd rfl (hx t)
  | const v =>
    simp only [rfOf] at h
    split at h
    · rename_i y hy; cases h; exact ⟨(vOf_ok (ρ := ρ) hy).1.symm, (vOf_ok (ρ := ρ) hy).2⟩
    · cases h
  | func g =>
    simp only [rfOf] at h
    split at h
    · rename_i b hb
      cases h
      refine ⟨?_, fun n => ⟨trivial, trivial⟩⟩
      show Value.func (.func g) #[] #[] = _
      simp only [Rf.ev, conc, concL_cn, concL_nl, fnOf, fnB_ok hb]
    · cases h
  | global g => cases h
theorem Lk.opc {L : List Oper} {o : Oper} {env : Env} {f : FR} {e : V} (h : Lk L tn o env f e ρ a.tmps) : OpC a ρ (rfOf tn env) o f e := by
  intro x hx q hq
  by_cases ht : ∃ t, x = .tmp t
  · obtain ⟨t, rfl⟩ := ht
    have := h t (operand_reads hx) q hq
    show a.tmps.getD t undef = _
    rw [Array.getD_eq_getD_getElem?, this]; rfl
  · exact (rf_const (fun t e => ht ⟨t, e⟩) hq a ρ f e).1
theorem lk_opi {L : List Oper} {o : Oper} {env : Env} {f : FR} {e : V} {A : B → Prop} (h : ∀ t ∈ readsG L o, ∀ r, rfT tn env t = some r → Ind A (r.ev f e)) : OpI A (rfOf tn env) o f e := by
  intro x hx q hq
  by_cases ht : ∃ t, x = .tmp t
  · obtain ⟨t, rfl⟩ := ht
    exact h t (operand_reads hx) q hq
  · exact Ind.of_bd ((rf_const (fun t e => ht ⟨t, e⟩) hq ⟨#[], []⟩ ⟨fun _ => 0, fun _ => 0, fun _ => 0, fun _ => 0, fun _ => false⟩ f e).2 0) (fun b hb => by omega)
/-- is the operation wanted? -/
theorem wanted_lk {env : Env} {f : FR} {e v : V} {h h' : H} {o : Oper} {gd : Option (Rf × Bool)} {io : IOp} (lk : Lk ops.toList tn o env f e ρ a.tmps) (hg : gOf ops.toList tn env o = some gd) (he : gRun inv gd io f e h = .ok v h') :
    (Region.wanted o (yielded ops a.tmps) = true ∧ (∀ r b, gd = some (r, b) → r.ev f e = .bool b) ∧ opT inv io f e h = .ok v h') ∨ (Region.wanted o (yielded ops a.tmps) = false ∧ v = .un ∧ h' = h) := by
  rcases gOf_inv hg with ⟨h1, rfl⟩ | ⟨j, b, q, t, r, h1, h2, h3, h4, rfl⟩
  · exact .inl ⟨by simp [Region.wanted, h1], (fun r b q => by cases q), he⟩
  · have hq : ops[j]? = some q := by simpa using h2
    have ht := lk t (guard_reads h1 h2 h3) r h4
    have hy : yielded ops a.tmps j = match conc ρ (r.ev f e) with | .bool b => some b | _ => none := by
      unfold yielded
      simp only [hq, Option.bind_some, h3, ht]
      cases conc ρ (r.ev f e) <;> rfl
    rcases guard_ok (show guard b (r.ev f e) (opT inv io f e h) (.ok .un h) = .ok v h' from he) with ⟨z, z3⟩ | ⟨z, z3⟩
    · refine .inl ⟨?_, (fun r' b' q' => by cases q'; exact z), z3⟩
      rw [z] at hy
      simp only [conc] at hy
      simp [Region.wanted, h1, hy]
    · obtain ⟨rfl, rfl⟩ := or_ok z3
      refine .inr ⟨?_, rfl, rfl⟩
      simp only [Region.wanted, h1, hy]
      cases hc : conc ρ (r.ev f e) with
      | bool c =>
        have := conc_bool hc
        have : c ≠ b := fun q => z (q ▸ this)
        simpa using this
      | _ => rfl
theorem run_value {F : Fence} (hF : Open F) {i : Nat} {o : Oper} {x : Value} {w' : World} {next : Act → World → Prop} {Q : Exit → Act → World → Prop} (ho : ops[i]? = some o) (hw : Region.wanted o (yielded ops a.tmps) = true) (hd : ∀ c, o.op ≠ .defer c)
    (hr : (execOp a.eval o).run P w = .ok (.value x) w') (K : next (a.put o.dst x) w') : wpOpIn F 0 P ops Q i next a w := by
  unfold wpOpIn
  simp only [ho, hw, if_true]
  unfold Oper.wpIn
  refine ⟨fun f _ => hF.fn f, ?_⟩
  rw [Oper.semAt_eq F.round a.eval o hd, hr, Oper.uponIn_value]
  exact K
theorem run_not {F : Fence} (hF : Open F) {i : Nat} {o : Oper} {next : Act → World → Prop} {Q : Exit → Act → World → Prop} (ho : ops[i]? = some o) (hw : Region.wanted o (yielded ops a.tmps) = false) (K : next (a.put o.dst undef) w) :
    wpOpIn F 0 P ops Q i next a w := by
  unfold wpOpIn
  simp only [ho, hw, Bool.false_eq_true, if_false]
  exact ⟨fun f _ => hF.fn f, K⟩

/-! ### Each kind of operation keeps what holds -/
variable (D : Dr tt inv ops an tn nt hl op en fs es hs vs) (Fa : Df tt ops tn op en fs es hs vs)
include D Fa
theorem dst_size (hsz : nt ≤ sz) (hslot : ∀ t s, slot tn t = some s → t < sz) {p : Nat} (hp : p < ops.size) : ∀ t, (op p).dst = some t → t < sz := fun t hd => by
  rcases (D.step hp).dst_lt hd with ⟨s, hs⟩ | q
  · exact hslot t s hs
  · exact Nat.lt_of_lt_of_le q hsz
theorem Iv.quiet (hsz : nt ≤ sz) (hslot : ∀ t s, slot tn t = some s → t < sz) (I : Iv P tt ops an tn hl op en fs es hs ρ0 w0 sz df S a w ρ m) {p : Nat} (hp : p < ops.size) (hn : ¬ S p) (ha : ∀ k, k < ops.size → Anc an hl p k → S k)
    (hk : ko tt (op p) ≠ .e) (hq : hs (p + 1) = hs p) (iv : Ind (AS tt ops.size op hs m S) (vs p)) :
    Iv P tt ops an tn hl op en fs es hs ρ0 w0 sz df (fun j => S j ∨ j = p) (a.put (op p).dst (conc ρ (vs p))) w ρ m := by
  have mono := AS.mono (tt := tt) (ops := ops) (op := op) (hs := hs) (m := m) (S := S) (S' := fun j => S j ∨ j = p) (fun k h => .inl h)
  refine ⟨I.mN, ?_, ?_, ?_, I.st, ?_, ?_, ?_, by rw [put_size]; exact I.sz, by rw [put_defers]; exact I.df⟩
  · rcases I.top with q | ⟨x, q1, q2, q3⟩
    · exact .inl q
    · exact .inr ⟨x, q1, q2, .inl q3⟩
  · rintro k hkN (q | rfl) k' hk' hanc
    · exact .inl (I.cl k hkN q k' hk' hanc)
    · exact .inl (ha k' hk' hanc)
  · rintro k k1 k2 k3 (q | rfl)
    · exact I.noe k k1 k2 k3 q
    · exact hk k3
  · rintro k k1 k2 (q | rfl) k3 o k4
    · obtain ⟨r1, r2, r3, r4⟩ := I.rcd k k1 k2 q k3 o k4
      exact ⟨r1, r2, r3.mono mono, r4⟩
    · rw [hq] at k4; exact absurd k4.symm (add_ne _ _)
  · rintro k k' k1 k2 k3 (q | rfl) (q' | rfl) n n' o o' e e' l l'
    · exact I.dis k k' k1 k2 k3 q q' n n' o o' e e' l l'
    · rw [hq] at e'; exact absurd e'.symm (add_ne _ _)
    · rw [hq] at e; exact absurd e.symm (add_ne _ _)
    · omega
  · rw [put_tmps]
    exact val_step D Fa hp hn I.cl ha I.val (fun b _ => ⟨rfl, rfl, rfl, rfl⟩) mono (iv.mono mono) (by rw [I.sz]; exact dst_size D Fa hsz hslot hp)
omit D in
/-- a place's name is none of those that are given -/
theorem name_new {p : Nat} (hp : p < ops.size) (hmp : m ≤ p) (hn : ¬ S p) (hadd : (hs p).next.toN < (hs (p + 1)).next.toN) : ¬ AS tt ops.size op hs m S (hs p).next := by
  rintro (q | ⟨k, k1, k2, k3, k4, k5, k6⟩)
  · have := Fa.mono hmp (by omega); omega
  · have h6 := congrArg B.toN k6
    rcases Nat.lt_trichotomy k p with z | z | z
    · have := Fa.mono (k := k + 1) (k' := p) (by omega) (by omega); omega
    · subst z; exact hn k3
    · have := Fa.mono (k := p + 1) (k' := k) (by omega) (by omega); omega
theorem Iv.make (hsz : nt ≤ sz) (hslot : ∀ t s, slot tn t = some s → t < sz) (I : Iv P tt ops an tn hl op en fs es hs ρ0 w0 sz df S a w ρ m) {p : Nat} (hp : p < ops.size) (hn : ¬ S p) (ha : ∀ k, k < ops.size → Anc an hl p k → S k)
    (hk : ko tt (op p) = .n) (hmp : m ≤ p) {x : O} (hx : hs (p + 1) = (hs p).add x) (pln : Pln x) (ind : ∀ A' : B → Prop, (∀ b, AS tt ops.size op hs m S b → A' b) → A' (hs p).next → Ind A' (vs p) ∧ IndO P tt A' (hs p).next x)
    {blk base tot es' : Nat} {w' : World} (real : Real P tt (ρ.upd (hs p).next blk base tot es' false) w' (hs p).next x) (hw : (w' = w ∧ x = .emp) ∨ ∃ X, w' = w.alloc X ∧ blk = w.heap.size) :
    Iv P tt ops an tn hl op en fs es hs ρ0 w0 sz df (fun j => S j ∨ j = p) (a.put (op p).dst (conc (ρ.upd (hs p).next blk base tot es' false) (vs p))) w' (ρ.upd (hs p).next blk base tot es' false) m := by
  have mono := AS.mono (tt := tt) (ops := ops) (op := op) (hs := hs) (m := m) (S := S) (S' := fun j => S j ∨ j = p) (fun k h => .inl h)
  have hadd : (hs p).next.toN < (hs (p + 1)).next.toN := by rw [hx, H.next_add]; omega
  have hnew := name_new Fa (m := m) (S := S) hp hmp hn hadd
  have hin : AS tt ops.size op hs m (fun j => S j ∨ j = p) (hs p).next := .inr ⟨p, hmp, hp, .inr rfl, hk, hadd, rfl⟩
  have ne : ∀ b, AS tt ops.size op hs m S b → b ≠ (hs p).next := fun b hb e => hnew (e ▸ hb)
  have ag : AgA (AS tt ops.size op hs m S) ρ (ρ.upd (hs p).next blk base tot es' false) := fun b hb => by simp [Rho.upd, ne b hb]
  have hwk : ∀ r, r < w.heap.size → w'.heap[r]? = w.heap[r]? := fun r hr => by
    rcases hw with ⟨rfl, _⟩ | ⟨X, rfl, _⟩
    · rfl
    · show (w.heap.push _)[r]? = _
      rw [Array.getElem?_push, if_neg (by omega)]
  have hws : w.heap.size ≤ w'.heap.size := by
    rcases hw with ⟨rfl, _⟩ | ⟨X, rfl, _⟩
    · exact Nat.le_refl _
    · rw [World.size_alloc]; omega
  have hrest : w'.os = w.os ∧ w'.output = w.output ∧ w'.tape = w.tape := by rcases hw with ⟨rfl, _⟩ | ⟨X, rfl, _⟩ <;> exact ⟨rfl, rfl, rfl⟩
  have fresh : Live (ρ.upd (hs p).next blk base tot es' false) (hs p).next x → blk = w.heap.size := fun l => by
    rcases hw with ⟨_, rfl⟩ | ⟨_, _, q⟩
    · exact l.elim
    · exact q
  have bp : (ρ.upd (hs p).next blk base tot es' false).blk (hs p).next = blk := by simp [Rho.upd]
  have nmN : (hs p).next.toN < (hs ops.size).next.toN := Nat.lt_of_lt_of_le hadd (Fa.mono (by omega) (Nat.le_refl _))
  have nmm : (hs m).next.toN ≤ (hs p).next.toN := Fa.mono hmp (by omega)
  have old : ∀ k, m ≤ k → k < ops.size → S k → ko tt (op k) = .n → ∀ o, hs (k + 1) = (hs k).add o → AS tt ops.size op hs m S (hs k).next := fun k k1 k2 k3 k4 o k5 =>
    .inr ⟨k, k1, k2, k3, k4, by rw [k5, H.next_add]; omega, rfl⟩
  have beq : ∀ k, m ≤ k → k < ops.size → S k → ko tt (op k) = .n → ∀ o, hs (k + 1) = (hs k).add o → (ρ.upd (hs p).next blk base tot es' false).blk (hs k).next = ρ.blk (hs k).next := fun k k1 k2 k3 k4 o k5 =>
    ((ag _ (old k k1 k2 k3 k4 o k5)).1).symm
  have oldlt : ∀ b, Live ρ b ((hs m).get b) → ρ.blk b < w.heap.size := fun b l => (I.st.g.real b).lt l
  have lold : ∀ b, Live (ρ.upd (hs p).next blk base tot es' false) b ((hs m).get b) → Live ρ b ((hs m).get b) ∧ (ρ.upd (hs p).next blk base tot es' false).blk b = ρ.blk b := fun b l => by
    have hb : b.toN < (hs m).next.toN := by
      rcases Nat.lt_or_ge b.toN (hs m).next.toN with q | q
      · exact q
      · rw [I.st.g.none b q] at l; exact l.elim
    have nb : b ≠ (hs p).next := fun e => by rw [e] at hb; omega
    exact ⟨Live.move (by simp [Rho.upd, nb]) l, by simp [Rho.upd, nb]⟩
  refine ⟨I.mN, ?_, ?_, ?_, I.st.early nmm nmN blk base tot es' hwk hws hrest.1 hrest.2.1 hrest.2.2, ?_, ?_, ?_, by rw [put_size]; exact I.sz, by rw [put_defers]; exact I.df⟩
  · rcases I.top with q | ⟨y, q1, q2, q3⟩
    · exact .inl q
    · exact .inr ⟨y, q1, q2, .inl q3⟩
  · rintro k hkN (q | rfl) k' hk' hanc
    · exact .inl (I.cl k hkN q k' hk' hanc)
    · exact .inl (ha k' hk' hanc)
  · rintro k k1 k2 k3 (q | rfl)
    · exact I.noe k k1 k2 k3 q
    · rw [hk] at k3; cases k3
  · rintro k k1 k2 (q | rfl) k3 o k4
    · obtain ⟨r1, r2, r3, r4⟩ := I.rcd k k1 k2 q k3 o k4
      refine ⟨r3 _ _ w w' ag (fun X hX => by rw [hwk _ (Array.getElem?_eq_some_iff.1 hX).1]; exact hX) r1, r2, r3.mono mono, fun l => ?_⟩
      obtain ⟨l1, l2⟩ := r4 (r2.live ρ l)
      rw [beq k k1 k2 q k3 o k4]
      refine ⟨l1, fun b lb => ?_⟩
      obtain ⟨b1, b2⟩ := lold b lb
      rw [b2]; exact l2 b b1
    · have := add_inj (hx.symm.trans k4)
      subst this
      refine ⟨real, pln, (ind _ mono hin).2, fun l => ?_⟩
      have hb := fresh l
      refine ⟨by rw [bp, hb]; exact I.st.size, fun b lb => ?_⟩
      obtain ⟨b1, b2⟩ := lold b lb
      rw [b2, bp]
      have := oldlt b b1
      omega
  · rintro k k' k1 k2 k3 (q | rfl) (q' | rfl) n n' o o' e e' l l'
    · obtain ⟨_, r2, _⟩ := I.rcd k k1 (by omega) q n o e
      obtain ⟨_, r2', _⟩ := I.rcd k' (by omega) k3 q' n' o' e'
      rw [beq k k1 (by omega) q n o e, beq k' (by omega) k3 q' n' o' e']
      exact I.dis k k' k1 k2 k3 q q' n n' o o' e e' (r2.live ρ l) (r2'.live ρ l')
    · obtain ⟨r1, r2, _⟩ := I.rcd k k1 (by omega) q n o e
      have := add_inj (hx.symm.trans e')
      subst this
      have hb := fresh l'
      rw [beq k k1 (by omega) q n o e, bp]
      have := r1.lt (r2.live ρ l)
      omega
    · obtain ⟨r1, r2, _⟩ := I.rcd k' (by omega) k3 q' n' o' e'
      have := add_inj (hx.symm.trans e)
      subst this
      have hb := fresh l
      rw [beq k' (by omega) k3 q' n' o' e', bp]
      have := r1.lt (r2.live ρ l')
      omega
    · omega
  · rw [put_tmps]
    exact val_step D Fa hp hn I.cl ha I.val ag mono (ind _ mono hin).1 (by rw [I.sz]; exact dst_size D Fa hsz hslot hp)
/-- the base is not behind a place that is not done -/
theorem Iv.base_le (I : Iv P tt ops an tn hl op en fs es hs ρ0 w0 sz df S a w ρ m) {p : Nat} (hp : p < ops.size) (hn : ¬ S p) (hk : ko tt (op p) = .n ∨ ko tt (op p) = .e) : m ≤ p := by
  rcases I.top with q | ⟨x, q1, q2, q3⟩
  · omega
  · rcases Nat.lt_or_ge p m with z | z
    · have hx : x < ops.size := by have := I.mN; omega
      rcases Nat.lt_or_ge p x with y | y
      · exact absurd (I.cl x hx q3 p hp (D.ne hx y (.inr q2) hk)) hn
      · have : p = x := by omega
        subst this; exact absurd q3 hn
    · exact z
theorem Iv.eff (hsz : nt ≤ sz) (hslot : ∀ t s, slot tn t = some s → t < sz) (I : Iv P tt ops an tn hl op en fs es hs ρ0 w0 sz df S a w ρ m) {p : Nat} (hp : p < ops.size) (hn : ¬ S p) (ha : ∀ k, k < ops.size → Anc an hl p k → S k)
    (hk : ko tt (op p) = .e) {ρ' : Rho} {w' : World} (s : Step P tt ρ (hs p) w ρ' (hs (p + 1)) w') (bv : Bd (hs (p + 1)).next.toN (vs p)) :
    Iv P tt ops an tn hl op en fs es hs ρ0 w0 sz df (fun j => S j ∨ j = p) (a.put (op p).dst (conc ρ' (vs p))) w' ρ' (p + 1) := by
  have hmp := I.base_le D Fa hp hn (.inr hk)
  have hin : ∀ j, m ≤ j → j < p → ko tt (op j) = .n ∨ ko tt (op j) = .e → S j := fun j j1 j2 j3 => ha j (by omega) (D.ne hp j2 (.inr hk) j3)
  obtain ⟨st, dj⟩ := I.pass D Fa p hmp (by omega) hin
  have le1 : (hs m).next.toN ≤ (hs p).next.toN := Fa.mono hmp (by omega)
  have le2 := Fa.le p hp
  have sub : ∀ b, AS tt ops.size op hs m S b → AS tt ops.size op hs (p + 1) (fun j => S j ∨ j = p) b := by
    rintro b (q | ⟨k, k1, k2, k3, k4, k5, k6⟩)
    · exact .inl (by omega)
    · rcases Nat.lt_trichotomy k p with z | z | z
      · have := Fa.mono (k := k + 1) (k' := p) (by omega) (by omega)
        exact .inl (by rw [k6]; omega)
      · subst z; exact absurd k3 hn
      · exact .inr ⟨k, by omega, k2, .inl k3, k4, k5, k6⟩
  have ag : AgA (AS tt ops.size op hs m S) ρ ρ' := by
    rintro b (q | ⟨k, k1, k2, k3, k4, k5, k6⟩)
    · exact s.keep.lo b (by omega)
    · rcases Nat.lt_trichotomy k p with z | z | z
      · have := Fa.mono (k := k + 1) (k' := p) (by omega) (by omega)
        exact s.keep.lo b (by rw [k6]; omega)
      · subst z; exact absurd k3 hn
      · have := Fa.mono (k := p + 1) (k' := k) (by omega) (by omega)
        exact s.keep.hi b (by rw [k6]; exact this)
  have old : ∀ k, p < k → k < ops.size → S k → ko tt (op k) = .n → ∀ o, hs (k + 1) = (hs k).add o → ρ.blk (hs k).next = ρ'.blk (hs k).next := fun k k1 k2 k3 k4 o k5 =>
    (ag _ (.inr ⟨k, by omega, k2, k3, k4, by rw [k5, H.next_add]; omega, rfl⟩)).1
  refine ⟨by omega, .inr ⟨p, rfl, hk, .inr rfl⟩, ?_, ?_, st.trans s (Fa.mono (by omega) (Nat.le_refl _)), ?_, ?_, ?_, by rw [put_size]; exact I.sz, by rw [put_defers]; exact I.df⟩
  · rintro k hkN (q | rfl) k' hk' hanc
    · exact .inl (I.cl k hkN q k' hk' hanc)
    · exact .inl (ha k' hk' hanc)
  · rintro k k1 k2 k3 (q | rfl)
    · exact hn (I.cl k k2 q p hp (D.ne k2 (by omega) (.inr k3) (.inr hk)))
    · omega
  · rintro k k1 k2 (q | rfl) k3 o k4
    · obtain ⟨r1, r2, r3, r4⟩ := I.rcd k (by omega) k2 q k3 o k4
      have stay : ∀ l : Live ρ (hs k).next o, w'.heap[ρ.blk (hs k).next]? = w.heap[ρ.blk (hs k).next]? := fun l =>
        s.frame _ (r1.lt l) (dj k (by omega) k2 q k3 o k4 l)
      refine ⟨?_, r2, r3.mono sub, fun l => ?_⟩
      · by_cases l : Live ρ (hs k).next o
        · exact r3 _ _ w w' ag (fun X hX => by rw [stay l]; exact hX) r1
        · cases o with
          | emp => trivial
          | cells => exact absurd trivial l
          | map => exact absurd trivial l
          | _ => exact r2.elim
      · have l0 := r2.live ρ l
        obtain ⟨l1, l2⟩ := r4 l0
        rw [← old k (by omega) k2 q k3 o k4]
        refine ⟨l1, fun b lb e => ?_⟩
        obtain ⟨c, hc, ec⟩ := s.fresh b lb (by rw [e]; exact r1.lt l0)
        exact dj k (by omega) k2 q k3 o k4 l0 c hc (ec.trans e)
    · omega
  · rintro k k' k1 k2 k3 (q | rfl) (q' | rfl) n n' o o' e e' l l'
    · obtain ⟨_, r2, _⟩ := I.rcd k (by omega) (by omega) q n o e
      obtain ⟨_, r2', _⟩ := I.rcd k' (by omega) k3 q' n' o' e'
      rw [← old k (by omega) (by omega) q n o e, ← old k' (by omega) k3 q' n' o' e']
      exact I.dis k k' (by omega) k2 k3 q q' n n' o o' e e' (r2.live ρ l) (r2'.live ρ l')
    · omega
    · omega
    · omega
  · rw [put_tmps]
    exact val_step D Fa hp hn I.cl ha I.val ag sub (Ind.of_bd bv fun b hb => .inl hb) (by rw [I.sz]; exact dst_size D Fa hsz hslot hp)
end
end Go.Ads
set_option autoImplicit false
set_option linter.unusedSimpArgs false
set_option linter.unusedVariables false
set_option linter.unusedSectionVars false
namespace Go.Ads

/-! ### What comes before an operation -/
def stepF (acc : List Nat) (m : Nat) (e : Edge) : Nat := if Region.binds .any e = true then m ||| (1 <<< e.on) ||| (acc.getD e.on 0) else m
theorem ancs_cons (o : Oper) (l : List Oper) (acc : List Nat) : ancs (o :: l) acc = ancs l (acc ++ [o.after.toList.foldl (stepF acc) 0]) := by
  have : ∀ (L : List Edge) (m : Nat), L.foldl (fun m e => match Region.binds .any e with | true => m ||| (1 <<< e.on) ||| (acc.getD e.on 0) | false => m) m = L.foldl (stepF acc) m := by
    intro L
    induction L with
    | nil => intro m; rfl
    | cons e L ih =>
      intro m
      rw [List.foldl_cons, List.foldl_cons, ih]
      unfold stepF
      cases Region.binds .any e <;> rfl
  show ancs l (acc ++ [o.after.toList.foldl _ 0]) = _
  rw [← this]
  rfl
theorem bit_fold (acc : List Nat) (j : Nat) : ∀ (L : List Edge) (m0 : Nat), Nat.testBit (L.foldl (stepF acc) m0) j = true ↔
    Nat.testBit m0 j = true ∨ ∃ e ∈ L, Region.binds .any e = true ∧ (j = e.on ∨ Nat.testBit (acc.getD e.on 0) j = true) := by
  intro L
  induction L with
  | nil => intro m0; simp
  | cons e L ih =>
    intro m0
    rw [List.foldl_cons, ih]
    cases hb : Region.binds .any e with
    | false => simp [stepF, hb]
    | true =>
      simp only [stepF, hb, if_true, Nat.testBit_or, Bool.or_eq_true, Nat.one_shiftLeft, Nat.testBit_two_pow, decide_eq_true_eq, List.mem_cons, exists_eq_or_imp, true_and]
      constructor
      · rintro (((h | h) | h) | h)
        · exact .inl h
        · exact .inr (.inl (.inl h.symm))
        · exact .inr (.inl (.inr h))
        · exact .inr (.inr h)
      · rintro (h | (h | h) | h)
        · exact .inl (.inl (.inl h))
        · exact .inl (.inl (.inr h.symm))
        · exact .inl (.inr h)
        · exact .inr h
theorem ancs_pre : ∀ (l : List Oper) (acc : List Nat) (n : Nat), n < acc.length → (ancs l acc).getD n 0 = acc.getD n 0 := by
  intro l
  induction l with
  | nil => intro acc n _; rfl
  | cons o l ih =>
    intro acc n hn
    rw [ancs_cons]
    rw [ih _ n (by simp; omega)]
    simp [List.getElem?_append_left hn]
theorem ancs_bit : ∀ (l : List Oper) (acc : List Nat) (i : Nat) (o : Oper) (j : Nat), l[i]? = some o → Nat.testBit ((ancs l acc).getD (acc.length + i) 0) j = true →
    ∃ e ∈ o.after, Region.binds .any e = true ∧ (j = e.on ∨ Nat.testBit ((ancs l acc).getD e.on 0) j = true) := by
  intro l
  induction l with
  | nil => intro acc i o j h; simp at h
  | cons o' l ih =>
    intro acc i o j h hb
    cases i with
    | zero =>
      simp only [List.getElem?_cons_zero, Option.some.injEq] at h
      subst h
      rw [ancs_cons] at hb ⊢
      rw [Nat.add_zero, ancs_pre _ _ _ (by simp)] at hb
      simp only [List.getD_eq_getElem?_getD, List.getElem?_append_right (Nat.le_refl _), Nat.sub_self, List.getElem?_cons_zero, Option.getD_some] at hb
      have hb2 := (bit_fold acc j o'.after.toList 0).1 hb
      rcases hb2 with q | ⟨e, he, hbn, q⟩
      · simp at q
      · refine ⟨e, by simpa using he, hbn, ?_⟩
        rcases q with q | q
        · exact .inl q
        · refine .inr ?_
          have hlt : e.on < acc.length := by
            apply Classical.byContradiction
            intro z
            have : acc.getD e.on 0 = 0 := by simp [List.getElem?_eq_none (by omega : acc.length ≤ e.on)]
            rw [this] at q; simp at q
          rw [ancs_pre _ _ _ (by simp; omega)]
          simpa [List.getElem?_append_left hlt] using q
    | succ i =>
      simp only [List.getElem?_cons_succ] at h
      rw [ancs_cons] at hb ⊢
      exact ih _ i o j h (by simpa [Nat.add_assoc, Nat.add_comm 1 i] using hb)
theorem ancs_edge : ∀ (l : List Oper) (acc : List Nat) (i : Nat) (o : Oper), l[i]? = some o → ∀ e ∈ o.after, Region.binds .any e = true → Nat.testBit ((ancs l acc).getD (acc.length + i) 0) e.on = true := by
  intro l
  induction l with
  | nil => intro acc i o h; simp at h
  | cons o' l ih =>
    intro acc i o h e he hb
    cases i with
    | zero =>
      simp only [List.getElem?_cons_zero, Option.some.injEq] at h
      subst h
      rw [ancs_cons]
      rw [Nat.add_zero, ancs_pre _ _ _ (by simp)]
      simp only [List.getD_eq_getElem?_getD, List.getElem?_append_right (Nat.le_refl _), Nat.sub_self, List.getElem?_cons_zero, Option.getD_some]
      exact (bit_fold acc e.on o'.after.toList 0).2 (.inr ⟨e, by simpa using he, hb, .inl rfl⟩)
    | succ i =>
      simp only [List.getElem?_cons_succ] at h
      rw [ancs_cons]
      have := ih (acc ++ [o'.after.toList.foldl (stepF acc) 0]) i o h e he hb
      simpa [Nat.add_assoc, Nat.add_comm 1 i] using this

section
variable {P : Program} {tt : TT} {inv : Inv} {ops : Array Oper} {an tn : List Nat} {nt : Nat} {hl : List Nat} {op : Nat → Oper} {en : Nat → Env} {fs : Nat → FR} {es : Nat → V} {hs : Nat → H} {vs : Nat → V}
variable {ρ0 ρ : Rho} {w0 w : World} {sz : Nat} {df : List Deferred} {S : Nat → Prop} {a : Act} {m : Nat}
variable (D : Dr tt inv ops an tn nt hl op en fs es hs vs) (Fa : Df tt ops tn op en fs es hs vs)
include D Fa
theorem rbd (k : Nat) (hk : k ≤ ops.size) : RBd (rfOf tn (en k)) (hs k).next.toN (fs k) (es k) := fun x q hq => Rf.ev_bd (rfOf_b hq (Fa.eb k hk)) (Fa.bf k hk) (Fa.be k hk)
/-- names up to a place that all that is before has been done for -/
theorem names_in {p : Nat} : ∀ (k : Nat), m ≤ k → k ≤ p → p < ops.size → (∀ j, m ≤ j → j < p → ko tt (op j) = .n ∨ ko tt (op j) = .e → S j) → (∀ j, m ≤ j → j < ops.size → ko tt (op j) = .e → ¬ S j) → ∀ b : B, b.toN < (hs k).next.toN → AS tt ops.size op hs m S b := by
  intro k
  induction k with
  | zero => intro h1 _ _ _ _ b hb; have : m = 0 := by omega
            subst this; exact .inl hb
  | succ k ih =>
    intro h1 h2 hp hin hno b hb
    rcases Nat.lt_or_ge k m with q | q
    · have : m = k + 1 := by omega
      subst this; exact .inl hb
    · rcases Nat.lt_or_ge b.toN (hs k).next.toN with z | z
      · exact ih q (by omega) hp hin hno b z
      · have same : hs (k + 1) = hs k → AS tt ops.size op hs m S b := fun e => by rw [e] at hb; omega
        cases hk : ko tt (op k) with
        | p => exact same (Fa.quiet k (by omega) (.inl hk))
        | r => exact same (Fa.quiet k (by omega) (.inr hk))
        | e => exact absurd (hin k q (by omega) (.inr hk)) (hno k q (by omega) hk)
        | n =>
          rcases Fa.news k (by omega) hk with e | ⟨o, e⟩
          · exact same e
          · rw [e, H.next_add] at hb
            exact .inr ⟨k, q, by omega, hin k q (by omega) (.inl hk), hk, by rw [e, H.next_add]; omega, B.toN_inj (by omega)⟩
/-- what an operation reads, whenever it is carried out -/
theorem Iv.read (tk : TTok P tt) (I : Iv P tt ops an tn hl op en fs es hs ρ0 w0 sz df S a w ρ m) {p : Nat} (hp : p < ops.size) (hn : ¬ S p) (ha : ∀ k, k < ops.size → Anc an hl p k → S k) (hk : ko tt (op p) = .r)
    {io : IOp} {gd : Option (Rf × Bool)} (hio : cio tt (rfOf tn (en p)) (op p).op = some io) (hgd : gOf ops.toList tn (en p) (op p) = some gd) (hw : ∀ r b, gd = some (r, b) → r.ev (fs p) (es p) = .bool b)
    {h' : H} (he : opT inv io (fs p) (es p) (hs p) = .ok (vs p) h') : (execOp a.eval (op p)).run P w = .ok (.value (conc ρ (vs p))) w ∧ Ind (AS tt ops.size op hs m S) (vs p) := by
  have lk := I.look D hp hn ha
  rcases Nat.lt_or_ge p m with q | q
  · rcases I.top with z | ⟨x, rfl, z2, z3⟩
    · omega
    · have hx : x < ops.size := by have := I.mN; omega
      have hpx : p < x := by
        rcases Nat.lt_or_ge p x with y | y
        · exact y
        · have : p = x := by omega
          subst this; exact absurd z3 hn
      have hnb : Nat.testBit (an.getD (ixOf hl x) 0) (ixOf hl p) = false := by
        cases y : Nat.testBit (an.getD (ixOf hl x) 0) (ixOf hl p) with
        | false => rfl
        | true => exact absurd (I.cl x hx z3 p hp y) hn
      obtain ⟨c1, t, qf, io', g, c2, c3, c4, c5, c6⟩ := D.chk hx z2 _ (D.mem_take hx hpx) _ (D.oper hp) hk hnb
      unfold chkOk at c1
      rw [List.all_eq_true] at c1
      have cj : ∀ j, j ≤ x → ∀ u, (op j).dst = some u → (u ∉ readsG ops.toList (op p) ∨ Anc an hl p j) ∧ ((op p).dst ≠ some u ∨ j = p ∨ Anc an hl p j) := by
        intro j hj u hu
        have hjm : ixOf hl j ∈ hl.take x ++ [ixOf hl x] := by
          rcases Nat.lt_or_ge j x with y | y
          · exact List.mem_append_left _ (D.mem_take hx y)
          · have : j = x := by omega
            subst this; exact List.mem_append_right _ (List.mem_singleton.2 rfl)
        have := c1 _ hjm
        rw [D.oper (k := j) (by omega)] at this
        simp only [hu, Bool.and_eq_true, Bool.or_eq_true, Bool.not_eq_true', bne_iff_ne, ne_eq] at this
        obtain ⟨y1, y2⟩ := this
        refine ⟨?_, ?_⟩
        · rcases y1 with y1 | y1
          · refine .inl fun y => ?_
            rw [List.contains_iff_mem.2 y] at y1; cases y1
          · exact .inr y1
        · rcases y2 with (y2 | y2) | y2
          · exact .inl y2
          · exact .inr (.inl (D.inj (by omega) hp (Nat.eq_of_beq_eq_true y2)))
          · exact .inr (.inr y2)
      have lk' : ∀ u ∈ readsG ops.toList (op p), ∀ r, rfT tn (en (x + 1)) u = some r → a.tmps[u]? = some (conc ρ (r.ev (fs (x + 1)) (es (x + 1)))) := by
        intro u hu r hr
        refine (I.val (x + 1) (by omega) u r hr fun j hj hjd => ⟨fun y => ?_, fun y => ?_⟩).1
        · have hne : j ≠ p := fun e => hn (e ▸ y)
          rcases D.tmp hp hj (fun e => hne e.symm) hjd (.inl hu) with z | z
          · have := D.anc_lt hp hj z; omega
          · exact absurd (I.cl j hj y p hp z) hn
        · rcases (cj j (by omega) u hjd).1 with z | z
          · exact absurd hu z
          · exact ha j hj z
      have hval : qf.ev (fs (x + 1)) (es (x + 1)) = vs p := by
        obtain ⟨r0, y1, y2⟩ := D.persist Fa (k := p + 1) (k' := x + 1) (by omega) (by omega) (fun j j1 j2 hj => by
          rcases (cj j (by omega) t hj).2 with z | z | z
          · exact z c2
          · omega
          · have := D.anc_lt hp (by omega) z; omega) c3
        rw [← y2]
        exact (D.step hp).new c2 y1
      have hprem : ∀ r b, g = some (r, b) → r.ev (fs (x + 1)) (es (x + 1)) = .bool b := by
        rintro r b rfl
        rcases gOf_inv c5 with ⟨_, y⟩ | ⟨j, b', qo, u, r', y1, y2, y3, y4, y5⟩
        · cases y
        · cases y5
          have hur := guard_reads y1 y2 y3
          rcases gOf_inv hgd with ⟨y6, _⟩ | ⟨j2, b2, q2, u2, r2, x1, x2, x3, x4, rfl⟩
          · rw [y1] at y6; cases y6
          · rw [y1] at x1; cases x1
            rw [y2] at x2; cases x2
            rw [y3] at x3; cases x3
            have h1 := lk' u hur _ y4
            rw [(lk u hur _ x4).1, hw _ _ rfl] at h1
            simp only [conc, Option.some.injEq] at h1
            exact conc_bool h1.symm
      obtain ⟨h'', hop⟩ := c6 hprem
      rw [hval] at hop
      obtain ⟨r1, r2⟩ := read_run tk I.st.g (rbd D Fa (x + 1) (by omega)) hk c4 hop (Lk.opc (L := ops.toList) (fun u hu r hr => lk' u hu r hr))
      exact ⟨r1, Ind.of_bd r2 fun b hb => .inl hb⟩
  · have hin : ∀ j, m ≤ j → j < p → ko tt (op j) = .n ∨ ko tt (op j) = .e → S j := fun j j1 j2 j3 => ha j (by omega) (D.ne hp j2 (.inl hk) j3)
    obtain ⟨st, _⟩ := I.pass D Fa p q (by omega) hin
    obtain ⟨r1, r2⟩ := read_run tk st.g (rbd D Fa p (by omega)) hk hio he (Lk.opc (L := ops.toList) (fun u hu r hr => (lk u hu r hr).1))
    exact ⟨r1, Ind.of_bd r2 (names_in D Fa p q (Nat.le_refl _) hp hin I.noe)⟩
/-- **an operation is carried out, whenever it comes** -/
theorem exec (tk : TTok P tt) {F : Fence} (hF : Open F) (hi : InvOk P tt inv) {Q : Exit → Act → World → Prop} {next : Act → World → Prop} (hsz : nt ≤ sz) (hslot : ∀ t s, slot tn t = some s → t < sz)
    (I : Iv P tt ops an tn hl op en fs es hs ρ0 w0 sz df S a w ρ m) {p : Nat} (hp : p < ops.size) (hn : ¬ S p) (ha : ∀ k, k < ops.size → Anc an hl p k → S k)
    (K : ∀ a' w' ρ' m', Iv P tt ops an tn hl op en fs es hs ρ0 w0 sz df (fun j => S j ∨ j = p) a' w' ρ' m' → next a' w') : wpOpIn F 0 P ops Q (ixOf hl p) next a w := by
  have lk := I.look D hp hn ha
  have lk1 : Lk ops.toList tn (op p) (en p) (fs p) (es p) ρ a.tmps := fun t ht r hr => (lk t ht r hr).1
  have opi : OpI (AS tt ops.size op hs m S) (rfOf tn (en p)) (op p) (fs p) (es p) := lk_opi (L := ops.toList) fun t ht r hr => (lk t ht r hr).2
  have opc : OpC a ρ (rfOf tn (en p)) (op p) (fs p) (es p) := lk1.opc
  have hb := rbd D Fa p (by omega)
  have ho := D.oper' hp
  rcases D.step hp with ⟨wr, t, q, hal, hkn, e1, e2, e3, e4, e5⟩ | ⟨io, gd, d, h1, h2, h3, h4, h5, h6⟩
  · obtain ⟨a1, a2, a3, a4, x, a5, a6⟩ := alias_ok hal
    have hx : x ∈ (op p).op.operands := by rcases a5 with a5 | a5 <;> (rw [a5]; simp [Op.operands])
    have hko : ko tt (op p) = .p := by unfold ko; rcases a5 with a5 | a5 <;> rw [a5]
    refine copy_ok hF I.st.g ho a1 a5 ?_
    rw [opc x hx q a6, ← e5]
    exact K _ _ _ _ (I.quiet D Fa hsz hslot hp hn ha (by rw [hko]; intro z; cases z) e4 (by rw [e5]; exact opi x hx q a6))
  · rcases wanted_lk lk1 h2 h4 with ⟨w1, w2, w3⟩ | ⟨w1, w2, w3⟩
    · have hd : ∀ c, (op p).op ≠ .defer c := fun c q => by rw [q] at h1; cases h1; cases w3
      cases hk : ko tt (op p) with
      | p =>
        refine run_value hF ho w1 hd (pure_run tk hb hk h1 w3 opc w) ?_
        exact K _ _ _ _ (I.quiet D Fa hsz hslot hp hn ha (by rw [hk]; intro z; cases z) (Fa.quiet p hp (.inl hk)) (pure_ind (P := P) tk hb hk h1 w3 opi w))
      | r =>
        obtain ⟨r1, r2⟩ := I.read D Fa tk hp hn ha hk h1 h2 w2 w3
        refine run_value hF ho w1 hd r1 ?_
        exact K _ _ _ _ (I.quiet D Fa hsz hslot hp hn ha (by rw [hk]; intro z; cases z) (Fa.quiet p hp (.inr hk)) r2)
      | n =>
        rcases new_ind (P := P) tk hb hk h1 w3 opi w with ⟨n1, n2, n3⟩ | ⟨x, n1, n2, n3, n4⟩
        · refine run_value hF ho w1 hd (n3 ρ a opc w) ?_
          exact K _ _ _ _ (I.quiet D Fa hsz hslot hp hn ha (by rw [hk]; intro z; cases z) n1 n2)
        · obtain ⟨blk, base, tot, es', w', r1, r2, r3⟩ := n4 ρ a opc w
          refine run_value hF ho w1 hd r1 ?_
          exact K _ _ _ _ (I.make D Fa hsz hslot hp hn ha hk (I.base_le D Fa hp hn (.inl hk)) n1 n2 n3 r2 (by
            rcases r3 with r3 | ⟨X, r3, r4⟩
            · exact .inl r3
            · exact .inr ⟨X, r3, r4⟩))
      | e =>
        have hin : ∀ j, m ≤ j → j < p → ko tt (op j) = .n ∨ ko tt (op j) = .e → S j := fun j j1 j2 j3 => ha j (by omega) (D.ne hp j2 (.inr hk) j3)
        obtain ⟨st, _⟩ := I.pass D Fa p (I.base_le D Fa hp hn (.inr hk)) (by omega) hin
        unfold wpOpIn
        simp only [ho, w1, if_true]
        exact op_wp' tk hF hi st.g (EV.of_opc opc) (EV.ops hb) hd h1 w3 fun ρ' w' s bv => K _ _ _ _ (I.eff D Fa hsz hslot hp hn ha hk s bv)
    · refine run_not hF ho w1 ?_
      have hv : ∀ ρ', conc ρ' (vs p) = undef := fun ρ' => by rw [w2, conc_un]
      by_cases hk : ko tt (op p) = .e
      · have hin : ∀ j, m ≤ j → j < p → ko tt (op j) = .n ∨ ko tt (op j) = .e → S j := fun j j1 j2 j3 => ha j (by omega) (D.ne hp j2 (.inr hk) j3)
        obtain ⟨st, _⟩ := I.pass D Fa p (I.base_le D Fa hp hn (.inr hk)) (by omega) hin
        have s : Step P tt ρ (hs p) w ρ (hs (p + 1)) w := by rw [w3]; exact Step.refl st.g
        rw [← hv ρ]
        exact K _ _ _ _ (I.eff D Fa hsz hslot hp hn ha hk s (by rw [w2]; trivial))
      · rw [← hv ρ]
        exact K _ _ _ _ (I.quiet D Fa hsz hslot hp hn ha hk w3 (by rw [w2]; exact Ind.of_bd (n := 0) trivial (fun b hb => by omega)))
end
/-- what is not listed yet -/
def unl (n : Nat) (listed : Array Bool) : List Nat := (List.range n).filter fun i => !listed.getD i true
theorem unl_lt {n : Nat} {listed : Array Bool} {i : Nat} (hi : i < n) (hs : listed.size = n) (h : listed.getD i true = false) : (unl n (listed.setIfInBounds i true)).length < (unl n listed).length := by
  have : unl n (listed.setIfInBounds i true) = (unl n listed).filter (fun j => j != i) := by
    unfold unl
    rw [List.filter_filter]
    apply List.filter_congr
    intro j _
    by_cases e : j = i
    · subst e
      simp [hs, hi]
    · rw [getD_set_ne _ (fun z => e z.symm)]
      simp [e]
  rw [this, List.length_filter_lt_length_iff_exists]
  refine ⟨i, ?_, by simp⟩
  unfold unl
  rw [List.mem_filter, List.mem_range, h]
  exact ⟨hi, rfl⟩
section
variable {P : Program} {tt : TT} {inv : Inv} {ops : Array Oper} {tn : List Nat} {nt : Nat} {hl : List Nat} {op : Nat → Oper} {en : Nat → Env} {fs : Nat → FR} {es : Nat → V} {hs : Nat → H} {vs : Nat → V}
variable {ρ0 : Rho} {w0 : World} {sz : Nat} {df : List Deferred}
def SL (ops : Array Oper) (hl : List Nat) (listed : Array Bool) (k : Nat) : Prop := k < ops.size ∧ listed.getD (ixOf hl k) false = true
theorem getD_two {listed : Array Bool} {i : Nat} (hi : i < listed.size) (d d' : Bool) : listed.getD i d = listed.getD i d' := by simp [Array.getD, hi]
theorem any_ok (D : Dr tt inv ops (ancs ops.toList []) tn nt hl op en fs es hs vs) (Fa : Df tt ops tn op en fs es hs vs) (tk : TTok P tt) {F : Fence} (hF : Open F) (hi : InvOk P tt inv) {Q : Exit → Act → World → Prop} (hsz : nt ≤ sz) (hslot : ∀ t s, slot tn t = some s → t < sz)
    (K : ∀ a' w' ρ', StepK P tt (hs ops.size).next.toN ρ0 (hs 0) w0 ρ' (hs ops.size) w' → FrRel ρ' tn nt a'.tmps (fs ops.size) → a'.defers = df → Q .normal a' w') :
    ∀ (fuel : Nat) (listed : Array Bool) (a : Act) (w : World), listed.size = ops.size → (unl ops.size listed).length ≤ fuel → (∃ ρ m, Iv P tt ops (ancs ops.toList []) tn hl op en fs es hs ρ0 w0 sz df (SL ops hl listed) a w ρ m) →
      wpAnyIn F 0 P .any ops Q fuel listed a w := by
  have final : ∀ (S : Nat → Prop) a w ρ m, Iv P tt ops (ancs ops.toList []) tn hl op en fs es hs ρ0 w0 sz df S a w ρ m → (∀ k, k < ops.size → S k) → Q .normal a w := by
    intro S a w ρ m I hall
    obtain ⟨st, _⟩ := I.pass D Fa ops.size I.mN (Nat.le_refl _) fun j _ j2 _ => hall j j2
    refine K a w ρ st ⟨by rw [I.sz]; exact hsz, fun t s hts => ?_⟩ I.df
    exact (I.val ops.size (Nat.le_refl _) t (.s s) (by unfold rfT; rw [hts]) fun j hj _ => ⟨fun _ => hj, fun _ => hall j hj⟩).1
  have done : ∀ (listed : Array Bool), listed.size = ops.size → Region.ready .any ops listed = [] → ∀ k, k < ops.size → SL ops hl listed k := by
    intro listed hsl hr k
    induction k using Nat.strongRecOn with
    | _ k ih =>
      intro hk
      apply Classical.byContradiction
      intro hns
      have : ixOf hl k ∈ Region.ready .any ops listed := by
        rw [mem_ready]
        refine ⟨?_, op k, D.oper' hk, fun e he hb => ?_⟩
        · have h1 : listed.getD (ixOf hl k) false ≠ true := fun z => hns ⟨hk, z⟩
          rw [getD_two (by rw [hsl]; exact D.lt hk) true false]
          simpa using h1
        · have hbit := ancs_edge ops.toList [] (ixOf hl k) (op k) (D.oper hk) e he hb
          simp only [List.length_nil, Nat.zero_add] at hbit
          obtain ⟨q, q1, q2⟩ := D.anc hk (D.edge hk he) hbit
          rw [← q2]
          exact (ih q q1 (by omega)).2
      rw [hr] at this
      cases this
  intro fuel
  induction fuel with
  | zero =>
    intro listed a w hsl hu ⟨ρ, m, I⟩
    have hr : Region.ready .any ops listed = [] := by
      rw [List.eq_nil_iff_forall_not_mem]
      intro i hi'
      rw [mem_ready] at hi'
      obtain ⟨h1, o, h2, _⟩ := hi'
      have hlt := (Array.getElem?_eq_some_iff.1 h2).1
      have : i ∈ unl ops.size listed := by unfold unl; rw [List.mem_filter, List.mem_range, h1]; exact ⟨hlt, rfl⟩
      have := List.length_pos_of_mem this
      omega
    exact ⟨hr, final _ a w ρ m I (done listed hsl hr)⟩
  | succ fuel ih =>
    intro listed a w hsl hu ⟨ρ, m, I⟩
    refine ⟨fun hr => final _ a w ρ m I (done listed hsl hr), fun i hi' => ?_⟩
    rw [mem_ready] at hi'
    obtain ⟨h1, o, h2, h3⟩ := hi'
    have hlt := (Array.getElem?_eq_some_iff.1 h2).1
    obtain ⟨p, hp, rfl⟩ := D.surj hlt
    have ho : o = op p := by have := D.oper' hp; rw [h2] at this; exact Option.some.inj this
    subst ho
    have hn : ¬ SL ops hl listed p := fun z => by
      have := z.2
      rw [getD_two (by rw [hsl]; exact hlt) false true, h1] at this
      cases this
    have ha : ∀ k, k < ops.size → Anc (ancs ops.toList []) hl p k → SL ops hl listed k := by
      intro k hk hanc
      obtain ⟨e, e1, e2, e3⟩ := ancs_bit ops.toList [] (ixOf hl p) (op p) (ixOf hl k) (D.oper hp) (by simpa [Anc] using hanc)
      obtain ⟨q, q1, q2⟩ := D.surj (D.edge hp e1)
      have hq : SL ops hl listed q := ⟨q1, by rw [q2]; exact h3 e e1 e2⟩
      rcases e3 with e3 | e3
      · have : k = q := D.inj hk q1 (by rw [e3, q2])
        subst this; exact hq
      · exact I.cl q q1 hq k hk (by unfold Anc; rw [q2]; exact e3)
    refine exec D Fa tk hF hi hsz hslot I hp hn ha fun a' w' ρ' m' I' => ih _ a' w' (by simpa using hsl) ?_ ⟨ρ', m', ?_⟩
    · have := unl_lt (n := ops.size) hlt hsl h1
      omega
    · have : SL ops hl (listed.setIfInBounds (ixOf hl p) true) = fun j => SL ops hl listed j ∨ j = p := by
        funext k
        apply propext
        constructor
        · rintro ⟨k1, k2⟩
          by_cases e : k = p
          · exact .inr e
          · have : ixOf hl p ≠ ixOf hl k := fun z => e (D.inj hp k1 z).symm
            rw [getD_set_ne _ this] at k2
            exact .inl ⟨k1, k2⟩
        · rintro (⟨k1, k2⟩ | rfl)
          · refine ⟨k1, ?_⟩
            by_cases e : k = p
            · subst e; simp [hsl, hlt]
            · have : ixOf hl p ≠ ixOf hl k := fun z => e (D.inj hp k1 z).symm
              rw [getD_set_ne _ this]; exact k2
          · exact ⟨hp, by simp [hsl, hlt]⟩
      rw [this]; exact I'
/-- **a region that draws, by its schedule** -/
theorem draw_ok (tk : TTok P tt) (hm : P.follows .mixedOrders = true) : DrawOk P tt := by
  intro inv hi F hF id ops Q tn nt wr hl os ρ h h' w a f f' ht hc he g fr bf K
  obtain ⟨op, en, fs, es, hs, vs, a1, a2, a3, a4, a5, a6, a7, a8⟩ := draw_tr hl [] [] os f .nl h hc he
  have hlen : hl.length = ops.size := by simpa using a7
  have D : Dr tt inv ops (ancs ops.toList []) tn nt hl op en fs es hs vs := ⟨hlen, fun k i hk => by simpa using a8 k i hk, a1, ht⟩
  have g' : G P tt ρ (hs 0) w.drew := by rw [a4]; exact g.same rfl
  have Fa := D.facts tk hi g' (tmps := a.tmps) (by rw [a2]; exact fr) (by rw [a2, a4]; exact bf) (by rw [a3, a4]; trivial)
  rw [hlen] at a5 a6
  refine wpIn_region_any hm (any_ok (ρ0 := ρ) (w0 := w.drew) (sz := a.tmps.size) (df := a.defers) D Fa tk hF hi fr.1 (fun t s hs => (Array.getElem?_eq_some_iff.1 (fr.2 t s hs)).1) (fun a' w' ρ' st fr' hd => ?_)
    ops.size _ a w.drew (by simp) ?_ ⟨ρ, 0, ?_⟩)
  · refine K a' w' ⟨ρ', ?_, by rw [← a5]; exact fr', ?_, by rw [hd]; exact Marks.refl _ _ _ _, fun _ => hd⟩
    · have := st.toStep
      rw [a4, a6] at this
      exact (Step.drew g).trans this
    · have := Fa.bf ops.size (Nat.le_refl _)
      rw [a5, a6] at this
      exact this
  · have := List.length_filter_le (fun i => !(Array.replicate ops.size false).getD i true) (List.range ops.size)
    simpa [unl] using this
  · have hS : ∀ k, ¬ SL ops hl (Array.replicate ops.size false) k := by
      rintro k ⟨k1, k2⟩
      simp [Array.getD] at k2
    refine ⟨Nat.zero_le _, .inl rfl, fun k _ q => absurd q (hS k), fun k _ _ _ => hS k, StepK.refl g' (Fa.mono (Nat.zero_le _) (Nat.le_refl _)), fun k _ _ q => absurd q (hS k), fun k _ _ _ _ q => absurd q (hS k), ?_, rfl, rfl⟩
    intro k hk t r hr hcond
    have hno : ∀ j, 0 ≤ j → j < k → (op j).dst ≠ some t := fun j _ hj hd => (hS j) ((hcond j (by omega) hd).2 hj)
    obtain ⟨r0, q1, q2⟩ := D.persist Fa (Nat.zero_le k) hk hno hr
    rw [← q2]
    rw [D.env0] at q1
    unfold rfT at q1
    cases hslot : slot tn t with
    | none => rw [hslot] at q1; cases q1
    | some s =>
      rw [hslot] at q1
      cases q1
      have := fr.2 t s hslot
      rw [a2]
      refine ⟨this, Ind.of_bd (n := (hs 0).next.toN) ?_ fun b hb => .inl hb⟩
      have := Fa.bf 0 (Nat.zero_le _) s
      rw [a2] at this
      exact this
end
end Go.Ads
set_option autoImplicit false
set_option linter.unusedSimpArgs false
set_option linter.unusedVariables false
namespace Go.Ads
section
variable {P : Program} {tt : TT} {ρ ρ' : Rho} {h h' : H} {w w' : World} {tn : List Nat} {nt : Nat} {inv : Inv} {N : Nat}

theorem orec_some {α β : Type} {k : α → Option β} {o : Option α} {r : β} (e : (Option.rec none k o : Option β) = some r) : ∃ x, o = some x ∧ k x = some r := by
  cases o <;> first | exact ⟨_, rfl, e⟩ | cases e
/-! ### Marks are come to -/
def Rho.shut (ρ : Rho) (b : B) : Rho := { ρ with lv := fun c => if c = b then false else ρ.lv c }
theorem Rho.shut_agree (n : Nat) (ρ : Rho) (b : B) : ρ.Agree n (ρ.shut b) := fun _ _ => ⟨rfl, rfl, rfl, rfl⟩
theorem Step.shut {ρ0 : Rho} {h0 : H} {w0 : World} (s : Step P tt ρ0 h0 w0 ρ h w) {b : B} (hb : h.get b = .dfr) (lv : ρ.lv b = true) (ge : h0.next.toN ≤ b.toN) :
    Step P tt ρ0 h0 w0 (ρ.shut b) h (w.putObj (ρ.blk b) (.deferred none)) := by
  have live : Live ρ b (h.get b) := by rw [hb]; exact lv
  have lo : ∀ c, Live (ρ.shut b) c (h.get c) → c ≠ b ∧ Live ρ c (h.get c) := fun c hc => by
    have ne : c ≠ b := fun e => by subst e; rw [hb] at hc; simp [Live, Rho.shut] at hc
    exact ⟨ne, Live.move (ρ := ρ.shut b) (ρ' := ρ) (by simp [Rho.shut, ne]) hc⟩
  refine ⟨s.le, ⟨fun c hc => s.keep.lo c hc, fun c hc => s.keep.hi c hc, fun c hc => ?_⟩, ⟨fun c => ?_, fun c d lc ld e => s.g.inj c d (lo c lc).2 (lo d ld).2 e, s.g.bd, s.g.none⟩, fun r hr hl => ?_, by rw [World.putObj_size]; exact s.size, fun c lc hlt => ?_, s.loops, s.dfrs, s.os, s.out, s.tape, fun c r vs hc => by
    obtain ⟨h1, h2⟩ := s.glbs c r vs hc
    refine ⟨h1, ?_⟩
    have ne : c ≠ b := fun e => by rw [e, hb] at h1; cases h1
    rw [World.putObj_heap_other fun e => ne (s.g.inj c b (s.g.glb h1).2.2 live ((s.g.glb h1).1.trans e))]; exact h2⟩
  · have ne : c ≠ b := fun e => by rw [e] at hc; omega
    rw [s.keep.lv c hc]; simp [Rho.shut, ne]
  · by_cases e : c = b
    · subst e; rw [hb]; intro q; simp [Rho.shut] at q
    · rcases Nat.lt_or_ge c.toN h.next.toN with q | q
      · exact (s.g.real c).move (ρ.shut_agree _ b) q (by simp [Rho.shut, e]) (s.g.bd c) fun l => World.putObj_heap_other fun z => e (s.g.inj c b l live z)
      · rw [s.g.none c q]; trivial
  · have : r ≠ ρ.blk b := fun e => by
      obtain ⟨c, hc, ec⟩ := s.fresh b live (e ▸ hr)
      exact hl c hc (ec.trans e.symm)
    rw [World.putObj_heap_other this]; exact s.frame r hr hl
  · exact s.fresh c (lo c lc).2 hlt
theorem leaves_ok {F : Fence} {fn : Func} {tmps : Array Value} {R : Ending → World → Prop} {ρ0 : Rho} {h0 : H} {w0 : World} : ∀ (L : List B) (ρ : Rho) (w : World), Step P tt ρ0 h0 w0 ρ h w → L.Nodup →
    (∀ b ∈ L, h0.next.toN ≤ b.toN ∧ h.get b = .dfr ∧ ρ.lv b = true) →
    (∀ ρ' w', Step P tt ρ0 h0 w0 ρ' h w' → (∀ n, ρ.Agree n ρ') → ∃ v, (results fn tmps).run P w' = .ok v w' ∧ R (.returned v) w') → LeavesInM F 0 P fn tmps R (L.map (markOf ρ)) .returning w := by
  intro L
  induction L with
  | nil => intro ρ w s _ _ K; exact K ρ w s fun n => .refl _ _
  | cons b L ih =>
    intro ρ w s nd hL K
    obtain ⟨a1, a2, a3⟩ := hL b List.mem_cons_self
    have real := s.g.real b
    rw [a2] at real
    have hr := real a3
    rw [List.nodup_cons] at nd
    refine ⟨by simp, .inl ⟨_, _, rfl, run_takeDeferred hr, ?_⟩⟩
    have := ih (ρ.shut b) (w.putObj (ρ.blk b) (.deferred none)) (s.shut a2 a3 a1) nd.2 (fun c hc => ?_) (fun ρ' w' s' ag => K ρ' w' s' fun n => (ρ.shut_agree n b).trans (ag n))
    · exact this
    · obtain ⟨b1, b2, b3⟩ := hL c (List.mem_cons_of_mem _ hc)
      refine ⟨b1, b2, ?_⟩
      have ne : c ≠ b := fun e => nd.1 (e ▸ hc)
      simp [Rho.shut, ne, b3]

/-! ### Results -/
theorem rvc_ok {p : Sl} {f : FR} {v : V} (he : (RV.c p).get f h = some v) : ∃ b off vs t g u, p.get f = .ptr b off ∧ h.get b = .cells vs t g ∧ dropV off vs = .cn v u := by
  unfold RV.get at he
  cases hp : p.get f with
  | ptr b off =>
    simp only [hp] at he
    cases hb : h.get b with
    | cells vs t g =>
      simp only [hb] at he
      obtain ⟨x, u, e1, e2⟩ := cnO_ok he
      cases e2
      exact ⟨b, off, vs, t, g, u, rfl, hb, e1⟩
    | _ => simp only [hb] at he; cases he
  | _ => simp only [hp] at he; cases he
theorem rvn_ok {p : Sl} {k : Nat} {f : FR} {v : V} (he : (RV.cn p k).get f h = some v) : ∃ b off vs t g l, p.get f = .ptr b off ∧ h.get b = .cells vs t g ∧ takeV k (dropV off vs) = some l ∧ v = .agg l := by
  unfold RV.get at he
  cases hp : p.get f with
  | ptr b off =>
    simp only [hp] at he
    cases hb : h.get b with
    | cells vs t g =>
      simp only [hb] at he
      obtain ⟨l, e1, e2⟩ := orec_some he
      cases e2
      exact ⟨b, off, vs, t, g, l, rfl, hb, e1, rfl⟩
    | _ => simp only [hb] at he; cases he
  | _ => simp only [hp] at he; cases he
def resG (tmps : Array Value) : ResultVar → Sem Value
  | .tmp t => pure (tmps.getD t undef)
  | .cell a t => do loadVar t (← asAddr (tmps.getD a undef))
theorem rv_ok (tk : TTok P tt) (g : G P tt ρ h w) {tmps : Array Value} {f : FR} (fr : FrRel ρ tn nt tmps f) (bf : BdF h.next.toN f) {x : ResultVar} {l : List ResultVar} {rs : List RV} (hc : resOf tt tn (x :: l) = some rs) :
    ∃ r rest, rs = r :: rest ∧ resOf tt tn l = some rest ∧ ∀ v, r.get f h = some v → (resG tmps x).run P w = .ok (conc ρ v) w ∧ Bd h.next.toN v := by
  cases x with
  | tmp t =>
    simp only [resOf] at hc
    split at hc
    · rename_i s hs
      split at hc
      · rename_i r hr
        cases hc
        refine ⟨_, _, rfl, hr, fun v hv => ?_⟩
        cases hv
        refine ⟨?_, bf s⟩
        show Result.ok (tmps.getD t undef) w = _
        rw [Array.getD_eq_getD_getElem?, fr.2 t s hs]; rfl
      · cases hc
    · cases hc
  | cell t e =>
    simp only [resOf] at hc
    split at hc
    · rename_i s i hs hi
      split at hc
      · rename_i r hr
        cases hc
        refine ⟨_, _, rfl, hr, fun v hv => ?_⟩
        have ht : tmps.getD t undef = conc ρ (s.get f) := by rw [Array.getD_eq_getD_getElem?, fr.2 t s hs]; rfl
        split at hv
        · rename_i hag
          obtain ⟨b, off, vs, t', gr, l', e1, e2, e3, rfl⟩ := rvn_ok hv
          obtain ⟨k1, _, k3, k4⟩ := g.cells e2 e3
          rw [e1] at ht
          simp only [conc] at ht
          refine ⟨?_, ⟨k3, k4⟩⟩
          simp only [resG, ht]
          simp [asAddr, loadVar, isAgg_run tk hi, hag, sizeOf_run tk hi, k1, conc]
        · rename_i hag
          obtain ⟨b, off, vs, t', gr, u, e1, e2, e3⟩ := rvc_ok hv
          rw [e1] at ht
          simp only [conc] at ht
          have hd : (concL ρ vs).drop off = conc ρ v :: concL ρ u := by rw [← concL_dropV, e3, concL_cn]
          have hcell := g.cell e2 (getElem?_of_drop hd)
          have bd := g.bd b
          rw [e2] at bd
          have hb' := Bd.dropV (n := h.next.toN) off bd.1
          rw [e3] at hb'
          refine ⟨?_, hb'.1⟩
          simp only [resG, ht]
          simp [asAddr, loadVar, isAgg_run tk hi, hag, hcell]
      · cases hc
    · cases hc
theorem rvs_cons {r : RV} {rs : List RV} {f : FR} {v : V} (he : rvs (r :: rs) f h = some v) : ∃ x t, r.get f h = some x ∧ rvs rs f h = some t ∧ v = .cn x t := by
  have he : (Option.rec none (fun v => Option.rec none (fun t => some (V.cn v t)) (rvs rs f h)) (r.get f h) : Option V) = some v := he
  obtain ⟨x, e1, e2⟩ := orec_some he
  obtain ⟨t, e3, e4⟩ := orec_some e2
  cases e4
  exact ⟨x, t, e1, e3, rfl⟩
theorem rvs_ok (tk : TTok P tt) (g : G P tt ρ h w) {tmps : Array Value} {f : FR} (fr : FrRel ρ tn nt tmps f) (bf : BdF h.next.toN f) : ∀ (l : List ResultVar) (rs : List RV) (v : V), resOf tt tn l = some rs → rvs rs f h = some v →
    (l.mapM (resG tmps)).run P w = .ok (concL ρ v) w ∧ Bd h.next.toN v ∧ rs.length = l.length ∧ (concL ρ v).length = l.length := by
  intro l
  induction l with
  | nil => intro rs v hc he; cases hc; cases he; exact ⟨by simp, trivial, rfl, by simp⟩
  | cons x l ih =>
    intro rs v hc he
    obtain ⟨r, rest, rfl, hr, key⟩ := rv_ok tk g fr bf hc
    obtain ⟨y, t, e1, e2, rfl⟩ := rvs_cons he
    obtain ⟨k1, k2⟩ := key y e1
    obtain ⟨i1, i2, i3, i4⟩ := ih rest t hr e2
    exact ⟨by simp [k1, i1], ⟨k2, i2⟩, by simp [i3], by simp [i4]⟩
theorem fin_ok (tk : TTok P tt) (g : G P tt ρ h w) {tmps : Array Value} {f : FR} (fr : FrRel ρ tn nt tmps f) (bf : BdF h.next.toN f) {fn : Func} {rs : List RV} {v : V} (hc : resOf tt tn fn.results.toList = some rs) (he : finK rs f h = .ok v h') :
    h' = h ∧ (results fn tmps).run P w = .ok (conc ρ v) w ∧ Bd h.next.toN v := by
  have hres : (results fn tmps) = (do let vs ← fn.results.toList.mapM (resG tmps); pure (if h : vs.toArray.size = 1 then vs.toArray[0] else .tuple vs.toArray)) := by
    unfold results
    rw [Array.mapM_eq_mapM_toList]
    simp only [map_eq_pure_bind, bind_assoc, pure_bind]
    rfl
  rw [hres]
  generalize fn.results.toList = l at hc
  cases l with
  | nil => cases hc; obtain ⟨rfl, rfl⟩ := or_ok he; exact ⟨rfl, by simp [conc_un]; rfl, trivial⟩
  | cons x l =>
    obtain ⟨r, rest, rfl, hr, key⟩ := rv_ok tk g fr bf hc
    cases rest with
    | nil =>
      have hl : l = [] := by
        cases l with
        | nil => rfl
        | cons y l => obtain ⟨_, _, e, _⟩ := rv_ok tk g fr bf hr; cases e
      subst hl
      obtain ⟨y, e1, e2⟩ := orO_ok (show orO (fun v => .ok v h) (r.get f h) = .ok v h' from he)
      obtain ⟨rfl, rfl⟩ := or_ok e2
      obtain ⟨k1, k2⟩ := key _ e1
      exact ⟨rfl, by simp [k1], k2⟩
    | cons r2 rest =>
      obtain ⟨y, e1, e2⟩ := orO_ok (show orO (fun vs => .ok (.x .un vs) h) (rvs (r :: r2 :: rest) f h) = .ok v h' from he)
      obtain ⟨rfl, rfl⟩ := or_ok e2
      obtain ⟨k1, k2, k3, k4⟩ := rvs_ok tk g fr bf (x :: l) _ y hc e1
      refine ⟨rfl, ?_, k2⟩
      have : ¬ (concL ρ y).toArray.size = 1 := by
        simp only [List.size_toArray, k4, ← k3]; simp
      rw [Sem.run_bind, k1, Result.andThen_ok]
      rw [dif_neg this]
      simp only [conc, Sem.run_pure]
/-! ### Parameters -/
theorem Sls.fit_cn {s : Sl} {ps : Sls} {as : V} (h : (Sls.cn s ps).fit as = true) : ∃ x y, as = .cn x y ∧ ps.fit y = true := by
  cases as <;> first | exact ⟨_, _, rfl, h⟩ | cases h
theorem Sls.fit_nl {as : V} (h : Sls.nl.fit as = true) : concL ρ as = [] := by
  cases as <;> first | cases h; done | simp only [concL]
theorem sls_cons {t : Nat} {l : List Nat} {ps : Sls} (h : slsOf tn (t :: l) = some ps) : ∃ s r, ps = .cn s r ∧ slot tn t = some s ∧ slsOf tn l = some r := by
  simp only [slsOf] at h
  split at h
  · rename_i s hs
    split at h
    · rename_i r hr; cases h; exact ⟨s, r, rfl, hs, hr⟩
    · cases h
  · cases h
theorem Sls.fit_len : ∀ (l : List Nat) (ps : Sls) (as : V), slsOf tn l = some ps → ps.fit as = true → (concL ρ as).length = l.length := by
  intro l
  induction l with
  | nil => intro ps as h1 h2; cases h1; rw [Sls.fit_nl h2]; rfl
  | cons t l ih =>
    intro ps as h1 h2
    obtain ⟨s, r, rfl, _, h3⟩ := sls_cons h1
    obtain ⟨x, y, rfl, h4⟩ := Sls.fit_cn h2
    rw [concL_cn]
    simp [ih r y h3 h4]
theorem Sls.set_cn {s : Sl} {ps : Sls} {x y : V} {f : FR} : (Sls.cn s ps).set (.cn x y) f = ps.set y (s.set x f) := rfl
theorem Sls.set_bd {n : Nat} : ∀ (l : List Nat) (ps : Sls) (as : V) (f : FR), slsOf tn l = some ps → ps.fit as = true → Bd n as → BdF n f → BdF n (ps.set as f) := by
  intro l
  induction l with
  | nil => intro ps as f h1 _ _ h4; cases h1; exact h4
  | cons t l ih =>
    intro ps as f h1 h2 h3 h4
    obtain ⟨s, r, rfl, _, h5⟩ := sls_cons h1
    obtain ⟨x, y, rfl, h6⟩ := Sls.fit_cn h2
    rw [Sls.set_cn]
    exact ih r y _ h5 h6 h3.2 (h4.set h3.1 s)
/-- the round's parameters are set -/
theorem FrRel.sets : ∀ (l : List Nat) (ps : Sls) (as : V) (tmps : Array Value) (f : FR), slsOf tn l = some ps → ps.fit as = true → FrRel ρ tn nt tmps f →
    FrRel ρ tn nt ((l.zip (concL ρ as)).foldl (fun tmps (q : Nat × Value) => tmps.setIfInBounds q.1 q.2) tmps) (ps.set as f) := by
  intro l
  induction l with
  | nil => intro ps as tmps f h1 h2 h3; cases h1; exact h3
  | cons t l ih =>
    intro ps as tmps f h1 h2 h3
    obtain ⟨s, r, rfl, h4, h5⟩ := sls_cons h1
    obtain ⟨x, y, rfl, h6⟩ := Sls.fit_cn h2
    rw [Sls.set_cn, concL_cn, List.zip_cons_cons, List.foldl_cons]
    exact ih r y _ _ h5 h6 (h3.put h4)
/-- a call's parameters are set -/
theorem sets_get : ∀ (l : List Nat) (ps : Sls) (as : V) (f : FR), slsOf tn l = some ps → ps.fit as = true → l.Nodup →
    (∀ (j t : Nat) (s : Sl), l[j]? = some t → slot tn t = some s → (concL ρ as)[j]? = some (conc ρ (s.get (ps.set as f)))) ∧ ∀ (t : Nat) (s : Sl), slot tn t = some s → t ∉ l → s.get (ps.set as f) = s.get f := by
  intro l
  induction l with
  | nil => intro ps as f h1 h2 _; cases h1; exact ⟨fun j t s h => by simp at h, fun _ _ _ _ => rfl⟩
  | cons t l ih =>
    intro ps as f h1 h2 nd
    obtain ⟨s, r, rfl, h4, h5⟩ := sls_cons h1
    obtain ⟨x, y, rfl, h6⟩ := Sls.fit_cn h2
    rw [List.nodup_cons] at nd
    obtain ⟨i1, i2⟩ := ih r y (s.set x f) h5 h6 nd.2
    rw [Sls.set_cn, concL_cn]
    refine ⟨fun j u q hj hq => ?_, fun u q hq hu => ?_⟩
    · cases j with
      | zero =>
        simp only [List.getElem?_cons_zero, Option.some.injEq] at hj ⊢
        subst hj
        rw [h4] at hq; cases hq
        rw [i2 t s h4 nd.1, Sl.get_set_same]
      | succ j =>
        simp only [List.getElem?_cons_succ] at hj ⊢
        exact i1 j u q hj hq
    · have hne : u ≠ t := fun e => hu (e ▸ List.mem_cons_self)
      rw [i2 u q hq fun z => hu (List.mem_cons_of_mem _ z)]
      exact Sl.get_set_ne _ _ _ _ fun e => hne (slot_inj hq (e ▸ h4))
theorem slot_mem {t : Nat} {s : Sl} (h : slot tn t = some s) : t ∈ tn := by
  unfold slot at h
  split at h
  · rename_i p hp; exact List.mem_of_getElem? (place_spec t tn 0 _ hp).2
  · cases h
theorem FrRel.enter {k : Nat} {ps : Sls} {as : V} (h1 : slsOf tn (List.range k) = some ps) (h2 : ps.fit as = true) (hall : tn.all (fun t => Nat.blt t nt) = true) :
    FrRel ρ tn nt ((concL ρ as).toArray ++ Array.replicate (nt - (concL ρ as).toArray.size) undef) (ps.set as .n) := by
  have hlen := Sls.fit_len (ρ := ρ) _ _ _ h1 h2
  rw [List.length_range] at hlen
  obtain ⟨g1, g2⟩ := sets_get (ρ := ρ) _ _ _ .n h1 h2 List.nodup_range
  refine ⟨by simp; omega, fun t s hs => ?_⟩
  have hlt : t < nt := by
    have := List.all_eq_true.1 hall t (slot_mem hs)
    exact Nat.le_of_ble_eq_true this
  rcases Nat.lt_or_ge t k with q | q
  · rw [Array.getElem?_append_left (by simp; omega)]
    have := g1 t t s (by simp [q]) hs
    simpa using this
  · rw [g2 t s hs (by simp; omega), Sl.get_n, conc_un, Array.getElem?_append_right (by simp; omega)]
    simp only [List.size_toArray, hlen]
    rw [Array.getElem?_replicate, if_pos (by omega)]
end
end Go.Ads
set_option autoImplicit false
set_option linter.unusedSimpArgs false
set_option linter.unusedVariables false
namespace Go.Ads
section
variable {P : Program} {tt : TT} {ρ ρ' : Rho} {h h' : H} {w w' : World} {inv : Inv} {N : Nat}
/-- **a function's call** -/
theorem fun_ok (tk : TTok P tt) (dk : DrawOk P tt) (hi : InvOk P tt inv) {Fn : Func} {fid : FuncId} {tn : List Nat} {hint : Nat → List Nat} {ps : Sls} {cd : Cd} {res : List RV} {as v : V} {F : Fence} (hF : Open F)
    (hf : P.funcs[fid]? = some Fn) (hc : compF tt tn hint Fn = some ⟨ps, cd, res⟩) (he : iff (ps.fit as) (fin res (cd.run inv N (ps.set as .n) h)) = .ok v h') (g : G P tt ρ h w) (ba : Bd h.next.toN as) :
    CallsIn F 0 P fid (concL ρ as).toArray w (Fin P tt ρ h w v h') := by
  obtain ⟨hfit, he⟩ := iff_ok he
  unfold compF at hc
  split at hc
  · cases hc
  · rename_i c hbody
    split at hc
    · cases hc
    · rename_i hall
      split at hc
      · rename_i ps' cd' rs h1 h2 h3
        cases hc
        refine CallsIn.inRound (F := F.plain) 0 (callsIn_of_wp_marks (F := F.plain) hf hbody (hF.fn fid) ?_ rfl)
        have hFp : Open F.plain := ⟨hF.eq⟩
        have fr : FrRel ρ tn Fn.ntmps ((concL ρ as).toArray ++ Array.replicate (Fn.ntmps - (concL ρ as).toArray.size) undef) (ps.set as .n) := FrRel.enter h1 hfit hall
        have bf : BdF h.next.toN (ps.set as .n) := Sls.set_bd _ _ _ _ h1 hfit ba (BdF.n _)
        have fin : ∀ (f' : FR) (h2 : H), finK res f' h2 = .ok v h' → ∀ (a' : Act) (w' : World), Aft P tt tn Fn.ntmps false ρ h w [] f' h2 a' w' → LeavesInM F.plain 0 P Fn a'.tmps (Fin P tt ρ h w v h') a'.defers .returning w' := by
          rintro f' h2 hfin a' w' ⟨ρ', st, fr', bf', ⟨L, hL, nd, mk⟩, _⟩
          rw [hL, List.append_nil]
          refine leaves_ok L ρ' w' st nd mk fun ρ2 w2 st2 ag => ?_
          obtain ⟨rfl, q1, q2⟩ := fin_ok tk st2.g (fr'.agree (ag _) bf') bf' h3 hfin
          exact ⟨_, q1, ρ2, rfl, st2, q2⟩
        refine code_ok (N := N) (nb := false) tk dk hi hFp c cd _ ρ h w _ (ps.set as .n) _ h2 rfl g (.inl rfl) fr bf (fun q => by cases q) ?_
        cases hr : cd.run inv N (ps.set as .n) h with
        | bad => rw [hr] at he; cases he
        | nrm f1 h1 => rw [hr] at he; exact fun a' w' q => fin f1 h1 he a' w' q
        | ret f1 h1 => rw [hr] at he; exact fun a' w' q => fin f1 h1 he a' w' q
        | ex id f1 h1 => rw [hr] at he; cases he
      · cases hc
theorem run_callFunc {fid : FuncId} {Fn : Func} {args : Array Value} (hf : P.funcs[fid]? = some Fn) (hn : (Fn.name == "runtime.NumGoroutine") = false) (hb : Fn.body.isSome = true) : (callFunc fid args).run P w = .ok (.enter fid args) w := by
  unfold callFunc
  have hb' : Fn.body.isNone = false := by cases h : Fn.body; rw [h] at hb; cases hb; rfl
  simp only [Sem.run_bind, run_program, Result.andThen_ok, hf, hn, hb', Bool.false_eq_true, if_false, Sem.run_pure]
/-- **the functions' table and the primitives agree with the program** -/
structure TabOk (P : Program) (tt : TT) (fs : B → Option Fn) (pr : B → V → H → OR) : Prop where
  fn : ∀ b f, fs b = some f → ∃ Fn tn hint, P.funcs[b.toN - 1]? = some Fn ∧ (Fn.name == "runtime.NumGoroutine") = false ∧ compF tt tn hint Fn = some f
  pr : ∀ b, fs b = none → ∀ (F : Fence), Open F → ∀ (as v : V) (h h' : H) (ρ : Rho) (w : World), pr b as h = .ok v h' → G P tt ρ h w → Bd h.next.toN as →
    ∃ Fn, P.funcs[b.toN - 1]? = some Fn ∧ (Fn.name == "runtime.NumGoroutine") = false ∧ Fn.body.isSome = true ∧ CallsIn F 0 P (b.toN - 1) (concL ρ as).toArray w (Fin P tt ρ h w v h')
theorem fn_conc (b : B) (c : V) : conc ρ (.x (.fn b) c) = .func (.func (b.toN - 1)) (concL ρ c.hd.unV).toArray (concL ρ c.tl).toArray := by
  cases c with
  | cn x t =>
    simp only [conc, concL_cn]
    show fnOf (b.toN - 1) (conc ρ x :: concL ρ t) = .func (.func (b.toN - 1)) (concL ρ x.unV).toArray (concL ρ t).toArray
    cases x with
    | x t' u =>
      cases t' with
      | fn g =>
        have : (V.x (.fn g) u).unV = .nl := rfl
        rw [this]
        simp only [conc, concL_nl]
        unfold fnOf
        split
        · rename_i heq
          simp only [List.cons.injEq] at heq
          have h1 := heq.1
          split at h1 <;> cases h1
        · rename_i heq
          simp only [List.cons.injEq] at heq
          rw [heq.2]
        · rename_i heq; cases heq
      | un => simp only [conc]; rfl
      | _ => simp only [conc]; rfl
    | _ => simp only [conc]; rfl
  | _ => simp only [conc, concL]; rfl
theorem invoke_fn {fid : FuncId} {a c as : Array Value} {Fn : Func} (hf : P.funcs[fid]? = some Fn) (hn : (Fn.name == "runtime.NumGoroutine") = false) (hb : Fn.body.isSome = true) :
    (Deferred.ofValue (.func (.func fid) a c) as).run P w = .ok { target := .fn (.func fid) c, args := a ++ as } w ∧ (invoke (.fn (.func fid) c) (a ++ as)).run P w = .ok (.enter fid (a ++ as ++ c)) w :=
  ⟨rfl, run_callFunc hf hn hb⟩
theorem Bd.unV {n : Nat} {v : V} (h : Bd n v) : Bd n v.unV := by
  cases v with
  | x t u => cases t <;> first | exact h | trivial
  | _ => trivial
theorem toFn_ok {k y : B → V → OR} {g v : V} (e : toFn k y g = .ok v h) : (∃ b c, g = .x (.fn b) c ∧ k b c = .ok v h) ∨ ∃ b c, g = .x (.yld b) c ∧ y b c = .ok v h := by
  cases g with
  | x t u => cases t <;> first | exact .inl ⟨_, _, rfl, e⟩ | exact .inr ⟨_, _, rfl, e⟩ | cases e
  | _ => cases e
theorem onLoop_ok {k : FR → Sls → Cd → Cd → LS → Pend → OR} {o : O} {v : V} (e : onLoop .bad k o = .ok v h) : ∃ fr ps as bd st p, o = .loop fr ps as bd st p ∧ k fr ps as bd st p = .ok v h := by
  cases o <;> first | exact ⟨_, _, _, _, _, _, rfl, e⟩ | cases e
/-- the end of a round -/
theorem setL_ok {b : B} {st : LS} {p : Pend} {v x : V} (he : setL b st p v h = .ok x h') (s : G P tt ρ h w) (jump : Option Code) (hj : pendOf p = jump) (hst : stOf st = if jump.isNone then .ready else .done) (hv : conc ρ v = .bool jump.isNone) (hb : Bd h.next.toN v) :
    ∃ u w', (Instr.endRound (ρ.blk b) jump).run P w = .ok u w' ∧ u = conc ρ x ∧ Step P tt ρ h w ρ h' w' ∧ Bd h'.next.toN x := by
  unfold setL at he
  obtain ⟨fr, ps, as, bd, st', p', hb', e2⟩ := onLoop_ok he
  obtain ⟨rfl, rfl⟩ := or_ok e2
  have hreal := s.real b
  rw [hb'] at hreal
  obtain ⟨rec, hrec, a1, a2, a3⟩ := hreal
  refine ⟨_, _, run_endRound jump hrec, hv.symm, ?_, by rw [H.next_set]; exact hb⟩
  have := Step.loop s (st' := st) (p' := p) hb' hrec
  rw [hst, hj] at this
  exact this
/-- **a round** -/
theorem round_ok (tk : TTok P tt) (dk : DrawOk P tt) (hi : InvOk P tt inv) {F : Fence} (hF : Open F) {b : B} {fr : FR} {ps : Sls} {ca cb : Cd} {st : LS} {p : Pend} {as v : V} {r : Loop} (g : G P tt ρ h w) (ba : Bd h.next.toN as)
    (hb : h.get b = .loop fr ps ca cb st p) (hr : w.heap[ρ.blk b]? = some (.loop r)) (rel : LoopRel tt ρ r fr ps ca cb st p) (he : yldK (fun c => c.run inv N) as h b fr ps ca cb st p = .ok v h') :
    (concL ρ as).length = r.params.size ∧ RoundIn F 0 P (ρ.blk b) r.fn ((r.params.zip (concL ρ as).toArray).foldl (fun tmps (t, a) => tmps.setIfInBounds t a) r.tmps) r.assign r.body w (Fin P tt ρ h w v h') := by
  obtain ⟨hfit, he⟩ := iff_ok he
  replace he : rnd0 (fun c => c.run inv N) b cb (ca.run inv N (ps.set as fr) h) = .ok v h' := he
  obtain ⟨_, _, tn, nt, hint, q1, q2, q3, q4⟩ := rel
  refine ⟨by rw [Sls.fit_len _ _ _ q2 hfit]; simp, roundIn_of_wpIn (hF.fn _) ?_⟩
  have hFr : Open (F.inRound (ρ.blk b)) := ⟨hF.eq⟩
  have hfold : ((r.params.zip (concL ρ as).toArray).foldl (fun tmps (t, a) => tmps.setIfInBounds t a) r.tmps) = (r.params.toList.zip (concL ρ as)).foldl (fun tmps (q : Nat × Value) => tmps.setIfInBounds q.1 q.2) r.tmps := by
    rw [← Array.foldl_toList]
    simp
  have bfr : BdF h.next.toN fr := by have := g.bd b; rw [hb] at this; exact this
  have fr1 : FrRel ρ tn nt ((r.params.zip (concL ρ as).toArray).foldl (fun tmps (t, a) => tmps.setIfInBounds t a) r.tmps) (ps.set as fr) := by
    rw [hfold]; exact FrRel.sets _ _ _ _ _ q2 hfit q1
  have bf1 : BdF h.next.toN (ps.set as fr) := Sls.set_bd _ _ _ _ q2 hfit ba bfr
  have rd : RdOk (F.inRound (ρ.blk b)) ρ h := .inr ⟨b, rfl, by rw [hb]; rfl⟩
  refine code_ok (N := N) (nb := false) tk dk hi hFr r.assign ca _ ρ h w _ (ps.set as fr) _ q3 rfl g rd fr1 bf1 (fun q => by cases q) ?_
  cases hr1 : ca.run inv N (ps.set as fr) h with
  | bad => rw [hr1] at he; cases he
  | ret f1 h1 => rw [hr1] at he; cases he
  | ex id f1 h1 => rw [hr1] at he; cases he
  | nrm f1 h1 =>
    rw [hr1] at he
    rintro a1 w1 ⟨ρ1, s1, fr2, bf2, mk1, _⟩
    have lt : b.toN < h.next.toN := g.lt_of (by rw [hb]; intro q; cases q)
    have eb : ρ.blk b = ρ1.blk b := (s1.keep.lo b lt).1
    obtain ⟨fr', ps', as', bd', st', p', hb1, e2⟩ := onLoop_ok (show onLoop OR.bad _ (h1.get b) = OR.ok v h' from he)
    cases st' with
    | busy => cases e2
    | done => cases e2
    | over => cases e2
    | ready =>
      have e2 : rnd b (cb.run inv N f1 (h1.set b (.loop fr' ps' as' bd' .busy p'))) = .ok v h' := e2
      have hreal := s1.g.real b
      rw [hb1] at hreal
      obtain ⟨rec, hrec, a1', a2', a3'⟩ := hreal
      have s2 := Step.loop s1.g (st' := .busy) (p' := p') hb1 hrec
      have hw2 : w1.putObj (ρ.blk b) (.loop { rec with state := .busy }) = w1.putObj (ρ1.blk b) (.loop { rec with state := stOf .busy, pending := pendOf p' }) := by
        rw [eb, a2'.symm]; rfl
      refine ⟨_, by rw [eb]; exact run_beginRound hrec a1', ?_⟩
      rw [← eb, hw2]
      have s12 := s1.trans s2
      have rd2 : RdOk (F.inRound (ρ.blk b)) ρ1 (h1.set b (.loop fr' ps' as' bd' .busy p')) := rd.step s12 g
      refine code_ok (N := N) (nb := false) tk dk hi hFr r.body cb _ ρ1 _ _ a1 f1 _ q4 rfl s2.g rd2 fr2 (by rw [H.next_set]; exact bf2) (fun q => by cases q) ?_
      have fin : ∀ (h2 : H) (a2 : Act) (w2 : World) (f2 : FR) (st3 : LS) (p3 : Pend) (v3 : V) (jump : Option Code), Aft P tt tn nt false ρ1 (h1.set b (.loop fr' ps' as' bd' .busy p')) (w1.putObj (ρ1.blk b) (.loop { rec with state := stOf .busy, pending := pendOf p' })) a1.defers f2 h2 a2 w2 →
          setL b st3 p3 v3 h2 = .ok v h' → pendOf p3 = jump → stOf st3 = (if jump.isNone then .ready else .done) → (∀ σ, conc σ v3 = .bool jump.isNone) → (∀ n, Bd n v3) →
          ∃ u w', (Instr.endRound (ρ.blk b) jump).run P w2 = .ok u w' ∧ Fin P tt ρ h w v h' (.returned u) w' := by
        rintro h2 a2 w2 f2 st3 p3 v3 jump ⟨ρ3, s3, _, _, _, _⟩ hset hp hst hv hbv
        have s13 := s12.trans s3
        obtain ⟨u, w', z1, rfl, z3, z4⟩ := setL_ok hset s3.g jump hp hst (hv ρ3) (hbv _)
        rw [← (s13.keep.lo b lt).1] at z1
        exact ⟨_, w', z1, ρ3, rfl, s13.trans z3, z4⟩
      cases hr2 : cb.run inv N f1 (h1.set b (.loop fr' ps' as' bd' .busy p')) with
      | bad => rw [hr2] at e2; cases e2
      | nrm f2 h2 => rw [hr2] at e2; exact fun a2 w2 q => fin h2 a2 w2 f2 .ready .none (.bool true) none q e2 rfl rfl (fun σ => by simp only [conc]; rfl) (fun _ => trivial)
      | ret f2 h2 => rw [hr2] at e2; exact fun a2 w2 q => fin h2 a2 w2 f2 .done .ret (.bool false) (some .ret) q e2 rfl rfl (fun σ => by simp only [conc]; rfl) (fun _ => trivial)
      | ex id f2 h2 => rw [hr2] at e2; exact fun a2 w2 q => fin h2 a2 w2 f2 .done (.exit id) (.bool false) (some (.exit id)) q e2 rfl rfl (fun σ => by simp only [conc]; rfl) (fun _ => trivial)
/-- **the interpreter of calls is sound** -/
theorem callN_ok (tk : TTok P tt) (dk : DrawOk P tt) {fs : B → Option Fn} {pr : B → V → H → OR} (tab : TabOk P tt fs pr) : ∀ n, InvOk P tt (callN fs pr N n) := by
  intro n
  induction n with
  | zero => intro F hF g as v h h' ρ w he; cases he
  | succ n ih =>
    intro F hF g as v h h' ρ w he G0 bg ba
    have he : callG fs pr (fun c => c.run (callN fs pr N n) N) g as h = .ok v h' := he
    rcases toFn_ok he with ⟨b, c, rfl, e2⟩ | ⟨b, c, rfl, e2⟩
    · have bc : Bd h.next.toN c := bg
      have hargs : (concL ρ c.hd.unV).toArray ++ (concL ρ as).toArray ++ (concL ρ c.tl).toArray = (concL ρ (appV c.hd.unV (appV as c.tl))).toArray := by
        rw [concL_appV, concL_appV]; simp
      have bargs : Bd h.next.toN (appV c.hd.unV (appV as c.tl)) := Bd.appV bc.hd.unV (Bd.appV ba bc.tl)
      have e2 : call1 pr (fun c => c.run (callN fs pr N n) N) (appV c.hd.unV (appV as c.tl)) h b (fs b) = .ok v h' := e2
      have key : ∃ Fn, P.funcs[b.toN - 1]? = some Fn ∧ (Fn.name == "runtime.NumGoroutine") = false ∧ Fn.body.isSome = true ∧ CallsIn F 0 P (b.toN - 1) (concL ρ (appV c.hd.unV (appV as c.tl))).toArray w (Fin P tt ρ h w v h') := by
        cases hfs : fs b with
        | none =>
          rw [hfs] at e2
          exact tab.pr b hfs F hF _ v h h' ρ w e2 G0 bargs
        | some f =>
          rw [hfs] at e2
          obtain ⟨Fn, tn, hint, t1, t2, t3⟩ := tab.fn b f hfs
          obtain ⟨ps, cd, res⟩ := f
          refine ⟨Fn, t1, t2, ?_, fun_ok tk dk ih hF t1 t3 e2 G0 bargs⟩
          unfold compF at t3
          cases hb : Fn.body with
          | none => rw [hb] at t3; cases t3
          | some _ => rfl
      obtain ⟨Fn, k1, k2, k3, k4⟩ := key
      obtain ⟨i1, i2⟩ := invoke_fn (w := w) (a := (concL ρ c.hd.unV).toArray) (c := (concL ρ c.tl).toArray) (as := (concL ρ as).toArray) k1 k2 k3
      refine ⟨_, _, by rw [fn_conc]; exact i1, i2, ?_, fun _ => ⟨_, _, rfl⟩⟩
      show CallsIn F 0 P _ _ w _
      rw [hargs]; exact k4
    · obtain ⟨fr, ps, ca, cb, st, p, hb, e3⟩ := onLoop_ok e2
      have hreal := G0.real b
      rw [hb] at hreal
      obtain ⟨r, hr, rel⟩ := hreal
      obtain ⟨r1, r2⟩ := round_ok tk dk ih hF G0 ba hb hr rel e3
      have i1 : (Deferred.ofValue (conc ρ (.x (.yld b) c)) (concL ρ as).toArray).run P w = .ok { target := .fn (.yield (ρ.blk b)) #[], args := (concL ρ as).toArray } w := by
        simp only [conc, Deferred.ofValue, Sem.run_pure, Array.empty_append]
      have i2 : (invoke (.fn (.yield (ρ.blk b)) #[]) (concL ρ as).toArray).run P w = _ := run_yield hr (by simpa using r1)
      exact ⟨_, _, i1, i2, r2, fun q => by cases q⟩
end
end Go.Ads
set_option autoImplicit false
namespace Go.Ads
/-! ### A table of functions -/
inductive TF where | lf | nd (v : Option Fn) (l r : TF)
noncomputable def TF.v (t : TF) : Option Fn := TF.rec none (fun v _ _ _ _ => v) t
noncomputable def TF.l (t : TF) : TF := TF.rec .lf (fun _ l _ _ _ => l) t
noncomputable def TF.r (t : TF) : TF := TF.rec .lf (fun _ _ r _ _ => r) t
noncomputable def look (b : B) : TF → Option Fn := B.rec (motive := fun _ => TF → Option Fn) TF.v (fun _ ih t => ih t.l) (fun _ ih t => ih t.r) b
def AllT (Q : B → Fn → Prop) : TF → Prop
  | .lf => True
  | .nd v l r => (∀ f, v = some f → Q .one f) ∧ AllT (fun b f => Q (.o b) f) l ∧ AllT (fun b f => Q (.i b) f) r
theorem look_lf (b : B) : look b .lf = none := by
  induction b with
  | one => rfl
  | o b ih => exact ih
  | i b ih => exact ih
theorem look_all : ∀ (b : B) (t : TF) (Q : B → Fn → Prop) (f : Fn), AllT Q t → look b t = some f → Q b f := by
  intro b
  induction b with
  | one =>
    intro t Q f h e
    cases t with
    | lf => cases e
    | nd v l r => exact h.1 f e
  | o b ih =>
    intro t Q f h e
    cases t with
    | lf => rw [look_lf] at e; cases e
    | nd v l r => exact ih l _ f h.2.1 e
  | i b ih =>
    intro t Q f h e
    cases t with
    | lf => rw [look_lf] at e; cases e
    | nd v l r => exact ih r _ f h.2.2 e
theorem AllT.some {Q : B → Fn → Prop} {f : Fn} {l r : TF} (h : Q .one f) (hl : AllT (fun b f => Q (.o b) f) l) (hr : AllT (fun b f => Q (.i b) f) r) : AllT Q (.nd (some f) l r) :=
  ⟨fun _ e => by cases e; exact h, hl, hr⟩
theorem AllT.none {Q : B → Fn → Prop} {l r : TF} (hl : AllT (fun b f => Q (.o b) f) l) (hr : AllT (fun b f => Q (.i b) f) r) : AllT Q (.nd .none l r) :=
  ⟨(fun _ e => by cases e), hl, hr⟩
/-! ### The builder's look at itself; numerals -/
noncomputable def isNilp (v : V) : Bool := V.rec (motive := fun _ => Bool) (fun t _ _ => Tag.rec false true false false false false (fun _ => false) (fun _ => false) (fun _ => false) (fun _ => false) t) (fun _ => false) false (fun _ _ _ _ => false) (fun _ _ => false) (fun _ _ _ _ => false) (fun _ => false) (fun _ _ => false) (fun _ _ => false) v
/-- copyCheck of a builder of the type T: at a fresh one its own address is laid; at a used one that is compared -/
noncomputable def ckC (T : Nat) (b : B) (h : H) (vs : V) (e : Nat) (g : Bool) : OR := iff (Nat.beq e T) (iff (Nat.beq (lenV vs) 2) (Bool.rec (Bool.rec (iff (vEq (.ptr b 0) vs.hd) (.ok .un h)) (onCn (fun _ t => .ok .un (h.set b (.cells (.cn (.ptr b 0) t) e g))) vs) (isNilp vs.hd)) .bad g))
noncomputable def pCheck (T : Nat) (as : V) (h : H) : OR := iff (Nat.beq (lenV as) 1) (toPtr (fun b off => iff (Nat.beq off 0) (onCells (ckC T b h) (h.get b))) as.hd)
noncomputable def dig2 (i : Nat) : List Nat := Bool.rec [Nat.add 48 (Nat.div i 10), Nat.add 48 (Nat.mod i 10)] [Nat.add 48 i] (Nat.blt i 10)
/-- the table of powers, as it lies -/
def powL : List Nat → V
  | [] => .nl
  | n :: l => .cn (.int .u64 (.ofNat n)) (powL l)
def powN : List Nat := [1, 10, 100, 1000, 10000, 100000, 1000000, 10000000, 100000000, 1000000000, 10000000000, 100000000000, 1000000000000, 10000000000000, 100000000000000, 1000000000000000, 10000000000000000, 100000000000000000, 1000000000000000000, 10000000000000000000]
def powV : V := powL powN
noncomputable def itoaP (g : Nat) (h : H) (n : Int) : OR := Int.rec (fun m => iff (Nat.blt m 100) (.ok (.str (dig2 m)) h)) (fun m => iff (Nat.blt m 99) (onGlb (fun r vs => iff (Nat.beq r g) (iff (vEq vs powV) (.ok (.str (45 :: dig2 (Nat.add m 1))) h))) (h.get .one))) n
noncomputable def pItoa (g : Nat) (as : V) (h : H) : OR := iff (Nat.beq (lenV as) 1) (toInt (fun k n => iff (keq k .i64) (itoaP g h n)) as.hd)
noncomputable def prC (c : B) (T : Nat) (ci : B) (g : Nat) (b : B) (as : V) (h : H) : OR := Bool.rec (iff (bEq b ci) (pItoa g as h)) (pCheck T as h) (bEq b c)
/-- the memory at the start: the table alone -/
def h0 (g : Nat) : H := .mk (.o .one) (.nd (.glb g powV) .lf .lf)
noncomputable def isTrue (r : OR) : Bool := OR.rec false (fun v _ => V.rec (motive := fun _ => Bool) (fun _ _ _ => false) (fun _ => false) false (fun _ _ _ _ => false) (fun _ _ => false) (fun _ _ _ _ => false) (fun b => b) (fun _ _ => false) (fun _ _ => false) v) r
theorem isTrue_ok {r : OR} (h : isTrue r = true) : ∃ h', r = .ok (.bool true) h' := by
  cases r with
  | bad => cases h
  | ok v h' =>
    cases v with
    | bool b => cases b with
      | true => exact ⟨h', rfl⟩
      | false => cases h
    | _ => cases h
end Go.Ads
