/-
  An interpreter of plain data for code without loose ends (Go.Ads), and that what it computes the program answers. Part 3. It says something of a program whose code compiles to it, no other condition.
-/
import Derived.Test.YtmmhemfpbgobgaaGreatDoorAds2
import Derived.Laws.Concat
import Derived.Laws.Runes
import Derived.Laws.CopyRow
import Derived.Laws.BytesArg
import Derived.Laws.MakeOwn
set_option linter.unusedVariables false
set_option linter.unusedSimpArgs false
set_option linter.unusedSectionVars false
set_option autoImplicit false
set_option linter.unusedSimpArgs false
set_option linter.unusedVariables false
namespace Go.Ads
/-! ### Equality of structs and arrays -/
def eqc : Kd → Value → Value → Option Bool
  | .i, .int k a, .int k' b => if k = k' then some (a == b) else none
  | .s, .string a, .string b => some (a == b)
  | .b, .bool a, .bool b => some (a == b)
  | _, _, _ => none
def cmpL : List Kd → List Value → List Value → Option Bool
  | [], [], [] => some true
  | k :: l, x :: xs, y :: ys => match eqc k x y, cmpL l xs ys with
    | some a, some b => some (a && b)
    | _, _ => none
  | _, _, _ => none
theorem cmpL_cons {k : Kd} {l : List Kd} {xs ys : List Value} {q : Bool} (h : cmpL (k :: l) xs ys = some q) :
    ∃ x xs' y ys' a b, xs = x :: xs' ∧ ys = y :: ys' ∧ eqc k x y = some a ∧ cmpL l xs' ys' = some b ∧ q = (a && b) := by
  cases xs with
  | nil => cases ys <;> simp [cmpL] at h
  | cons x xs => cases ys with
    | nil => simp [cmpL] at h
    | cons y ys =>
      simp only [cmpL] at h
      split at h
      · rename_i a b ha hb; cases h; exact ⟨x, xs, y, ys, a, b, rfl, rfl, ha, hb, rfl⟩
      · cases h
theorem cmpL_nil {xs ys : List Value} {q : Bool} (h : cmpL [] xs ys = some q) : xs = [] ∧ ys = [] ∧ q = true := by
  cases xs <;> cases ys <;> simp [cmpL] at h; exact ⟨rfl, rfl, h⟩
theorem cmpL_len : ∀ {l : List Kd} {xs ys : List Value} {q : Bool}, cmpL l xs ys = some q → xs.length = l.length ∧ ys.length = l.length := by
  intro l
  induction l with
  | nil => intro xs ys q h; obtain ⟨rfl, rfl, _⟩ := cmpL_nil h; exact ⟨rfl, rfl⟩
  | cons k l ih => intro xs ys q h; obtain ⟨x, xs', y, ys', a, b, rfl, rfl, _, h2, _⟩ := cmpL_cons h; obtain ⟨h3, h4⟩ := ih h2; exact ⟨by simp [h3], by simp [h4]⟩
theorem cmpL_app : ∀ {l1 l2 : List Kd} {xs ys : List Value} {q : Bool}, cmpL (l1 ++ l2) xs ys = some q →
    ∃ a b, cmpL l1 (xs.take l1.length) (ys.take l1.length) = some a ∧ cmpL l2 (xs.drop l1.length) (ys.drop l1.length) = some b ∧ q = (a && b) := by
  intro l1
  induction l1 with
  | nil => intro l2 xs ys q h; exact ⟨true, q, by simp [cmpL], by simpa using h, by simp⟩
  | cons k l1 ih =>
    intro l2 xs ys q h
    obtain ⟨x, xs', y, ys', a, b, rfl, rfl, h1, h2, rfl⟩ := cmpL_cons h
    obtain ⟨c, d, h3, h4, rfl⟩ := ih h2
    exact ⟨a && c, d, by simp [cmpL, h1, h3], by simpa using h4, by simp [Bool.and_assoc]⟩
theorem andO_ok {a b : Option Bool} {q : Bool} (h : andO a b = some q) : ∃ x y, a = some x ∧ b = some y ∧ q = (x && y) := by
  cases a with
  | none => cases h
  | some x => cases b with
    | none => cases h
    | some y => cases x <;> cases h <;> exact ⟨_, _, rfl, rfl, rfl⟩
variable {ρ : Rho}
theorem eqI_ok {a b : V} {q : Bool} (h : eqI a b = some q) : ∃ k x y, a = .int k x ∧ b = .int k y ∧ q = (x == y) := by
  cases a with
  | int j x => cases b with
    | int k y =>
      change (Bool.rec none (some (ieq x y)) (keq j k) : Option Bool) = some q at h
      cases hk : keq j k with
      | false => rw [hk] at h; cases h
      | true => rw [hk] at h; cases keq_eq hk; cases h; exact ⟨j, x, y, rfl, rfl, by rw [ieq_eq]; rfl⟩
    | _ => cases h
  | _ => cases h
theorem eqS_ok {a b : V} {q : Bool} (h : eqS a b = some q) : ∃ x y, a = .str x ∧ b = .str y ∧ q = strEq x y := by
  cases a with
  | str x => cases b with
    | str y => cases h; exact ⟨x, y, rfl, rfl, rfl⟩
    | _ => cases h
  | _ => cases h
theorem eqB_ok {a b : V} {q : Bool} (h : eqB a b = some q) : ∃ x y, a = .bool x ∧ b = .bool y ∧ q = (x == y) := by
  cases a with
  | bool x => cases b with
    | bool y => cases h; exact ⟨x, y, rfl, rfl, beqB_eq _ _⟩
    | _ => cases h
  | _ => cases h
theorem strEq_beq (x y : List Nat) : strEq x y = ((⟨(x.map UInt8.ofNat).toArray⟩ : ByteArray) == ⟨(y.map UInt8.ofNat).toArray⟩) := by
  rw [strEq_eq, beq_toListBytes, ByteArray.toList_eq, ByteArray.toList_eq, Bool.eq_iff_iff, decide_eq_true_iff, beq_iff_eq, ByteArray.mk.injEq]
  exact ⟨fun h => by rw [h], fun h => Array.ext' h⟩
noncomputable def kdQ : Kd → V → V → Option Bool | .i => eqI | .s => eqS | .b => eqB
theorem kdQ_ok {k : Kd} {a b : V} {q : Bool} (h : kdQ k a b = some q) : eqc k (conc ρ a) (conc ρ b) = some q := by
  cases k with
  | i => obtain ⟨k, x, y, rfl, rfl, rfl⟩ := eqI_ok h; simp only [conc, eqc, if_true]
  | s => obtain ⟨x, y, rfl, rfl, rfl⟩ := eqS_ok h; simp only [conc, eqc, strEq_beq]
  | b => obtain ⟨x, y, rfl, rfl, rfl⟩ := eqB_ok h; simp only [conc, eqc]
theorem isNl_ok {b : Option Bool} {v : V} {q : Bool} (h : isNl b v = some q) : v = .nl ∧ b = some q := by
  cases v <;> first | exact ⟨rfl, h⟩ | cases h
theorem eqs_ok : ∀ {l : List Kd} {xs ys : V} {q : Bool}, eqs (ksOf l) xs ys = some q → cmpL l (concL ρ xs) (concL ρ ys) = some q := by
  intro l
  induction l with
  | nil => intro xs ys q h; obtain ⟨rfl, h⟩ := isNl_ok h; obtain ⟨rfl, h⟩ := isNl_ok h; cases h; simp [cmpL]
  | cons k l ih =>
    intro xs ys q h
    have h0 : cnO none (fun x s => cnO none (fun y t => andO (kdQ k x y) (eqs (ksOf l) s t)) ys) xs = some q := by cases k <;> exact h
    clear h
    obtain ⟨x, s, rfl, h3⟩ := cnO_ok h0
    obtain ⟨y, t, rfl, h4⟩ := cnO_ok h3
    obtain ⟨a, b, h1, h2, rfl⟩ := andO_ok h4
    simp [cmpL, kdQ_ok (ρ := ρ) h1, ih h2]
variable {P : Program} {tt : TT} (tk : TTok P tt)
include tk
/-- what is shown of a type at a depth -/
def EqAt (P : Program) (tt : TT) (k : Nat) (t : TypeId) (l : List Kd) : Prop := ∀ d, k ≤ d → ∀ (xs ys : List Value) (off : Nat) (q : Bool) (w : World),
  cmpL l ((xs.drop off).take l.length) ((ys.drop off).take l.length) = some q →
  ∃ x y, (part t xs.toArray off).run P w = .ok x w ∧ (part t ys.toArray off).run P w = .ok y w ∧ (Op.equalIn d t x y).run P w = .ok q w
theorem eqAt_base {k : Nat} {t : TypeId} {i : TI} {kd : Kd} (hi : tt t = some i) (ha : isAg i.und = false)
    (he : ∀ d x y q w, eqc kd x y = some q → (Op.equalIn (d + 1) t x y).run P w = .ok q w) : EqAt P tt (k + 1) t [kd] := by
  intro d hd xs ys off q w h
  obtain ⟨x, xs', y, ys', a, b, h1, h2, h3, h4, rfl⟩ := cmpL_cons h
  obtain ⟨_, _, rfl⟩ := cmpL_nil h4
  have g : ∀ {zs zs' : List Value} {z : Value}, (zs.drop off).take 1 = z :: zs' → zs[off]? = some z := by
    intro zs zs' z e
    have := congrArg List.head? e
    simpa [List.head?_take, List.head?_drop] using this
  refine ⟨x, y, ?_, ?_, ?_⟩
  · simp [part, isAgg_run tk hi, ha, g h1]
  · simp [part, isAgg_run tk hi, ha, g h2]
  · obtain ⟨d, rfl⟩ : ∃ d', d = d' + 1 := ⟨d - 1, by omega⟩
    rw [he d x y a w h3]; simp
theorem eqAt_agg {k : Nat} {t : TypeId} {i : TI} {l : List Kd} (hi : tt t = some i) (ha : isAg i.und = true) (hl : l.length = i.size)
    (he : ∀ d, k ≤ d → ∀ xs ys q w, cmpL l xs ys = some q → (Op.equalIn (d + 1) t (.agg xs.toArray) (.agg ys.toArray)).run P w = .ok q w) : EqAt P tt (k + 1) t l := by
  intro d hd xs ys off q w h
  have g : ∀ zs : List Value, (part t zs.toArray off).run P w = .ok (.agg ((zs.drop off).take l.length).toArray) w := by
    intro zs
    simp [part, isAgg_run tk hi, ha, sizeOf_run tk hi, List.extract, hl]
  obtain ⟨d, rfl⟩ : ∃ d', d = d' + 1 := ⟨d - 1, by omega⟩
  exact ⟨_, _, g xs, g ys, he d (by omega) _ _ q w h⟩
omit tk in
theorem eqF_ok {k : Nat} {ks : TypeId → Option (List Kd)} (ih : ∀ t l, ks t = some l → EqAt P tt k t l) : ∀ (fs : List Field) (acc l : List Kd), ksF ks fs acc = some l →
    ∃ rest, l = acc ++ rest ∧ ∀ d, k ≤ d → ∀ (xs ys : List Value) (q : Bool) (w : World), cmpL rest (xs.drop acc.length) (ys.drop acc.length) = some q → (Op.eqFields d xs.toArray ys.toArray fs).run P w = .ok q w := by
  intro fs
  induction fs with
  | nil => intro acc l h; cases h; exact ⟨[], by simp, fun d hd xs ys q w h => by obtain ⟨_, _, rfl⟩ := cmpL_nil h; simp [Op.eqFields]⟩
  | cons f fs ihf =>
    intro acc l h
    simp only [ksF] at h
    split at h
    · rename_i q hn hq ho
      obtain ⟨rest, rfl, hrest⟩ := ihf _ _ h
      refine ⟨q ++ rest, by simp, fun d hd xs ys r w h => ?_⟩
      obtain ⟨a, b, h1, h2, rfl⟩ := cmpL_app h
      have ho := Nat.eq_of_beq_eq_true ho
      rw [ho] at h1
      obtain ⟨x, y, e1, e2, e3⟩ := ih _ _ hq d hd xs ys f.offset a w h1
      have hne : f.name ≠ "_" := by intro e; rw [e] at hn; simp at hn
      have h3 := hrest d hd xs ys b w (by simpa [Nat.add_comm] using h2)
      simp only [Op.eqFields, hne, ne_eq, not_false_eq_true, if_true, Sem.run_bind, e1, e2, e3, Result.andThen_ok]
      cases a with
      | true => simpa using h3
      | false => simp
    · cases h
theorem eqA_ok {k n : Nat} {t e : TypeId} {j : TI} {q : List Kd} (hu : P.underlying t = some (.array n e)) (hj : tt e = some j) (hl : q.length = j.size) (ih : EqAt P tt k e q) :
    ∀ d, k ≤ d → ∀ xs ys r w, cmpL (List.replicate n q).flatten xs ys = some r → (Op.equalIn (d + 1) t (.agg xs.toArray) (.agg ys.toArray)).run P w = .ok r w := by
  intro d hd xs ys r w h
  simp only [Op.equalIn, Sem.run_bind, run_underlying hu, Result.andThen_ok, sizeOf_run tk hj, Std.Legacy.Range.forIn_eq_forIn_range', Std.Legacy.Range.size, Nat.sub_zero, Nat.add_one_sub_one, Nat.div_one]
  have key : ∀ (n s : Nat) (r : Bool), cmpL (List.replicate n q).flatten (xs.drop (s * j.size)) (ys.drop (s * j.size)) = some r →
      ((forIn (List.range' s n) (none, ()) fun i (_ : Option Bool × Unit) => (do
        let __do_lift ← part e xs.toArray (i * j.size)
        let __do_lift_1 ← part e ys.toArray (i * j.size)
        let __do_lift_2 ← Op.equalIn d e __do_lift __do_lift_1
        if (!__do_lift_2) = true then pure (ForInStep.done (some false, ())) else pure (ForInStep.yield (none, ())) : Sem (ForInStep (Option Bool × Unit)))).run P w) = .ok (if r then none else some false, ()) w := by
    intro n
    induction n with
    | zero =>
      intro s r h
      obtain ⟨_, _, rfl⟩ := cmpL_nil h
      simp
    | succ n ihn =>
      intro s r h
      rw [List.replicate_succ, List.flatten_cons] at h
      obtain ⟨a, b, h1, h2, rfl⟩ := cmpL_app h
      obtain ⟨x, y, e1, e2, e3⟩ := ih d hd xs ys (s * j.size) a w h1
      have h3 := ihn (s + 1) b (by rw [Nat.add_mul, Nat.one_mul, ← List.drop_drop, ← List.drop_drop, ← hl]; rw [← hl] at h2; exact h2)
      simp only [List.range'_succ, List.forIn_cons, Sem.run_bind, e1, e2, e3, Result.andThen_ok]
      cases a with
      | true => simpa using h3
      | false => simp
  have := key n 0 r (by simpa using h)
  rw [this]
  cases r <;> simp
omit tk in
theorem ksL_eqAt (tk : TTok P tt) : ∀ (k : Nat) (t : TypeId) (l : List Kd), ksL tt k t = some l → EqAt P tt k t l ∧ ∀ i, tt t = some i → isAg i.und = true → l.length = i.size ∧
    ∀ d, k ≤ d → ∀ xs ys q w, cmpL l xs ys = some q → (Op.equalIn d t (.agg xs.toArray) (.agg ys.toArray)).run P w = .ok q w := by
  intro k
  induction k with
  | zero => intro t l h; cases h
  | succ k ih =>
    intro t l h
    simp only [ksL] at h
    split at h
    · rename_i i hi
      obtain ⟨hu, _, hst⟩ := tk t i hi
      have ag : l.length = i.size → (∀ d, k ≤ d → ∀ xs ys q w, cmpL l xs ys = some q → (Op.equalIn (d + 1) t (.agg xs.toArray) (.agg ys.toArray)).run P w = .ok q w) → isAg i.und = true →
          EqAt P tt (k + 1) t l ∧ ∀ i, tt t = some i → isAg i.und = true → l.length = i.size ∧
            ∀ d, k + 1 ≤ d → ∀ xs ys q w, cmpL l xs ys = some q → (Op.equalIn d t (.agg xs.toArray) (.agg ys.toArray)).run P w = .ok q w := by
        intro hl he ha
        refine ⟨eqAt_agg tk hi ha hl he, fun i' hi' _ => ?_⟩
        rw [hi] at hi'; cases hi'
        exact ⟨hl, fun d hd => by obtain ⟨d, rfl⟩ : ∃ d', d = d' + 1 := ⟨d - 1, by omega⟩; exact he d (by omega)⟩
      have bs : ∀ kd, l = [kd] → isAg i.und = false → (∀ d x y q w, eqc kd x y = some q → (Op.equalIn (d + 1) t x y).run P w = .ok q w) →
          EqAt P tt (k + 1) t l ∧ ∀ i, tt t = some i → isAg i.und = true → l.length = i.size ∧
            ∀ d, k + 1 ≤ d → ∀ xs ys q w, cmpL l xs ys = some q → (Op.equalIn d t (.agg xs.toArray) (.agg ys.toArray)).run P w = .ok q w := by
        rintro kd rfl ha he
        refine ⟨eqAt_base tk hi ha he, fun i' hi' ha' => ?_⟩
        rw [hi] at hi'; cases hi'; rw [ha] at ha'; cases ha'
      split at h
      · rename_i kk hk
        cases h
        refine bs .i rfl (by rw [hk]; rfl) fun d x y q w hq => ?_
        cases x <;> cases y <;> simp only [eqc] at hq <;> first | cases hq; done | skip
        split at hq
        · rename_i e; cases hq; subst e; rw [hk] at hu; simp [Op.equalIn, run_underlying hu]
        · cases hq
      · rename_i hk
        cases h
        refine bs .b rfl (by rw [hk]; rfl) fun d x y q w hq => ?_
        cases x <;> cases y <;> simp only [eqc] at hq <;> first | cases hq; done | skip
        cases hq; rw [hk] at hu; simp [Op.equalIn, run_underlying hu]
      · rename_i hk
        cases h
        refine bs .s rfl (by rw [hk]; rfl) fun d x y q w hq => ?_
        cases x <;> cases y <;> simp only [eqc] at hq <;> first | cases hq; done | skip
        cases hq; rw [hk] at hu; simp [Op.equalIn, run_underlying hu]
      · rename_i fs hk
        split at h
        · rename_i l' hF
          split at h
          · rename_i hl
            cases h
            obtain ⟨rest, hrest, hx⟩ := eqF_ok (fun t l h => (ih t l h).1) _ _ _ hF
            simp only [List.nil_append] at hrest
            subst hrest
            rw [hk] at hu
            have hf : P.fieldsOf t = fs := by simp [Program.fieldsOf, hu]
            refine ag (Nat.eq_of_beq_eq_true hl) (fun d hd xs ys q w hq => ?_) (by rw [hk]; rfl)
            rw [run_equalIn_struct w d t _ _ (by rw [hf]; exact hu) hst, hf]
            exact hx d hd xs ys q w (by simpa using hq)
          · cases h
        · cases h
      · rename_i n e hk
        split at h
        · rename_i q j hq hj
          split at h
          · rename_i hl
            cases h
            simp only [Bool.and_eq_true] at hl
            have h1 := Nat.eq_of_beq_eq_true hl.1
            have h2 := Nat.eq_of_beq_eq_true hl.2
            rw [hk] at hu
            exact ag (by simp [h1, h2]) (eqA_ok tk hu hj h1 (ih e q hq).1) (by rw [hk]; rfl)
          · cases h
        · cases h
      · cases h
    · cases h
theorem ksL_guard : ∀ (k : Nat) (t : TypeId) (l : List Kd), ksL tt k t = some l → ∀ d, k ≤ d → P.eqGuardType d t = false := by
  intro k
  induction k with
  | zero => intro t l h; cases h
  | succ k ih =>
    intro t l h d hd
    obtain ⟨d, rfl⟩ : ∃ d', d = d' + 1 := ⟨d - 1, by omega⟩
    simp only [ksL] at h
    split at h
    · rename_i i hi
      obtain ⟨hu, _, hst⟩ := tk t i hi
      split at h
      · rename_i hk; simp [Program.eqGuardType, hu, hk]
      · rename_i hk; simp [Program.eqGuardType, hu, hk]
      · rename_i hk; simp [Program.eqGuardType, hu, hk]
      · rename_i fs hk
        simp only [Program.eqGuardType, hu, hk]
        split at h
        · rename_i l' hF
          have : ∀ (fs : List Field) (acc l : List Kd), ksF (ksL tt k) fs acc = some l → ∀ f ∈ fs, P.eqGuardType d f.type = false := by
            intro fs
            induction fs with
            | nil => intro _ _ _ f hf; cases hf
            | cons f fs ihf =>
              intro acc l h g hg
              simp only [ksF] at h
              split at h
              · rename_i q _ hq _
                rcases List.mem_cons.1 hg with rfl | hg
                · exact ih _ _ hq d (by omega)
                · exact ihf _ _ h g hg
              · cases h
          rw [Array.any_eq_false]
          intro n hn
          simp [this _ _ _ hF (fs[n]) (by simp)]
        · cases h
      · rename_i n e hk
        simp only [Program.eqGuardType, hu, hk]
        split at h
        · rename_i q j hq hj
          exact ih _ _ hq d (by omega)
        · cases h
      · cases h
    · cases h
end Go.Ads
set_option autoImplicit false
set_option linter.unusedSimpArgs false
set_option linter.unusedVariables false
namespace Go.Ads
section
variable {P : Program} {tt : TT} (tk : TTok P tt) {ρ : Rho} {m : Nat} {h h' : H} {v : V} {f : FR} {e : V} {inv : Inv} {r : Operand → Option Rf} {ev : Operand → Value}
theorem aggO_ok {k : V → Option Bool} {v : V} {q : Bool} (h : aggO k v = some q) : ∃ cs, v = .agg cs ∧ k cs = some q := by
  cases v <;> first | exact ⟨_, rfl, h⟩ | cases h
theorem nlSl_ok {n s : Option Bool} {v : V} {q : Bool} (h : nlSl n s v = some q) : (∃ u, v = .x .nils u ∧ n = some q) ∨ ∃ b o l c, v = .sl b o l c ∧ s = some q := by
  cases v with
  | x t u => cases t <;> first | exact .inl ⟨_, rfl, h⟩ | cases h
  | sl b o l c => exact .inr ⟨_, _, _, _, rfl, h⟩
  | _ => cases h
theorem nlPt_ok {n s : Option Bool} {v : V} {q : Bool} (h : nlPt n s v = some q) : (∃ u, v = .x .nilp u ∧ n = some q) ∨ ∃ b o, v = .ptr b o ∧ s = some q := by
  cases v with
  | x t u => cases t <;> first | exact .inl ⟨_, rfl, h⟩ | cases h
  | ptr b o => exact .inr ⟨_, _, rfl, h⟩
  | _ => cases h
include tk
theorem eqv_ok {t : TypeId} {sh : Sh} (hs : shOf tt t = some sh) {a b : V} {q : Bool} (h : eqv sh a b = some q) (w : World) : (Op.equal t (conc ρ a) (conc ρ b)).run P w = .ok q w := by
  simp only [shOf] at hs
  unfold Op.equal
  obtain ⟨D, hD, hd⟩ : ∃ D, 4 ≤ D ∧ Op.maxDepth = D + 1 := ⟨9999, by omega, rfl⟩
  rw [hd]
  split at hs
  · rename_i i hi
    obtain ⟨hu, _, hst⟩ := tk t i hi
    split at hs
    · rename_i k hk
      cases hs
      obtain ⟨k, x, y, rfl, rfl, rfl⟩ := eqI_ok h
      rw [hk] at hu; simp [Op.equalIn, run_underlying hu, conc]
    · rename_i hk
      cases hs
      obtain ⟨x, y, rfl, rfl, rfl⟩ := eqB_ok h
      rw [hk] at hu; simp [Op.equalIn, run_underlying hu, conc]
    · rename_i hk
      cases hs
      obtain ⟨x, y, rfl, rfl, rfl⟩ := eqS_ok h
      rw [hk] at hu; simp only [Op.equalIn, Sem.run_bind, run_underlying hu, conc, Result.andThen_ok, Sem.run_pure, strEq_beq]
    · rename_i fs hk
      split at hs
      · rename_i l hl
        cases hs
        obtain ⟨cs, rfl, h⟩ := aggO_ok h
        obtain ⟨ds, rfl, h⟩ := aggO_ok h
        exact ((ksL_eqAt tk 4 t l hl).2 i hi (by rw [hk]; rfl)).2 _ (by omega) _ _ q w (eqs_ok h)
      · cases hs
    · rename_i n e' hk
      split at hs
      · rename_i l hl
        cases hs
        obtain ⟨cs, rfl, h⟩ := aggO_ok h
        obtain ⟨ds, rfl, h⟩ := aggO_ok h
        exact ((ksL_eqAt tk 4 t l hl).2 i hi (by rw [hk]; rfl)).2 _ (by omega) _ _ q w (eqs_ok h)
      · cases hs
    · rename_i e' hk
      cases hs
      rw [hk] at hu
      have h0 : nlSl (nlSl (some true) (some false) b) (nlSl (some false) none b) a = some q := h
      clear h
      rcases nlSl_ok h0 with ⟨u, rfl, h1⟩ | ⟨b1, o, l, c, rfl, h1⟩
      · rcases nlSl_ok h1 with ⟨u2, rfl, h2⟩ | ⟨b2, o2, l2, c2, rfl, h2⟩ <;> cases h2 <;> simp [Op.equalIn, run_underlying hu, conc]
      · rcases nlSl_ok h1 with ⟨u2, rfl, h2⟩ | ⟨b2, o2, l2, c2, rfl, h2⟩ <;> cases h2 <;> simp [Op.equalIn, run_underlying hu, conc]
    · rename_i e' hk
      cases hs
      rw [hk] at hu
      have h0 : nlPt (nlPt (some true) (some false) b) (nlPt (some false) none b) a = some q := h
      clear h
      rcases nlPt_ok h0 with ⟨u, rfl, h1⟩ | ⟨b1, o, rfl, h1⟩
      · rcases nlPt_ok h1 with ⟨u2, rfl, h2⟩ | ⟨b2, o2, rfl, h2⟩ <;> cases h2 <;> simp [Op.equalIn, run_underlying hu, conc]
      · rcases nlPt_ok h1 with ⟨u2, rfl, h2⟩ | ⟨b2, o2, rfl, h2⟩ <;> cases h2 <;> simp [Op.equalIn, run_underlying hu, conc]
    · cases hs
  · cases hs
/-- the two comparisons, at whatever values -/
theorem eq_run {t : TypeId} {sh : Sh} (hs : shOf tt t = some sh) {a b : V} {q : Bool} (h : eqv sh a b = some q) (x y : Operand) (w : World) :
    (do eqGuard .eql t x y (conc ρ a) (conc ρ b); binOp .eql t (conc ρ a) (conc ρ b)).run P w = .ok (.bool q) w ∧
    (do eqGuard .neq t x y (conc ρ a) (conc ρ b); binOp .neq t (conc ρ a) (conc ρ b)).run P w = .ok (.bool !q) w := by
  have he := eqv_ok (ρ := ρ) tk hs h w
  have hs0 := hs
  simp only [shOf] at hs
  split at hs
  · rename_i i hi
    obtain ⟨hu, _, hst⟩ := tk t i hi
    have ag : ∀ l cs ds, ksL tt 4 t = some l → a = .agg cs → b = .agg ds → ((do eqGuard .eql t x y (conc ρ a) (conc ρ b); binOp .eql t (conc ρ a) (conc ρ b)).run P w = .ok (.bool q) w ∧
        (do eqGuard .neq t x y (conc ρ a) (conc ρ b); binOp .neq t (conc ρ a) (conc ρ b)).run P w = .ok (.bool !q) w) := by
      rintro l cs ds hl rfl rfl
      have hg := ksL_guard tk 4 t l hl P.depth (by unfold Program.depth Made.depth; omega)
      simp only [conc] at he ⊢
      constructor <;> simp [eqGuard, binOp, hg, he]
    split at hs
    · cases hs
      obtain ⟨k, x', y', rfl, rfl, rfl⟩ := eqI_ok h
      simp only [conc]
      constructor <;> simp [eqGuard_at_int, binOp_eql, binOp_neq] <;> rfl
    · cases hs
      obtain ⟨x', y', rfl, rfl, rfl⟩ := eqB_ok h
      simp only [conc] at he ⊢
      constructor <;> simp [eqGuard_at_bool, binOp, he]
    · cases hs
      obtain ⟨x', y', rfl, rfl, rfl⟩ := eqS_ok h
      simp only [conc]
      rw [strEq_beq]
      constructor <;> simp only [eqGuard_at_string, binOp, Op.stringOp, Sem.run_bind, Sem.run_pure, Result.andThen_ok, beq_toListBytes]
    · split at hs
      · rename_i l hl
        cases hs
        obtain ⟨cs, rfl, h⟩ := aggO_ok h
        obtain ⟨ds, rfl, h⟩ := aggO_ok h
        exact ag l cs ds hl rfl rfl
      · cases hs
    · split at hs
      · rename_i l hl
        cases hs
        obtain ⟨cs, rfl, h⟩ := aggO_ok h
        obtain ⟨ds, rfl, h⟩ := aggO_ok h
        exact ag l cs ds hl rfl rfl
      · cases hs
    · cases hs
      have h0 : nlSl (nlSl (some true) (some false) b) (nlSl (some false) none b) a = some q := h
      clear h
      rcases nlSl_ok h0 with ⟨u, rfl, h1⟩ | ⟨b1, o, l, c, rfl, h1⟩
      · rcases nlSl_ok h1 with ⟨u2, rfl, h2⟩ | ⟨b2, o2, l2, c2, rfl, h2⟩ <;> simp only [conc] at he ⊢ <;> constructor <;> simp [eqGuard_at_slice, binOp, he]
      · rcases nlSl_ok h1 with ⟨u2, rfl, h2⟩ | ⟨b2, o2, l2, c2, rfl, h2⟩ <;> simp only [conc] at he ⊢ <;> constructor <;> simp [eqGuard_at_slice, binOp, he]
    · cases hs
      have h0 : nlPt (nlPt (some true) (some false) b) (nlPt (some false) none b) a = some q := h
      clear h
      rcases nlPt_ok h0 with ⟨u, rfl, h1⟩ | ⟨b1, o, rfl, h1⟩
      · rcases nlPt_ok h1 with ⟨u2, rfl, h2⟩ | ⟨b2, o2, rfl, h2⟩ <;> simp only [conc] at he ⊢ <;> constructor <;> simp [eqGuard_at_pointer, binOp, he]
      · rcases nlPt_ok h1 with ⟨u2, rfl, h2⟩ | ⟨b2, o2, rfl, h2⟩ <;> simp only [conc] at he ⊢ <;> constructor <;> simp [eqGuard_at_pointer, binOp, he]
    · cases hs
  · cases hs
variable (hr : Ops r ev ρ m f e)
include hr
theorem pu_ceq {op : BinOp} {x y : Operand} {t : TypeId} {io : IOp} (hc : ceq tt r op t x y = some io) (he : opT inv io f e h = .ok v h') : Pu P (do eqGuard op t x y (ev x) (ev y); binOp op t (ev x) (ev y)) m ρ v h h' := by
  have key : ∀ sh ng, shOf tt t = some sh → bin2 r (.eq sh ng) x y = some io → ((op = .eql ∧ ng = false) ∨ (op = .neq ∧ ng = true)) → Pu P (do eqGuard op t x y (ev x) (ev y); binOp op t (ev x) (ev y)) m ρ v h h' := by
    intro sh ng hs hc hop
    obtain ⟨a, b, ha, hb, rfl⟩ := bin2_ok hc
    obtain ⟨q, hq, e2⟩ := orec_ok (show (Option.rec OR.bad (fun q => .ok (.bool (nif ng q)) h) (eqv sh (a.ev f e) (b.ev f e)) : OR) = .ok v h' from he)
    obtain ⟨rfl, rfl⟩ := or_ok e2
    obtain ⟨h1, _⟩ := hr _ _ ha
    obtain ⟨h2, _⟩ := hr _ _ hb
    refine ⟨rfl, trivial, fun w => ?_⟩
    rw [h1, h2]
    have := eq_run (ρ := ρ) tk hs hq x y w
    rcases hop with ⟨rfl, rfl⟩ | ⟨rfl, rfl⟩
    · rw [this.1]; simp only [conc, nif_eq, Bool.false_eq_true, if_false]
    · rw [this.2]; simp only [conc, nif_eq, if_true]
  unfold ceq at hc
  split at hc
  · rename_i sh hs; exact key sh false hs hc (.inl ⟨rfl, rfl⟩)
  · rename_i sh hs; exact key sh true hs hc (.inr ⟨rfl, rfl⟩)
  · cases hc; cases he
omit tk in
theorem pu_cat {x y : Operand} {t : TypeId} {io : IOp} (hc : bin2 r .cat x y = some io) (he : opT inv io f e h = .ok v h') : Pu P (do eqGuard .add t x y (ev x) (ev y); binOp .add t (ev x) (ev y)) m ρ v h h' := by
  obtain ⟨a, b, ha, hb, rfl⟩ := bin2_ok hc
  obtain ⟨p, ea, e2⟩ := toStr_ok he
  obtain ⟨q, eb, e3⟩ := toStr_ok e2
  obtain ⟨hle, e4⟩ := iff_ok e3
  obtain ⟨rfl, rfl⟩ := or_ok e4
  obtain ⟨h1, _⟩ := hr _ _ ha
  obtain ⟨h2, _⟩ := hr _ _ hb
  rw [ea] at h1; rw [eb] at h2
  simp only [conc] at h1 h2
  have hle := Nat.le_of_ble_eq_true hle
  rw [lenS_eq, lenS_eq] at hle
  refine ⟨rfl, trivial, fun w => ?_⟩
  rw [h1, h2, eqGuard_at_string]
  have hno : ¬ ((((⟨(p.map UInt8.ofNat).toArray⟩ : ByteArray).size + (⟨(q.map UInt8.ofNat).toArray⟩ : ByteArray).size : Nat) : Int) > IntKind.i64.max) := by
    simp only [ByteArray.size_mk']
    simp [IntKind.max, IntKind.signed, IntKind.bits]
    simp only [Nat.add_eq] at hle
    omega
  have happ : (⟨(p.map UInt8.ofNat).toArray⟩ : ByteArray) ++ ⟨(q.map UInt8.ofNat).toArray⟩ = ⟨((appS p q).map UInt8.ofNat).toArray⟩ := by
    rw [appS_eq]
    apply ByteArray.ext
    simp
  simp only [Sem.run_bind, Sem.run_pure, Result.andThen_ok, binOp, Op.stringOp, hno, if_false, happ, conc]
theorem pu_bin {op : BinOp} {x y : Operand} {t : TypeId} {io : IOp} (hc : cbin tt r op t x y = some io) (he : opT inv io f e h = .ok v h') : Pu P (do eqGuard op t x y (ev x) (ev y); binOp op t (ev x) (ev y)) m ρ v h h' := by
  unfold cbin at hc
  split at hc
  · rename_i i hi
    split at hc
    · split at hc
      · exact pu_ar hr (o := iadd) hc (fun _ _ => rfl) (fun kk p q w => by rw [binOp_add, iadd_eq]; rfl) he
      · exact pu_ar hr (o := isub) hc (fun _ _ => rfl) (fun kk p q w => by rw [binOp_sub, isub_eq]; rfl) he
      · exact pu_ar hr (o := imul) hc (fun _ _ => rfl) (fun kk p q w => by rw [binOp_mul, imul_eq]; rfl) he
      · refine pu_nn hr (g := fun h k x y => Bool.rec (.ok (.int k (small k (.ofNat (Nat.div x y)))) h) .bad (Nat.beq y 0)) hc (fun _ _ _ _ _ => rfl) (fun kk p q v h' hg => ?_) he
        cases hz : Nat.beq q 0 with
        | true => rw [hz] at hg; cases hg
        | false =>
          rw [hz] at hg
          obtain ⟨rfl, rfl⟩ := or_ok hg
          have : ¬ (q : Int) = 0 := fun e => by rw [show q = 0 from by omega] at hz; cases hz
          refine ⟨rfl, _, rfl, fun w => ?_⟩
          rw [binOp_quo, small_eq]
          simp only [Op.intDiv, this, if_false]
          rfl
      · refine pu_nn hr (g := fun h k x y => Bool.rec (.ok (.int k (.ofNat (Nat.mod x y))) h) .bad (Nat.beq y 0)) hc (fun _ _ _ _ _ => rfl) (fun kk p q v h' hg => ?_) he
        cases hz : Nat.beq q 0 with
        | true => rw [hz] at hg; cases hg
        | false =>
          rw [hz] at hg
          obtain ⟨rfl, rfl⟩ := or_ok hg
          have : ¬ (q : Int) = 0 := fun e => by rw [show q = 0 from by omega] at hz; cases hz
          refine ⟨rfl, _, rfl, fun w => ?_⟩
          rw [binOp_rem]
          simp only [Op.intDiv, this, if_false]
          rfl
      · refine pu_nn hr (g := fun h k x y => .ok (.int k (small k (.ofNat (Nat.land x y)))) h) hc (fun _ _ _ _ _ => rfl) (fun kk p q v h' hg => ?_) he
        obtain ⟨rfl, rfl⟩ := or_ok hg
        refine ⟨rfl, _, rfl, fun w => ?_⟩
        rw [binOp_and, small_eq]
        simp only [Op.intBits]
        rw [band_eq]; rfl
      · exact pu_shr hr hc he
      · exact pu_cm hr (o := ilt) hc (fun _ _ => rfl) (fun kk p q w => by rw [binOp_lss, ilt_eq]; rfl) he
      · exact pu_cm hr (o := ile) hc (fun _ _ => rfl) (fun kk p q w => by rw [binOp_leq, ile_eq]; rfl) he
      · exact pu_cm hr (o := fun a b => ilt b a) hc (fun _ _ => rfl) (fun kk p q w => by rw [binOp_gtr]; simp only [ilt_eq]; rfl) he
      · exact pu_cm hr (o := fun a b => ile b a) hc (fun _ _ => rfl) (fun kk p q w => by rw [binOp_geq]; simp only [ile_eq]; rfl) he
      · exact pu_eq_int hr (.inl ⟨rfl, rfl⟩) hc he
      · exact pu_eq_int hr (.inr ⟨rfl, rfl⟩) hc he
      · cases hc; cases he
    · split at hc
      · exact pu_cat hr hc he
      · exact pu_ceq tk hr hc he
    · exact pu_ceq tk hr hc he
    · exact pu_ceq tk hr hc he
    · exact pu_ceq tk hr hc he
    · exact pu_ceq tk hr hc he
    · cases hc; cases he
  · cases hc
end
end Go.Ads
set_option autoImplicit false
set_option linter.unusedSimpArgs false
set_option linter.unusedVariables false
namespace Go.Ads
section
variable {P : Program} {tt : TT} (tk : TTok P tt) {ρ : Rho} {m : Nat} {h h' : H} {v : V} {f : FR} {e : V} {inv : Inv} {r : Operand → Option Rf} {ev : Operand → Value}

/-! ### Conversions -/
theorem encode_small (n : Nat) (h : n < 128) : Utf8.encode n = ⟨#[UInt8.ofNat n]⟩ := by
  have hv : Utf8.valid n = true := by simp [Utf8.valid]; omega
  have hl : n < 0x80 := h
  simp [Utf8.encode, hv, hl]
/-- the conversions that read no memory -/
def pureConv (tt : TT) (s : TypeId) : Prop := ∀ i, tt s = some i → ∀ e, i.und ≠ .slice e
include tk in
theorem pu_conv (hr : Ops r ev ρ m f e) {s d : TypeId} {x : Operand} {io : IOp} (hp : pureConv tt s) (hc : cconv tt r s d x = some io) (he : opT inv io f e h = .ok v h') : Pu P (convert s d (ev x)) m ρ v h h' := by
  unfold cconv at hc
  split at hc
  · rename_i i j hi hj
    split at hc
    · rename_i k k' hs hd
      obtain ⟨a, ha, rfl⟩ := un1_ok hc
      obtain ⟨k2, n, ea, e2⟩ := toInt_ok he
      obtain ⟨rfl, rfl⟩ := or_ok e2
      obtain ⟨h1, _⟩ := hr _ _ ha
      rw [ea] at h1
      simp only [conc] at h1
      refine ⟨rfl, trivial, fun w => ?_⟩
      simp [convert, und_run tk hi, und_run tk hj, hs, hd, h1, Conv.intToInt, conc, small_eq]
    · rename_i k hs hd
      obtain ⟨a, ha, rfl⟩ := un1_ok hc
      obtain ⟨k2, n, ea, e2⟩ := toNat_ok he
      obtain ⟨hlt, e3⟩ := iff_ok e2
      obtain ⟨rfl, rfl⟩ := or_ok e3
      obtain ⟨h1, _⟩ := hr _ _ ha
      rw [ea] at h1
      simp only [conc] at h1
      refine ⟨rfl, trivial, fun w => ?_⟩
      simp [convert, und_run tk hi, und_run tk hj, hs, hd, h1, Conv.intToString, conc, encode_small n (blt_iff.1 hlt)]
    · rename_i hs hd
      obtain ⟨a, ha, rfl⟩ := un1_ok hc
      obtain ⟨q, ea, e2⟩ := toStr_ok he
      obtain ⟨hle, e2'⟩ := iff_ok (show iff (Nat.ble 0 (lenS q)) (iff (Nat.ble (lenS q) (lenS q)) (Option.rec .bad (fun r => .ok (.str r) h) (takeS (Nat.sub (lenS q) 0) (dropS 0 q)))) = .ok v h' from e2)
      obtain ⟨_, e3⟩ := iff_ok e2'
      obtain ⟨u, hu, e4⟩ := orec_ok e3
      obtain ⟨rfl, rfl⟩ := or_ok e4
      obtain ⟨h1, h2⟩ := hr _ _ ha
      have : u = q := by
        have := (takeS_ok _ hu).1
        rw [dropS_eq] at this
        rw [this]
        show List.take (lenS q) (List.drop 0 q) = q
        rw [lenS_eq, List.drop_zero, List.take_length]
      subst this
      rw [ea] at h1
      simp only [conc] at h1
      refine ⟨rfl, trivial, fun w => ?_⟩
      simp [convert, und_run tk hi, und_run tk hj, hs, hd, h1, conc]
    · rename_i e' hs hd
      exact absurd hs (hp i hi e')
    · cases hc; cases he
  · cases hc

/-! ### Structs and arrays out of their parts -/
theorem fold_set (off : Nat) : ∀ (vs : List Value) (k : Nat) (cs : Array Value), off + k + vs.length ≤ cs.size →
    (vs.zipIdx k).foldl (fun cs (p : Value × Nat) => cs.setIfInBounds (off + p.2) p.1) cs = (cs.toList.take (off + k) ++ vs ++ cs.toList.drop (off + k + vs.length)).toArray := by
  intro vs
  induction vs with
  | nil => intro k cs _; simp
  | cons v vs ih =>
    intro k cs hl
    simp only [List.length_cons] at hl
    rw [List.zipIdx_cons, List.foldl_cons, ih (k + 1) _ (by simp; omega)]
    have := list_seg_step cs.toList (off + k) v vs (by simp; omega)
    simp only [Array.toList_setIfInBounds, List.length_cons] at this ⊢
    rw [show off + (k + 1) = off + k + 1 from by omega, show off + k + (vs.length + 1) = off + k + 1 + vs.length from by omega]
    rw [show off + k + (vs.length + 1) = off + k + 1 + vs.length from by omega] at this
    exact congrArg List.toArray this
theorem fill_lay (hr : Ops r ev ρ m f e) {off : Nat → Option (Nat × Nat)} {pl : Nat → Option (Nat × Nat)} (hpl : ∀ i p, off i = some p → pl i = some p) : ∀ (ps : List (Nat × Operand)) (pt : Pts) (z l : V), ptsOf r off ps = some pt →
    pt.lay f e z = some l → Bd m z → One z → Instr.fill pl (concL ρ z).toArray (ps.map fun p => (p.1, ev p.2)) = some (concL ρ l).toArray ∧ Bd m l ∧ One l := by
  intro ps
  induction ps with
  | nil => intro pt z l hp hl hb ho; cases hp; cases hl; exact ⟨by simp [Instr.fill], hb, ho⟩
  | cons q ps ih =>
    intro pt z l hp hl hb ho
    obtain ⟨i, x⟩ := q
    simp only [ptsOf] at hp
    split at hp
    · rename_i n k hoff
      split at hp
      · rename_i a ha
        split at hp
        · rename_i t ht
          cases hp
          change (Bool.rec none (Option.rec none (t.lay f e) (layAt (a.ev f e).cells n z)) (fitV k (a.ev f e)) : Option V) = some l at hl
          cases hf : fitV k (a.ev f e) with
          | false => rw [hf] at hl; cases hl
          | true =>
            rw [hf] at hl
            cases hL : layAt (a.ev f e).cells n z with
            | none => rw [hL] at hl; cases hl
            | some z' =>
              rw [hL] at hl
              obtain ⟨h1, h2⟩ := hr _ _ ha
              obtain ⟨f1, f2⟩ := fitV_ok (ρ := ρ) hf
              obtain ⟨g1, g2⟩ := layAt_ok (ρ := ρ) _ _ hL
              have hcells : (ev x).cells = (concL ρ (a.ev f e).cells).toArray := by rw [h1, cells_eq]
              have hsz : (ev x).cells.size = k := by rw [hcells]; simpa using f2
              have hset := fold_set n (concL ρ (a.ev f e).cells) 0 (concL ρ z).toArray (by simpa using g2)
              have := ih t z' l ht hl (Bd.layAt _ _ hL h2.cells hb) (One.layAt _ _ hL (One.cells f1 h2) ho)
              refine ⟨?_, this.2⟩
              simp only [List.map_cons, Instr.fill, hpl i _ hoff]
              have hcond : ¬ ((ev x).cells.size ≠ k ∨ n + (ev x).cells.size > (concL ρ z).toArray.size) := by rw [hsz]; simp; rw [← f2]; exact g2
              simp only [Bool.or_eq_true, decide_eq_true_eq]
              rw [if_neg (by simpa using hcond), ← this.1, g1]
              congr 1
              rw [hcells, ← Array.foldl_toList, Array.toList_zipIdx]
              simpa using hset
        · cases hp
      · cases hp
    · cases hp
theorem zeroC_ok (tk : TTok P tt) {t : TypeId} {z : V} (hz : zeroC tt t = some z) : ∃ i zv, tt t = some i ∧ i.zero = some zv ∧ zv.cells = (concL ρ z).toArray ∧ (∀ n, Bd n z) ∧ (One z ∧ (concL ρ z).length = i.size) ∧ ∀ w, (zeroValue t).run P w = .ok zv w := by
  unfold zeroC at hz
  split at hz
  · rename_i i hi
    split at hz
    · rename_i zv hzv
      split at hz
      · rename_i x hx
        split at hz
        · rename_i ho
          cases hz
          obtain ⟨h1, h2⟩ := vOf_ok (ρ := ρ) hx
          obtain ⟨_, ⟨q, q1, q2, _⟩, _⟩ := tk t i hi
          exact ⟨i, zv, hi, hzv, by rw [← h1, cells_eq], fun n => (h2 n).cells, ⟨One.cells (fitV_ok (ρ := ρ) ho).1 (h2 0), (fitV_ok (ρ := ρ) ho).2⟩, fun w => by simp [zeroValue, typeInfo, q1, q2, hzv]⟩
        · cases hz
      · cases hz
    · cases hz
  · cases hz
theorem mapM_run {α β : Type} {g : α → Sem β} {k : α → β} {w : World} : ∀ (l : List α), (∀ x ∈ l, (g x).run P w = .ok (k x) w) → (l.mapM g).run P w = .ok (l.map k) w := by
  intro l
  induction l with
  | nil => intro _; simp
  | cons x l ih => intro h; simp [List.mapM_cons, h x (by simp), ih (fun y hy => h y (by simp [hy]))]
theorem pu_build (tk : TTok P tt) (hr : Ops r ev ρ m f e) {t : TypeId} {ps : Array (Nat × Operand)} {io : IOp} (hc : cio tt r (.build t ps) = some io) (he : opT inv io f e h = .ok v h') :
    Pu P (Instr.build t (ps.map fun (i, x) => (i, ev x))) m ρ v h h' := by
  simp only [cio] at hc
  have hps : (ps.map fun (i, x) => (i, ev x)).toList = ps.toList.map fun p => (p.1, ev p.2) := by simp
  split at hc
  · rename_i i hi
    split at hc
    · rename_i fs z hk hz
      obtain ⟨i', zv, hi', hzv, hcz, hbz, ⟨hoz, _⟩, hrz⟩ := zeroC_ok (ρ := ρ) tk hz
      split at hc
      · rename_i hall
        split at hc
        · rename_i pt hpt
          cases hc
          obtain ⟨l, hl, e2⟩ := orO_ok he
          obtain ⟨rfl, rfl⟩ := or_ok e2
          have hplaces : ∀ w, (fs.mapM fun fd => (do pure (fd.offset, ← sizeOf fd.type) : Sem (Nat × Nat))).run P w = .ok (fs.map fun fd => (fd.offset, ((tt fd.type).map (·.size)).getD 0)) w := by
            intro w
            rw [Array.mapM_eq_mapM_toList]
            have := mapM_run (P := P) (w := w) (g := fun fd : Field => (do pure (fd.offset, ← sizeOf fd.type) : Sem (Nat × Nat))) (k := fun fd => (fd.offset, ((tt fd.type).map (·.size)).getD 0)) fs.toList (fun fd hfd => by
              have := List.all_eq_true.1 hall fd hfd
              cases hq : tt fd.type with
              | none => rw [hq] at this; cases this
              | some j => simp [sizeOf_run tk hq])
            simp only [Sem.run_map, this, Result.andThen_ok]
            congr 1
            apply Array.ext'
            simp
          have hfill := fill_lay (ρ := ρ) (pl := fun n => (fs.map fun fd => (fd.offset, ((tt fd.type).map (·.size)).getD 0))[n]?) hr (fun n p hp => by
            split at hp
            · rename_i o t' ho
              obtain ⟨fs', fd, hu, hf, ho2, ht⟩ := fieldOff_ok tk ho
              split at hp
              · rename_i j hj
                cases hp
                rw [(tk t i hi).1, hk] at hu
                cases hu
                simp [hf, ho2, ht, hj]
              · cases hp
            · cases hp) ps.toList pt z l hpt hl (hbz m) hoz
          refine ⟨rfl, ⟨hfill.2.1, hfill.2.2⟩, fun w => ?_⟩
          simp only [Instr.build, Sem.run_bind, hrz, Result.andThen_ok, und_run tk hi, hk, hplaces, hcz, hps, hfill.1, Sem.run_pure, conc]
        · cases hc
      · cases hc
    · rename_i n e' z hk hz
      obtain ⟨i', zv, hi', hzv, hcz, hbz, ⟨hoz, _⟩, hrz⟩ := zeroC_ok (ρ := ρ) tk hz
      split at hc
      · rename_i j hj
        split at hc
        · rename_i pt hpt
          cases hc
          obtain ⟨l, hl, e2⟩ := orO_ok he
          obtain ⟨rfl, rfl⟩ := or_ok e2
          have hfill := fill_lay (ρ := ρ) (pl := fun n => some (n * j.size, j.size)) hr (fun n p hp => hp) ps.toList pt z l hpt hl (hbz m) hoz
          refine ⟨rfl, ⟨hfill.2.1, hfill.2.2⟩, fun w => ?_⟩
          simp only [Instr.build, Sem.run_bind, hrz, Result.andThen_ok, und_run tk hi, hk, sizeOf_run tk hj, hcz, hps, hfill.1, Sem.run_pure, conc]
        · cases hc
      · cases hc
    · cases hc
  · cases hc
end
end Go.Ads
set_option autoImplicit false
set_option linter.unusedSimpArgs false
set_option linter.unusedVariables false
namespace Go.Ads
section
variable {P : Program} {tt : TT} (tk : TTok P tt) {ρ : Rho} {m : Nat} {h h' : H} {v : V} {f : FR} {e : V} {inv : Inv} {r : Operand → Option Rf} {ev : Operand → Value}
include tk
theorem pu_len (hr : Ops r ev ρ m f e) {c : Call} {ty : TypeId} {x : Operand} {t : TypeId} {i : TI} {io : IOp} (hb : c.callee = .builtin .len) (hx : c.args.toList = [x]) (ht : c.argTypes.toList = [t]) (hi : tt t = some i)
    (hm : ∀ k e, i.und ≠ .map k e) (hc : ccall tt r c = some io) (he : opT inv io f e h = .ok v h') : PuN P (do let d ← resolve ev c ty; invoke d.target d.args) m ρ v h h' := by
  have hA : c.args = #[x] := Array.ext' (by simpa using hx)
  have hT : c.argTypes = #[t] := Array.ext' (by simpa using ht)
  simp only [ccall, hb, hx, ht, hi] at hc
  split at hc
  · rename_i hu
    obtain ⟨a, ha, rfl⟩ := un1_ok hc
    obtain ⟨s, ea, e2⟩ := toStr_ok he
    obtain ⟨rfl, rfl⟩ := or_ok e2
    obtain ⟨h1, _⟩ := hr _ _ ha
    rw [ea] at h1
    simp only [conc] at h1
    refine ⟨rfl, trivial, fun w => ?_⟩
    simp [resolve, hb, hA, hT, invoke, builtin, Builtin.len_, und_run tk hi, hu, h1, conc, goInt, lenS_eq, ByteArray.size_mk']
  · rename_i q hu
    obtain ⟨a, ha, rfl⟩ := un1_ok hc
    obtain ⟨h1, _⟩ := hr _ _ ha
    rcases toSl_ok he with ⟨u, ea, e2⟩ | ⟨b, off, n, cc, ea, e2⟩
    · obtain ⟨rfl, rfl⟩ := or_ok e2
      rw [ea] at h1
      simp only [conc] at h1
      exact ⟨rfl, trivial, fun w => by simp [resolve, hb, hA, hT, invoke, builtin, Builtin.len_, und_run tk hi, hu, h1, conc, goInt]⟩
    · obtain ⟨rfl, rfl⟩ := or_ok e2
      rw [ea] at h1
      simp only [conc] at h1
      exact ⟨rfl, trivial, fun w => by simp [resolve, hb, hA, hT, invoke, builtin, Builtin.len_, und_run tk hi, hu, h1, conc, goInt]⟩
  · rename_i k e' hu; exact absurd hu (hm k e')
  · cases hc; cases he
omit tk
theorem pu_min (hr : Ops r ev ρ m f e) {c : Call} {ty : TypeId} {io : IOp} (hb : c.callee = .builtin .min) (hc : ccall tt r c = some io) (he : opT inv io f e h = .ok v h') :
    PuN P (do let d ← resolve ev c ty; invoke d.target d.args) m ρ v h h' := by
  simp only [ccall, hb] at hc
  split at hc <;> first | (cases hc; cases he; done) | skip
  all_goals first | (rename_i e1 _; cases e1; done) | (rename_i e1 _ _; cases e1; done) | skip
  rename_i _ x y _ hx
  have hA : c.args = #[x, y] := Array.ext' (by simpa using hx)
  obtain ⟨a, b, ha, hb2, rfl⟩ := bin2_ok hc
  obtain ⟨k, p, ea, e2⟩ := toInt_ok he
  obtain ⟨k', q, eb, e3⟩ := toInt_ok e2
  obtain ⟨rfl, rfl⟩ := or_ok e3
  obtain ⟨h1, _⟩ := hr _ _ ha
  obtain ⟨h2, _⟩ := hr _ _ hb2
  rw [ea] at h1; rw [eb] at h2
  simp only [conc] at h1 h2
  refine ⟨rfl, trivial, fun w => ?_⟩
  have : (Bool.rec p q (ilt q p) : Int) = if q < p then q else p := by rw [ilt_eq]; by_cases hlt : q < p <;> simp [hlt]
  simp [resolve, hb, hA, invoke, builtin, Builtin.min_, Builtin.min2, h1, h2, conc, this]
theorem pu_max (hr : Ops r ev ρ m f e) {c : Call} {ty : TypeId} {io : IOp} (hb : c.callee = .builtin .max) (hc : ccall tt r c = some io) (he : opT inv io f e h = .ok v h') :
    PuN P (do let d ← resolve ev c ty; invoke d.target d.args) m ρ v h h' := by
  simp only [ccall, hb] at hc
  split at hc <;> first | (cases hc; cases he; done) | skip
  all_goals first | (rename_i e1 _; cases e1; done) | (rename_i e1 _ _; cases e1; done) | skip
  rename_i _ x y _ hx
  have hA : c.args = #[x, y] := Array.ext' (by simpa using hx)
  obtain ⟨a, b, ha, hb2, rfl⟩ := bin2_ok hc
  obtain ⟨k, p, ea, e2⟩ := toInt_ok he
  obtain ⟨k', q, eb, e3⟩ := toInt_ok e2
  obtain ⟨rfl, rfl⟩ := or_ok e3
  obtain ⟨h1, _⟩ := hr _ _ ha
  obtain ⟨h2, _⟩ := hr _ _ hb2
  rw [ea] at h1; rw [eb] at h2
  simp only [conc] at h1 h2
  refine ⟨rfl, trivial, fun w => ?_⟩
  have : (Bool.rec p q (ilt p q) : Int) = if p < q then q else p := by rw [ilt_eq]; by_cases hlt : p < q <;> simp [hlt]
  simp [resolve, hb, hA, invoke, builtin, Builtin.max_, Builtin.max2, h1, h2, conc, this]
include tk
/-- **What a pure operation gives, in every world.** -/
theorem pure_ok (hr : Ops r ev ρ m f e) {o : Oper} {io : IOp} (hk : ko tt o = .p) (hc : cio tt r o.op = some io) (he : opT inv io f e h = .ok v h') : PuN P (execOp ev o) m ρ v h h' := by
  unfold ko at hk
  unfold execOp
  cases ho : o.op with
  | call c =>
    simp only [ho] at hk hc ⊢
    have hc : ccall tt r c = some io := hc
    split at hk
    · rename_i hb
      split at hk
      · rename_i t ht
        split at hk
        · rename_i i hi
          split at hk
          · cases hk
          · rename_i hm
            have hc2 := hc
            simp only [ccall, hb, ht] at hc2
            split at hc2 <;> first | (cases hc2; cases he; done) | skip
            all_goals first | (rename_i e1 _; cases e1; done) | (rename_i e1 _ _; cases e1; done) | (rename_i hx _; exact pu_len tk hr hb hx ht hi hm hc he)
        · cases hk
      · cases hk
    · rename_i hb; exact pu_min hr hb hc he
    · rename_i hb; exact pu_max hr hb hc he
    · cases hk
  | convert s d x =>
    simp only [ho] at hk hc ⊢
    refine (pu_conv tk hr (fun i hi e' he' => ?_) hc he).next
    rw [hi] at hk
    simp only [he'] at hk
    cases hk
  | move x => simp only [ho] at hc ⊢; exact pu_mv hr hc he
  | assign x => simp only [ho] at hc ⊢; exact pu_mv hr hc he
  | pick c a b => simp only [ho] at hc ⊢; exact pu_pick hr hc he
  | build t ps => simp only [ho] at hc ⊢; exact (pu_build tk hr hc he).next
  | nilCheck x =>
    have := pu_nilc (P := P) hr ho (by simp only [ho] at hc; exact hc) he
    unfold execOp at this
    simp only [ho] at this ⊢
    exact this
  | binOp op t x y => simp only [ho] at hc ⊢; exact (pu_bin tk hr hc he).next
  | unOp op t x => simp only [ho] at hc ⊢; exact (pu_unary hr hc he).next
  | makeInterface t x => simp only [ho] at hc ⊢; exact (pu_mkif tk hr hc he).next
  | makeFunc fn x c =>
    simp only [ho] at hc ⊢
    cases fn with
    | func g => exact (pu_mkfn hr hc he).next
    | _ => cases hc; cases he
  | fieldAddr t x n => simp only [ho] at hc ⊢; exact (pu_faddr tk hr hc he).next
  | field t x n => simp only [ho] at hc ⊢; exact (pu_field tk hr hc he).next
  | indexAddr t x i => simp only [ho] at hc ⊢; exact (pu_indexAddr tk hr hc he).next
  | index t x i => simp only [ho] at hc ⊢; exact (pu_index tk hr hc he).next
  | extract t i => simp only [ho] at hc ⊢; exact (pu_extract hr hc he).next
  | _ => simp only [ho] at hk; first | (cases hk; done) | skip
end
end Go.Ads
set_option autoImplicit false
set_option linter.unusedSimpArgs false
set_option linter.unusedVariables false
namespace Go.Ads
section
variable {P : Program} {tt : TT} (tk : TTok P tt) {ρ : Rho} {h h' : H} {w : World} {v : V} {f : FR} {e : V} {inv : Inv} {r : Operand → Option Rf} {ev : Operand → Value}
theorem addr_add (b : B) (off j : Nat) : (ρ.addr b off).add j = ρ.addr b (off + j) := by unfold Addr.add Rho.addr; split <;> simp_all [Nat.add_assoc]
theorem G.cell (g : G P tt ρ h w) {b : B} {vs : V} {t : Nat} {gr : Bool} (hb : h.get b = .cells vs t gr) {i : Nat} {x : Value} (hx : (concL ρ vs)[i]? = some x) : w.cell? (ρ.addr b i) = some x := by
  have := g.real b
  rw [hb] at this
  obtain ⟨C, h1, _, _, _, h5⟩ := this
  simp [World.cell?, Rho.addr, h1, h5 i x hx]
theorem getElem?_of_drop {l : List Value} {n : Nat} {x : Value} {t : List Value} (h : l.drop n = x :: t) : l[n]? = some x := by
  have := congrArg List.head? h
  simpa [List.head?_drop] using this
/-- a row of cells, read -/
theorem G.cells (g : G P tt ρ h w) {b : B} {vs : V} {t : Nat} {gr : Bool} (hb : h.get b = .cells vs t gr) {off n : Nat} {l : V} (hl : takeV n (dropV off vs) = some l) :
    (loadCells (ρ.addr b off) n).run P w = .ok (concL ρ l).toArray w ∧ (concL ρ l).length = n ∧ Bd h.next.toN l ∧ One l := by
  obtain ⟨h1, h2⟩ := takeV_ok (ρ := ρ) _ hl
  have hlen : (concL ρ l).length = n := by rw [h1, List.length_take]; omega
  have := run_loadCells_list (P := P) w (ρ.addr b off) (concL ρ l) (fun j x hx => by
    rw [addr_add]
    refine g.cell hb ?_
    rw [h1, concL_dropV] at hx
    rw [List.getElem?_take] at hx
    split at hx
    · rwa [List.getElem?_drop] at hx
    · cases hx)
  rw [hlen] at this
  have bd := g.bd b
  rw [hb] at bd
  exact ⟨this, hlen, Bd.takeV _ hl (Bd.dropV _ bd.1), One.takeV _ hl (One.dropV _ bd.2)⟩
def Rd (P : Program) (s : Sem Value) (m : Nat) (ρ : Rho) (v : V) (h h' : H) (w : World) : Prop := h' = h ∧ Bd m v ∧ s.run P w = .ok (conc ρ v) w
def RdN (P : Program) (s : Sem Next) (m : Nat) (ρ : Rho) (v : V) (h h' : H) (w : World) : Prop := h' = h ∧ Bd m v ∧ s.run P w = .ok (.value (conc ρ v)) w
theorem Rd.next {m : Nat} {s : Sem Value} (p : Rd P s m ρ v h h' w) : RdN P (do pure (.value (← s))) m ρ v h h' w :=
  ⟨p.1, p.2.1, by simp only [Sem.run_bind, p.2.2, Result.andThen_ok, Sem.run_pure]⟩
variable (g : G P tt ρ h w) (hr : Ops r ev ρ h.next.toN f e)
include g hr
include tk
theorem rd_load {t : TypeId} {x : Operand} {io : IOp} (hc : cio tt r (.load t x) = some io) (he : opT inv io f e h = .ok v h') : Rd P (Instr.loadAt t (ev x)) h.next.toN ρ v h h' w := by
  simp only [cio] at hc
  split at hc
  · rename_i i hi
    split at hc
    · rename_i hag
      obtain ⟨a, ha, rfl⟩ := un1_ok hc
      obtain ⟨b, off, ea, e2⟩ := toPtr_ok he
      obtain ⟨vs, t', gr, hb, e3⟩ := onCells_ok e2
      obtain ⟨l, hl, e4⟩ := orO_ok e3
      obtain ⟨rfl, rfl⟩ := or_ok e4
      obtain ⟨h1, _⟩ := hr _ _ ha
      rw [ea] at h1
      simp only [conc] at h1
      obtain ⟨k1, _, k3, k4⟩ := g.cells hb hl
      exact ⟨rfl, ⟨k3, k4⟩, by simp [Instr.loadAt, h1, Instr.sureAddr, loadVar, isAgg_run tk hi, hag, sizeOf_run tk hi, k1, conc]⟩
    · rename_i hag
      obtain ⟨a, ha, rfl⟩ := un1_ok hc
      obtain ⟨b, off, ea, e2⟩ := toPtr_ok he
      obtain ⟨vs, t', gr, hb, e3⟩ := onCells_ok e2
      obtain ⟨y, l, hl, e4⟩ := onCn_ok e3
      obtain ⟨rfl, rfl⟩ := or_ok e4
      obtain ⟨h1, _⟩ := hr _ _ ha
      rw [ea] at h1
      simp only [conc] at h1
      have hd : (concL ρ vs).drop off = conc ρ y :: concL ρ l := by rw [← concL_dropV, hl, concL_cn]
      have hcell := g.cell hb (getElem?_of_drop hd)
      have bd := g.bd b
      rw [hb] at bd
      have hb' := Bd.dropV (n := h.next.toN) off bd.1
      rw [hl] at hb'
      exact ⟨rfl, hb'.1, by simp [Instr.loadAt, h1, Instr.sureAddr, loadVar, isAgg_run tk hi, hag, hcell]⟩
  · cases hc
omit tk g hr in
theorem G.mapAt (g : G P tt ρ h w) {b : B} {es : ME} {c : Nat} (hb : h.get b = .map es c) : w.heap[ρ.blk b]? = some (.map (concM ρ es).toArray c) ∧ BdM h.next.toN es := by
  have h1 := g.real b
  have h2 := g.bd b
  rw [hb] at h1 h2
  exact ⟨h1, h2⟩
omit g hr tk in
theorem lenM_eq (es : ME) : lenM es = (concM ρ es).length := by
  induction es with
  | nl => rfl
  | cn k x b t ih => show lenM t + 1 = _; simp [concM, ih]
theorem rd_lenm {c : Call} {ty : TypeId} {x : Operand} {t : TypeId} {i : TI} {k e' : TypeId} {io : IOp} (hb : c.callee = .builtin .len) (hx : c.args.toList = [x]) (ht : c.argTypes.toList = [t]) (hi : tt t = some i)
    (hm : i.und = .map k e') (hc : ccall tt r c = some io) (he : opT inv io f e h = .ok v h') : RdN P (do let d ← resolve ev c ty; invoke d.target d.args) h.next.toN ρ v h h' w := by
  have hA : c.args = #[x] := Array.ext' (by simpa using hx)
  have hT : c.argTypes = #[t] := Array.ext' (by simpa using ht)
  simp only [ccall, hb, hx, ht, hi, hm] at hc
  obtain ⟨a, ha, rfl⟩ := un1_ok hc
  obtain ⟨h1, _⟩ := hr _ _ ha
  rcases toMap_ok he with ⟨u, ea, e2⟩ | ⟨b, u, ea, e2⟩
  · obtain ⟨rfl, rfl⟩ := or_ok e2
    rw [ea] at h1
    simp only [conc] at h1
    exact ⟨rfl, trivial, by simp [resolve, hb, hA, hT, invoke, builtin, Builtin.len_, und_run tk hi, hm, h1, conc, goInt]⟩
  · obtain ⟨es, cl, hmp, e3⟩ := onMap_ok e2
    obtain ⟨rfl, rfl⟩ := or_ok e3
    rw [ea] at h1
    simp only [conc] at h1
    have := (g.mapAt hmp).1
    exact ⟨rfl, trivial, by simp [resolve, hb, hA, hT, invoke, builtin, Builtin.len_, und_run tk hi, hm, h1, conc, goInt, getObj, Sem.run, this, lenM_eq (ρ := ρ)]⟩
omit g hr tk in
theorem bytesV_ok : ∀ {v : V} {s : List Nat}, bytesV v = some s → concL ρ v = s.map (fun n : Nat => Value.int .u8 n) := by
  intro v
  induction v with
  | nl => intro s h; cases h; simp
  | cn x t _ ih =>
    intro s h
    cases x with
    | int k n =>
      change (Bool.rec none (Int.rec (fun n => Option.rec none (fun r => some (n :: r)) (bytesV t)) (fun _ => none) n) (keq k .u8) : Option (List Nat)) = some s at h
      cases hk : keq k .u8 with
      | false => rw [hk] at h; cases h
      | true =>
        rw [hk] at h
        cases keq_eq hk
        cases n with
        | negSucc n => cases h
        | ofNat n =>
          cases hq : bytesV t with
          | none => rw [hq] at h; cases h
          | some q => rw [hq] at h; cases h; simp [ih hq, conc]
    | _ => cases h
  | _ => intro s h; cases h
theorem rd_cvbs {s d e' : TypeId} {i j q : TI} {x : Operand} {io : IOp} (hi : tt s = some i) (hj : tt d = some j) (hs : i.und = .slice e') (hd : j.und = .string) (hq : tt e' = some q) (hu : q.und = .int .u8)
    (hc : un1 r .cvbs x = some io) (he : opT inv io f e h = .ok v h') : Rd P (convert s d (ev x)) h.next.toN ρ v h h' w := by
  obtain ⟨a, ha, rfl⟩ := un1_ok hc
  obtain ⟨h1, _⟩ := hr _ _ ha
  have us : P.underlying s = some (.slice e') := by rw [(tk s i hi).1, hs]
  have ue : P.underlying e' = some (.int .u8) := by rw [(tk e' q hq).1, hu]
  have ud : P.underlying d = some .string := by rw [(tk d j hj).1, hd]
  rcases toSl_ok he with ⟨u, ea, e2⟩ | ⟨b, off, n, c, ea, e2⟩
  · obtain ⟨rfl, rfl⟩ := or_ok e2
    rw [ea] at h1
    simp only [conc] at h1
    exact ⟨rfl, trivial, by rw [h1, run_convert_bytes_nil w s e' us ue 0 0 d ud]; simp [conc]; rfl⟩
  · obtain ⟨vs, t', gr, hb, e3⟩ := onCells_ok e2
    obtain ⟨l, hl, e4⟩ := orO_ok e3
    obtain ⟨y, hy, e5⟩ := orec_ok e4
    obtain ⟨rfl, rfl⟩ := or_ok e5
    rw [ea] at h1
    simp only [conc] at h1
    obtain ⟨k1, k2, _, _⟩ := g.cells hb hl
    have hby := bytesV_ok (ρ := ρ) hy
    have hlen : y.length = n := by rw [← k2, hby]; simp
    obtain ⟨t1, t2⟩ := takeV_ok (ρ := ρ) _ hl
    refine ⟨rfl, trivial, ?_⟩
    obtain ⟨cap, hcap⟩ : ∃ cap, ev x = .slice (some (ρ.addr b off)) n cap := ⟨_, h1⟩
    rw [hcap]
    have := run_convert_bytes_arg (P := P) w s e' us ue (ρ.blk b) (ρ.base b + off) n cap (y.map fun n : Nat => (n : Int)) (by simpa using hlen) (fun i hlt => by
      have hx : (concL ρ l)[i]? = some (.int .u8 ((y.map fun n : Nat => (n : Int)).getD i 0)) := by
        rw [hby]
        have : i < y.length := by omega
        simp [List.getElem?_eq_getElem this, List.getD]
      rw [t1, List.getElem?_take, if_pos hlt, concL_dropV, List.getElem?_drop] at hx
      have := g.cell hb hx
      simpa [Rho.addr, Nat.add_assoc] using this) d ud
    refine this.trans ?_
    simp [strOfNums, conc]
/-! ### Maps -/
omit g hr tk in
/-- what a look for a key finds -/
theorem find_ok {kd : TypeDesc} {sh : Sh} (hsh : (∃ k, kd = .int k ∧ sh = .i) ∨ (kd = .string ∧ sh = .s) ∨ (kd = .bool ∧ sh = .b)) (k : V) : ∀ (es : ME) (i : Nat),
    (findM sh k es = .no → Instr.findNow kd (conc ρ k) (concM ρ es) i = some none) ∧
    (∀ x b, findM sh k es = .yes x b → ∃ j k', (concM ρ es)[j]? = some { key := conc ρ k', val := conc ρ x, born := b } ∧ eqv sh k k' = some true ∧ Instr.findNow kd (conc ρ k) (concM ρ es) i = some (some (i + j, conc ρ x))) := by
  have same : ∀ a b q, eqv sh a b = some q → Instr.sameNow kd (conc ρ a) (conc ρ b) = some q := by
    intro a b q hq
    rcases hsh with ⟨kk, rfl, rfl⟩ | ⟨rfl, rfl⟩ | ⟨rfl, rfl⟩
    · obtain ⟨k, x, y, rfl, rfl, rfl⟩ := eqI_ok hq; simp [conc, Instr.sameNow]
    · obtain ⟨x, y, rfl, rfl, rfl⟩ := eqS_ok hq; simp only [conc, Instr.sameNow, strEq_beq]
    · obtain ⟨x, y, rfl, rfl, rfl⟩ := eqB_ok hq; simp [conc, Instr.sameNow]
  intro es
  induction es with
  | nl => intro i; exact ⟨fun _ => (by simp [concM, Instr.findNow]), fun x b h => (by cases h)⟩
  | cn k' x b t ih =>
    intro i
    change (((Option.rec FM.bad (fun q => Bool.rec (findM sh k t) (.yes x b) q) (eqv sh k k') : FM) = .no) → _) ∧ (∀ y c, (Option.rec FM.bad (fun q => Bool.rec (findM sh k t) (.yes x b) q) (eqv sh k k') : FM) = .yes y c → _)
    cases hq : eqv sh k k' with
    | none => exact ⟨fun h => (by cases h), fun _ _ h => (by cases h)⟩
    | some q =>
      have hs := same _ _ _ hq
      cases q with
      | true => exact ⟨fun h => (by cases h), fun y c h => by cases h; exact ⟨0, k', by simp [concM], hq, by simp [concM, Instr.findNow, hs]⟩⟩
      | false =>
        obtain ⟨h1, h2⟩ := ih (i + 1)
        refine ⟨fun h => by simp only [concM, Instr.findNow, hs]; exact h1 h, fun y c h => ?_⟩
        obtain ⟨j, k2, a1, a2, a3⟩ := h2 y c h
        exact ⟨j + 1, k2, by simpa [concM] using a1, a2, by simp only [concM, Instr.findNow, hs, a3]; congr 3; omega⟩
omit g hr in
theorem keySh_ok {t : TypeId} {sh : Sh} (hs : keySh tt t = some sh) : ∃ kt e' kd, P.underlying t = some (.map kt e') ∧ P.underlying kt = some kd ∧ ((∃ k, kd = .int k ∧ sh = .i) ∨ (kd = .string ∧ sh = .s) ∨ (kd = .bool ∧ sh = .b)) := by
  unfold keySh at hs
  split at hs
  · rename_i i hi
    split at hs
    · rename_i kt e' hm
      have key : ∀ s0, shOf tt kt = some s0 → s0 = sh → (s0 = .i ∨ s0 = .s ∨ s0 = .b) → ∃ kd, P.underlying kt = some kd ∧ ((∃ k, kd = .int k ∧ sh = .i) ∨ (kd = .string ∧ sh = .s) ∨ (kd = .bool ∧ sh = .b)) := by
        rintro s0 h rfl hor
        unfold shOf at h
        split at h
        · rename_i j hj
          have hu := (tk kt j hj).1
          split at h
          · rename_i k hk; cases h; exact ⟨_, hu, .inl ⟨k, hk, rfl⟩⟩
          · rename_i hk; cases h; exact ⟨_, hu, .inr (.inr ⟨hk, rfl⟩)⟩
          · rename_i hk; cases h; exact ⟨_, hu, .inr (.inl ⟨hk, rfl⟩)⟩
          · split at h <;> cases h; rcases hor with h | h | h <;> cases h
          · split at h <;> cases h; rcases hor with h | h | h <;> cases h
          · cases h; rcases hor with h | h | h <;> cases h
          · cases h; rcases hor with h | h | h <;> cases h
          · cases h
        · cases h
      split at hs
      · rename_i hq; cases hs; obtain ⟨kd, a, b⟩ := key _ hq rfl (.inl rfl); exact ⟨kt, e', kd, by rw [(tk t i hi).1, hm], a, b⟩
      · rename_i hq; cases hs; obtain ⟨kd, a, b⟩ := key _ hq rfl (.inr (.inl rfl)); exact ⟨kt, e', kd, by rw [(tk t i hi).1, hm], a, b⟩
      · rename_i hq; cases hs; obtain ⟨kd, a, b⟩ := key _ hq rfl (.inr (.inr rfl)); exact ⟨kt, e', kd, by rw [(tk t i hi).1, hm], a, b⟩
      · cases hs
    · cases hs
  · cases hs
omit g hr tk in
theorem checkKey_run {kd : TypeDesc} {kt : TypeId} {sh : Sh} (hu : P.underlying kt = some kd) (hsh : (∃ k, kd = .int k ∧ sh = .i) ∨ (kd = .string ∧ sh = .s) ∨ (kd = .bool ∧ sh = .b)) (em : Bool) (x : Value) (w : World) :
    (Instr.checkKey em 10000 kt x).run P w = .ok () w := by
  obtain ⟨D, hd⟩ : ∃ D, 10000 = D + 1 := ⟨9999, rfl⟩
  rw [hd]
  rcases hsh with ⟨kk, rfl, _⟩ | ⟨rfl, _⟩ | ⟨rfl, _⟩ <;> simp [Instr.checkKey, run_underlying hu]
theorem rd_look {t : TypeId} {mp k : Operand} {ok : Bool} {io : IOp} (hc : cio tt r (.lookup t mp k ok) = some io) (he : opT inv io f e h = .ok v h') : Rd P (Instr.lookup t (ev mp) (ev k) ok) h.next.toN ρ v h h' w := by
  simp only [cio] at hc
  split at hc
  · rename_i sh z hsh hz
    obtain ⟨kt, e', kd, hu, hk, hkd⟩ := keySh_ok tk hsh
    obtain ⟨a, b, ha, hb, rfl⟩ := bin2_ok hc
    obtain ⟨h1, _⟩ := hr _ _ ha
    obtain ⟨h2, _⟩ := hr _ _ hb
    have hzv : (∃ zv : Value, ∀ w, (zeroValue e').run P w = .ok (conc ρ z) w) ∧ ∀ n, Bd n z := by
      unfold mapE at hz
      split at hz
      · rename_i i hi
        split at hz
        · rename_i k2 e2 hm
          rw [(tk t i hi).1, hm] at hu
          cases hu
          unfold zeroV at hz
          split at hz
          · rename_i j hj
            split at hz
            · rename_i zv hzv
              obtain ⟨g1, g2⟩ := vOf_ok (ρ := ρ) hz
              obtain ⟨_, ⟨q, q1, q2, _⟩, _⟩ := tk e' j hj
              exact ⟨⟨zv, fun w => by simp [zeroValue, typeInfo, q1, q2, hzv, g1]⟩, g2⟩
            · cases hz
          · cases hz
        · cases hz
      · cases hz
    obtain ⟨⟨zv, hzr⟩, hzb⟩ := hzv
    have fin : ∀ (x : V) (is : Bool), Bd h.next.toN x → lkF ok x is h = .ok v h' → h' = h ∧ Bd h.next.toN v ∧ conc ρ v = if ok then .tuple #[conc ρ x, .bool is] else conc ρ x := by
      intro x is hx hl
      obtain ⟨h3, h4⟩ := or_ok hl
      subst h3 h4
      cases ok with
      | true => exact ⟨rfl, ⟨hx, trivial, trivial⟩, by simp [two, conc]⟩
      | false => exact ⟨rfl, hx, rfl⟩
    rcases toMap_ok he with ⟨u, ea, e2⟩ | ⟨mb, u, ea, e2⟩
    · obtain ⟨rfl, hb2, hv⟩ := fin z false (hzb _) e2
      rw [ea] at h1
      simp only [conc] at h1
      refine ⟨rfl, hb2, ?_⟩
      have hnow : Instr.findNow kd (ev k) [] 0 = some none := by simp [Instr.findNow]
      simp only [Instr.lookup, Sem.run_bind, run_underlying hu, Result.andThen_ok, h1, Sem.run_pure, checkKey_run hk hkd, Instr.findKey, run_underlying hk, hnow, hzr]
      rw [hv]
    · obtain ⟨es, cl, hmp, e3⟩ := onMap_ok e2
      obtain ⟨hw, hbm⟩ := g.mapAt hmp
      rw [ea] at h1
      simp only [conc] at h1
      have hfind := find_ok (ρ := ρ) hkd (b.ev f e) es 0
      rw [← h2] at hfind
      cases hfm : findM sh (b.ev f e) es with
      | bad => rw [hfm] at e3; cases e3
      | no =>
        rw [hfm] at e3
        obtain ⟨rfl, hb2, hv⟩ := fin z false (hzb _) e3
        refine ⟨rfl, hb2, ?_⟩
        simp only [Instr.lookup, Sem.run_bind, run_underlying hu, Result.andThen_ok, h1, getObj, Sem.run, hw, checkKey_run hk hkd, Instr.findKey, run_underlying hk, hfind.1 hfm, hzr, Sem.run_pure]
        rw [hv]
      | yes x bn =>
        rw [hfm] at e3
        have hbx : Bd h.next.toN x := by
          have : ∀ es : ME, BdM h.next.toN es → findM sh (b.ev f e) es = .yes x bn → Bd h.next.toN x := by
            intro es
            induction es with
            | nl => intro _ h; cases h
            | cn k' y c t ih =>
              intro hb hf
              change (Option.rec FM.bad (fun q => Bool.rec (findM sh (b.ev f e) t) (.yes y c) q) (eqv sh (b.ev f e) k') : FM) = .yes x bn at hf
              cases hq : eqv sh (b.ev f e) k' with
              | none => rw [hq] at hf; cases hf
              | some q =>
                rw [hq] at hf
                cases q with
                | true => cases hf; exact hb.2.1
                | false => exact ih hb.2.2 hf
          exact this es hbm hfm
        obtain ⟨rfl, hb2, hv⟩ := fin x true hbx e3
        refine ⟨rfl, hb2, ?_⟩
        obtain ⟨j, k', _, _, hnow⟩ := hfind.2 x bn hfm
        simp only [Instr.lookup, Sem.run_bind, run_underlying hu, Result.andThen_ok, h1, getObj, Sem.run, hw, checkKey_run hk hkd, Instr.findKey, run_underlying hk, hnow, Sem.run_pure]
        rw [hv]
  · cases hc; cases he
end
end Go.Ads
set_option autoImplicit false
set_option linter.unusedSimpArgs false
set_option linter.unusedVariables false
namespace Go.Ads
section
variable {P : Program} {tt : TT} (tk : TTok P tt) {ρ : Rho} {h h' : H} {w : World} {v : V} {f : FR} {e : V} {inv : Inv} {r : Operand → Option Rf} {ev : Operand → Value}
/-- **What a reading operation gives.** -/
theorem read_ok (tk : TTok P tt) (g : G P tt ρ h w) (hr : Ops r ev ρ h.next.toN f e) {o : Oper} {io : IOp} (hk : ko tt o = .r) (hc : cio tt r o.op = some io) (he : opT inv io f e h = .ok v h') :
    RdN P (execOp ev o) h.next.toN ρ v h h' w := by
  unfold ko at hk
  unfold execOp
  cases ho : o.op with
  | call c =>
    simp only [ho] at hk hc ⊢
    have hc : ccall tt r c = some io := hc
    split at hk
    · rename_i hb
      split at hk
      · rename_i t ht
        split at hk
        · rename_i i hi
          split at hk
          · rename_i k e' hm
            have hc2 := hc
            simp only [ccall, hb, ht] at hc2
            split at hc2 <;> first | (cases hc2; cases he; done) | skip
            all_goals first | (rename_i e1 _; cases e1; done) | (rename_i e1 _ _; cases e1; done) | (rename_i hx _; exact rd_lenm tk g hr hb hx ht hi hm hc he)
          · cases hk
        · cases hk
      · cases hk
    · cases hk
    · cases hk
    · cases hk
  | convert s d x =>
    simp only [ho] at hk hc ⊢
    split at hk
    · rename_i i hi
      split at hk
      · rename_i e' hs
        simp only [cio, cconv] at hc
        split at hc
        · rename_i i' j hi' hj
          rw [hi] at hi'
          cases hi'
          split at hc
          · rename_i e1 _; rw [hs] at e1; cases e1
          · rename_i e1 _; rw [hs] at e1; cases e1
          · rename_i e1 _; rw [hs] at e1; cases e1
          · rename_i e2 h1 h2
            rw [hs] at h1
            cases h1
            split at hc
            · rename_i q hq
              split at hc
              · rename_i hu; exact (rd_cvbs tk g hr hi hj hs h2 hq hu hc he).next
              · cases hc; cases he
            · cases hc; cases he
          · cases hc; cases he
        · cases hc
      · cases hk
    · cases hk
  | load t x => simp only [ho] at hc ⊢; exact (rd_load tk g hr hc he).next
  | lookup t x k ok => simp only [ho] at hc ⊢; exact (rd_look tk g hr hc he).next
  | _ => simp only [ho] at hk; first | (cases hk; done) | skip

/-! ### Operations that make new objects -/
/-- what such an operation does: objects are added; the rest of memory is not looked at -/
def Nw (P : Program) (tt : TT) (s : Sem Value) (ρ : Rho) (v : V) (h h' : H) (w : World) : Prop :=
  ∃ ρ' w', s.run P w = .ok (conc ρ' v) w' ∧ Step P tt ρ h w ρ' h' w' ∧ Bd h'.next.toN v
theorem Rho.upd_agree (ρ : Rho) (n : B) (blk base tot es : Nat) (lv : Bool) : ρ.Agree n.toN (ρ.upd n blk base tot es lv) := (ρ.upd_keep n blk base tot es lv).lo
theorem new_eq {k : B → H → OR} {o : O} (he : H.new k o h = .ok v h') : k h.next (h.add o) = .ok v h' := by rw [H.new_eq] at he; exact he
/-- new cells on a new block -/
theorem Step.cells (g : G P tt ρ h w) {vs : V} {t : TypeId} {i : TypeInfo} {C : Array Value} {gr : Bool} (hi : P.info? t = some i) (hb : Bd h.next.toN vs) (ho : One vs)
    (hC : ∀ (k : Nat) (x : Value), (concL ρ vs)[k]? = some x → C[k]? = some x) (hg : gr = false → (concL ρ vs).length = C.size) :
    Step P tt ρ h w (ρ.upd h.next w.heap.size 0 C.size i.size false) (h.add (.cells vs t gr)) (w.alloc (.cells C t)) := by
  have ag := ρ.upd_agree h.next w.heap.size 0 C.size i.size false
  have heq := (conc_agree ag vs hb).2
  refine Step.add g (fun r hr => ?_) (by rw [World.size_alloc]; omega) rfl rfl rfl ⟨hb, ho⟩ ?_ (fun _ => Nat.le_refl _)
  · show (w.heap.push _)[r]? = _
    rw [Array.getElem?_push, if_neg (by omega)]
  · refine ⟨C, ?_, ?_, fun q => ⟨?_, ?_⟩, ⟨i, hi, ?_⟩, fun k x hx => ?_⟩
    · show (w.heap.push _)[if h.next = h.next then w.heap.size else _]? = _
      simp
    · simp [Rho.upd]
    · rw [← heq, hg q]; simp [Rho.upd]
    · simp [Rho.upd]
    · simp [Rho.upd]
    · rw [← heq] at hx
      simp only [Rho.upd, if_true, Nat.zero_add]
      exact hC k x hx
theorem upd_ptr (ρ : Rho) (n : B) (blk tot es : Nat) : conc (ρ.upd n blk 0 tot es false) (.ptr n 0) = .pointer (some ⟨blk, 0, none⟩) := by simp [conc, Rho.addr, Rho.upd]
theorem info_of (tk : TTok P tt) {t : TypeId} {i : TI} (hi : tt t = some i) : ∃ q, P.info? t = some q ∧ q.zero = i.zero ∧ q.size = i.size ∧ q.bytes = i.bytes := (tk t i hi).2.1
theorem nw_alloc (tk : TTok P tt) (g : G P tt ρ h w) {t : TypeId} {io : IOp} (hc : cio tt r (.alloc t) = some io) (he : opT inv io f e h = .ok v h') : Nw P tt (Instr.alloc t true (.tuple #[])) ρ v h h' w := by
  simp only [cio] at hc
  split at hc
  · rename_i z hz
    cases hc
    obtain ⟨rfl, rfl⟩ := or_ok (new_eq (show H.new okP (.cells z t false) h = .ok v h' from he))
    obtain ⟨i, zv, hi, hzv, hcz, hbz, ⟨hoz, _⟩, hrz⟩ := zeroC_ok (ρ := ρ) tk hz
    obtain ⟨q, q1, _⟩ := info_of tk hi
    refine ⟨_, _, ?_, Step.cells g (t := t) (C := zv.cells) q1 (hbz _) hoz (fun k x hx => by rw [hcz]; simpa using hx) (fun _ => by rw [hcz]; simp), ?_⟩
    · rw [upd_ptr]
      simp [Instr.alloc, hrz, newVar, newRow]
    · show h.next.toN < _
      rw [H.next_add]; omega
  · cases hc
theorem nw_box (tk : TTok P tt) (g : G P tt ρ h w) (hr : Ops r ev ρ h.next.toN f e) {t : TypeId} {x : Operand} {i : TI} (hi : tt t = some i) {io : IOp} (hc : un1 r (.box t) x = some io) (he : opT inv io f e h = .ok v h') :
    Nw P tt (Instr.box t (ev x)) ρ v h h' w := by
  obtain ⟨a, ha, rfl⟩ := un1_ok hc
  obtain ⟨ho, e2⟩ := iff_ok (show iff (oneV (a.ev f e)) (H.new okP (.cells (a.ev f e).cells t false) h) = .ok v h' from he)
  obtain ⟨rfl, rfl⟩ := or_ok (new_eq e2)
  obtain ⟨h1, h2⟩ := hr _ _ ha
  obtain ⟨q, q1, _⟩ := info_of tk hi
  have hcells : (ev x).cells = (concL ρ (a.ev f e).cells).toArray := by rw [h1, cells_eq]
  refine ⟨_, _, ?_, Step.cells g (t := t) (C := (ev x).cells) q1 h2.cells (One.cells ho h2) (fun k x hx => by rw [hcells]; simpa using hx) (fun _ => by rw [hcells]; simp), ?_⟩
  · rw [upd_ptr]
    simp [Instr.box, newVar, newRow]
  · show h.next.toN < _
    rw [H.next_add]; omega
theorem nw_map (g : G P tt ρ h w) {t : TypeId} {io : IOp} (hc : some IOp.mkmap = some io) (he : opT inv io f e h = .ok v h') : Nw P tt (Instr.makeMap t none) ρ v h h' w := by
  cases hc
  obtain ⟨rfl, rfl⟩ := or_ok (new_eq (show H.new (fun b h => .ok (.x (.map b) .nl) h) (.map .nl 0) h = .ok v h' from he))
  refine ⟨ρ.upd h.next w.heap.size 0 0 0 false, w.alloc (.map #[] 0), ?_, Step.add g (fun r hr => ?_) (by rw [World.size_alloc]; omega) rfl rfl rfl trivial ?_ (fun _ => Nat.le_refl _), ?_⟩
  · simp [Instr.makeMap, conc, Rho.upd]
  · show (w.heap.push _)[r]? = _
    rw [Array.getElem?_push, if_neg (by omega)]
  · show (w.heap.push _)[if h.next = h.next then w.heap.size else _]? = _
    simp [concM]
  · refine ⟨?_, trivial⟩
    rw [H.next_add]; omega
end
end Go.Ads
set_option autoImplicit false
set_option linter.unusedSimpArgs false
set_option linter.unusedVariables false
namespace Go.Ads
section
variable {P : Program} {tt : TT} {ρ : Rho} {h h' : H} {w : World} {v : V} {f : FR} {e : V} {inv : Inv} {r : Operand → Option Rf} {ev : Operand → Value}
theorem rep_get (zs : List Value) : ∀ (n i : Nat), i < n * zs.length → (List.replicate n zs).flatten[i]? = zs[i % zs.length]? := by
  intro n
  induction n with
  | zero => intro i h; simp at h
  | succ n ih =>
    intro i h
    rw [Nat.succ_mul] at h
    rw [List.replicate_succ, List.flatten_cons]
    rcases Nat.lt_or_ge i zs.length with q | q
    · rw [List.getElem?_append_left q, Nat.mod_eq_of_lt q]
    · rw [List.getElem?_append_right q, ih (i - zs.length) (by omega), Nat.mod_eq_sub_mod q]
theorem rep_eq (zs : List Value) (n : Nat) : (Array.range (n * zs.length)).map (fun i => zs.toArray[i % zs.toArray.size]!) = (List.replicate n zs).flatten.toArray := by
  apply Array.ext'
  apply List.ext_getElem?
  intro i
  by_cases hi : i < n * zs.length
  · rw [rep_get zs n i hi]
    have hp : 0 < zs.length := by rcases Nat.eq_zero_or_pos zs.length with q | q; rw [q] at hi; simp at hi; exact q
    have hm := Nat.mod_lt i hp
    simp [hi, hm]
  · have : (List.replicate n zs).flatten.length = n * zs.length := by simp
    rw [List.getElem?_eq_none (by simp; omega), List.getElem?_eq_none (by simp; omega)]
theorem rep_len (zs : List Value) (n : Nat) : (List.replicate n zs).flatten.length = n * zs.length := by simp
theorem upd_sl (ρ : Rho) (n : B) (blk tot es len : Nat) (c : Cp) : conc (ρ.upd n blk 0 tot es false) (.sl n 0 len c) = .slice (some ⟨blk, 0, none⟩) len (capOf (ρ.upd n blk 0 tot es false) n 0 c) := by simp [conc, Rho.addr, Rho.upd]
theorem nw_bslice (tk : TTok P tt) (g : G P tt ρ h w) (hr : Ops r ev ρ h.next.toN f e) {t : TypeId} {n : Nat} {ps : Array (Nat × Operand)} {io : IOp} (hc : cio tt r (.buildSlice t n ps) = some io) (he : opT inv io f e h = .ok v h') :
    Nw P tt (Instr.buildSlice t n (ps.map fun (i, x) => (i, ev x))) ρ v h h' w := by
  simp only [cio] at hc
  have hps : (ps.map fun (i, x) => (i, ev x)).toList = ps.toList.map fun p => (p.1, ev p.2) := by simp
  split at hc
  · rename_i e' j hE
    obtain ⟨hu, hj⟩ := elemS_ok tk hE
    split at hc
    · rename_i z pt hz hpt
      split at hc
      · rename_i hle
        cases hc
        obtain ⟨l, hl, e2⟩ := orO_ok he
        obtain ⟨rfl, rfl⟩ := or_ok (new_eq e2)
        obtain ⟨i, zv, hi, hzv, hcz, hbz, ⟨hoz, hlz⟩, hrz⟩ := zeroC_ok (ρ := ρ) tk hz
        rw [hj] at hi
        cases hi
        obtain ⟨q, q1, _, q3, _⟩ := info_of tk hj
        have hfill := fill_lay (ρ := ρ) (pl := fun i => some (i * j.size, j.size)) hr (fun i p hp => hp) ps.toList pt (repV z n) l hpt hl (Bd.repV (hbz _) n) (One.repV hoz n)
        have hrep : (Array.range (n * j.size)).map (fun i => (concL ρ z).toArray[i % (concL ρ z).toArray.size]!) = (concL ρ (repV z n)).toArray := by
          rw [repV_eq, ← hlz, rep_eq]
        have hle' : ¬ n * j.size > 2 ^ 24 := by have := Nat.le_of_ble_eq_true hle; omega
        refine ⟨_, _, ?_, Step.cells g (t := e') (C := (concL ρ l).toArray) q1 hfill.2.1 hfill.2.2 (fun k x hx => by simpa using hx) (fun _ => by simp), ?_⟩
        · rw [upd_sl]
          by_cases hz0 : n * j.size = 0
          · have h0 : (concL ρ (repV z n)).toArray = #[] := by
              have : (concL ρ (repV z n)) = [] := by
                apply List.eq_nil_of_length_eq_zero
                rw [repV_eq, rep_len, hlz, hz0]
              rw [this]
            have hf0 := hfill.1
            rw [h0] at hf0
            simp only [Instr.buildSlice, Sem.run_bind, run_underlying hu, Result.andThen_ok, sizeOf_run tk hj, hz0]
            simp [hps, hf0, newRow, capOf, Array.range_zero']
          · simp only [Instr.buildSlice, Sem.run_bind, run_underlying hu, Result.andThen_ok, sizeOf_run tk hj, hle', hz0, if_false, hrz, Sem.run_pure, hcz, hrep, hps, hfill.1, newRow, run_newObj_alloc, capOf]
        · show h.next.toN < _
          rw [H.next_add]; omega
      · cases hc
    · cases hc
  · cases hc
theorem nw_mksl (tk : TTok P tt) (g : G P tt ρ h w) (hr : Ops r ev ρ h.next.toN f e) {t : TypeId} {a b : Operand} {io : IOp} (hc : cio tt r (.makeSlice t a b) = some io) (he : opT inv io f e h = .ok v h') :
    Nw P tt (Instr.makeSlice t (ev a) (ev b)) ρ v h h' w := by
  simp only [cio] at hc
  split at hc
  · rename_i e' j hE
    obtain ⟨hu, hj⟩ := elemS_ok tk hE
    split at hc
    · rename_i z hz hb1
      obtain ⟨x, y, hx, hy, rfl⟩ := bin2_ok hc
      obtain ⟨k1, l, ex, e2⟩ := toNat_ok he
      obtain ⟨k2, c, ey, e3⟩ := toNat_ok e2
      obtain ⟨hlc, e4⟩ := iff_ok e3
      obtain ⟨hby, e5⟩ := iff_ok e4
      obtain ⟨rfl, rfl⟩ := or_ok (new_eq e5)
      obtain ⟨i, zv, hi, hzv, hcz, hbz, ⟨hoz, hlz⟩, hrz⟩ := zeroC_ok (ρ := ρ) tk hz
      rw [hj] at hi
      cases hi
      obtain ⟨q, q1, q2, q3, q4⟩ := info_of tk hj
      obtain ⟨h1, _⟩ := hr _ _ hx
      obtain ⟨h2, _⟩ := hr _ _ hy
      rw [ex] at h1; rw [ey] at h2
      simp only [conc] at h1 h2
      have hlc := Nat.le_of_ble_eq_true hlc
      have hby := Nat.le_of_ble_eq_true hby
      have hb1 := Nat.le_of_ble_eq_true hb1
      have hcc : c ≤ c * j.bytes := Nat.le_mul_of_pos_right c hb1
      have hcells : madeCells zv.cells (c * q.size) = (concL ρ (repV z c)).toArray := by
        rw [repV_eq, q3, ← hlz, ← rep_eq, hcz]; rfl
      have hby' : ((c * j.bytes : Nat) : Int) ≤ 16777216 := by simp only [Nat.mul_eq] at hby; omega
      rw [Int.natCast_mul] at hby'
      have hrun := run_make (P := P) w t e' q zv hu q1 (q2.trans hzv) k1 k2 l c (by omega) (by omega) (by rw [q4, Int.mul_comm]; omega) (by simp only [Nat.mul_eq] at hby; omega)
      simp only [Int.toNat_natCast, hcells] at hrun
      refine ⟨_, _, ?_, Step.cells g (t := e') (C := (concL ρ (repV z c)).toArray) q1 (Bd.repV (hbz _) c) (One.repV hoz c) (fun k x hx => by simpa using hx) (fun _ => by simp), ?_⟩
      · rw [upd_sl, h1, h2, hrun]; rfl
      · show h.next.toN < _
        rw [H.next_add]; omega
    · cases hc
  · cases hc
end
end Go.Ads
set_option autoImplicit false
set_option linter.unusedSimpArgs false
set_option linter.unusedVariables false
namespace Go.Ads
section
variable {P : Program} {tt : TT} {ρ : Rho} {h h' : H} {w : World} {v : V} {f : FR} {e : V} {inv : Inv} {r : Operand → Option Rf} {ev : Operand → Value}
def natOf (o : Option Value) (d n : Nat) : Prop := (o = none ∧ n = d) ∨ ∃ j, o = some (.int j n)
theorem orf_ok {m : Nat} (hr : Ops r ev ρ m f e) {o : Option Operand} {q : ORf} (hq : orfOf r o = some q) {d : Nat} {k : Nat → OR} (he : q.nat d f e k = .ok v h') : ∃ n, natOf (o.map ev) d n ∧ k n = .ok v h' := by
  cases o with
  | none => cases hq; exact ⟨d, .inl ⟨rfl, rfl⟩, he⟩
  | some x =>
    simp only [orfOf] at hq
    split at hq
    · rename_i a ha
      cases hq
      obtain ⟨j, n, ea, e2⟩ := toNat_ok he
      obtain ⟨h1, _⟩ := hr _ _ ha
      rw [ea] at h1
      simp only [conc] at h1
      exact ⟨n, .inr ⟨j, by simp [h1]⟩, e2⟩
    · cases hq
theorem bound_run (j : IntKind) (n y : Nat) (code : BoundsCode) (h : n ≤ y) (w : World) : (Instr.sliceBound (.int j n) y code).run P w = .ok n w := by
  simp [Instr.sliceBound, asIntOf, h]
theorem bounds_run {isS : Bool} {len cap l u m : Nat} {lo hi mx : Option Value} (hl : natOf lo 0 l) (hu : natOf hi len u) (hm : (mx = none ∧ m = cap) ∨ ((∃ j, mx = some (.int j m)) ∧ m ≤ cap ∧ hi ≠ none)) (h1 : l ≤ u) (h2 : u ≤ m) (w : World) :
    (Instr.sliceBounds isS len cap lo hi mx).run P w = .ok (l, u, m) w := by
  rcases hm with ⟨rfl, rfl⟩ | ⟨⟨jm, rfl⟩, hmc, hne⟩
  · rcases hu with ⟨rfl, rfl⟩ | ⟨ju, rfl⟩
    · rcases hl with ⟨rfl, rfl⟩ | ⟨jl, rfl⟩
      · simp [Instr.sliceBounds]
      · simp [Instr.sliceBounds, bound_run _ _ _ _ h1]
    · rcases hl with ⟨rfl, rfl⟩ | ⟨jl, rfl⟩
      · simp [Instr.sliceBounds, bound_run _ _ _ _ h2]
      · simp [Instr.sliceBounds, bound_run _ _ _ _ h1, bound_run _ _ _ _ h2]
  · rcases hu with ⟨rfl, rfl⟩ | ⟨ju, rfl⟩
    · exact absurd rfl hne
    · rcases hl with ⟨rfl, rfl⟩ | ⟨jl, rfl⟩
      · simp [Instr.sliceBounds, bound_run _ _ _ _ h2, bound_run _ _ _ _ hmc]
      · simp [Instr.sliceBounds, bound_run _ _ _ _ h1, bound_run _ _ _ _ h2, bound_run _ _ _ _ hmc]
/-- the map behind a slice expression: as it was, or one more name, of an empty slice at a place that no cell is looked for -/
def Sl1 (ρ : Rho) (h : H) (ρ' : Rho) (h' : H) (v : V) : Prop :=
  (ρ' = ρ ∧ h' = h ∧ Bd h.next.toN v) ∨ ∃ blk base tot es c, ρ' = ρ.upd h.next blk base tot es false ∧ h' = h.add .emp ∧ v = .sl h.next 0 0 c
def NwSl (P : Program) (s : Sem Value) (ρ : Rho) (v : V) (h h' : H) : Prop := ∃ ρ', (∀ w, s.run P w = .ok (conc ρ' v) w) ∧ Sl1 ρ h ρ' h' v
theorem Sl1.step {ρ' : Rho} (g : G P tt ρ h w) (s : Sl1 ρ h ρ' h' v) : Step P tt ρ h w ρ' h' w ∧ Bd h'.next.toN v := by
  rcases s with ⟨rfl, rfl, hb⟩ | ⟨blk, base, tot, es, c, rfl, rfl, rfl⟩
  · exact ⟨Step.refl g, hb⟩
  · refine ⟨Step.add g (fun _ _ => rfl) (Nat.le_refl _) rfl rfl rfl trivial trivial (fun q => q.elim), ?_⟩
    show h.next.toN < _
    rw [H.next_add]; omega
/-- what a part of a slice is -/
theorem slMk_ok {es : Nat} {b : B} {off l u len : Nat} {c : Cp} (hes : 1 ≤ es ∨ ∃ n, c = .ex n) (hb : b.toN < h.next.toN) (he : slMk es h b off l u len c = .ok v h') :
    l ≤ u ∧ u ≤ capOf ρ b off c ∧ ∃ ρ', conc ρ' v = .slice (some (if capOf ρ b off c = l then ρ.addr b off else (ρ.addr b off).add (l * es))) (u - l) (capOf ρ b off c - l) ∧ Sl1 ρ h ρ' h' v := by
  obtain ⟨hlu, he⟩ := iff_ok he
  have hlu := Nat.le_of_ble_eq_true hlu
  cases c with
  | ex m =>
    obtain ⟨hum, e2⟩ := iff_ok (show iff (Nat.ble u m) (.ok (.sl b (mvOff es off l m) (Nat.sub u l) (.ex (Nat.sub m l))) h) = .ok v h' from he)
    obtain ⟨rfl, rfl⟩ := or_ok e2
    refine ⟨hlu, Nat.le_of_ble_eq_true hum, ρ, ?_, .inl ⟨rfl, rfl, hb⟩⟩
    have : ρ.addr b (mvOff es off l m) = if m = l then ρ.addr b off else (ρ.addr b off).add (l * es) := by
      unfold mvOff
      by_cases q : m = l
      · subst q; simp
      · have : Nat.beq m l = false := by rw [beq_eq]; simp [q]
        rw [this, if_neg q, addr_add]; rfl
    simp only [conc, capOf, this]
    rfl
  | op es' lim =>
    obtain ⟨hee, e2⟩ := iff_ok he
    obtain ⟨hlim, e3⟩ := iff_ok e2
    obtain ⟨hul, e4⟩ := iff_ok e3
    have hee := Nat.eq_of_beq_eq_true hee
    subst hee
    have hul := Nat.le_of_ble_eq_true hul
    have hlim := Nat.le_of_ble_eq_true hlim
    simp only [Nat.add_eq, Nat.mul_eq] at hlim
    have hes : 1 ≤ es' := by rcases hes with q | ⟨n, q⟩; exact q; cases q
    have hlenC : len ≤ capOf ρ b off (.op es' lim) := by
      show len ≤ (max lim (ρ.tot b) - off) / es'
      rw [Nat.le_div_iff_mul_le (by omega)]
      have := Nat.le_max_left lim (ρ.tot b)
      omega
    refine ⟨hlu, by omega, ?_⟩
    cases hll : Nat.blt l len with
    | true =>
      rw [hll] at e4
      obtain ⟨rfl, rfl⟩ := or_ok e4
      have hll := blt_iff.1 hll
      refine ⟨ρ, ?_, .inl ⟨rfl, rfl, hb⟩⟩
      have hne : ¬ capOf ρ b off (.op es' lim) = l := by omega
      rw [if_neg hne, addr_add]
      have hcap : capOf ρ b (off + l * es') (.op es' lim) = capOf ρ b off (.op es' lim) - l := by
        show (max lim (ρ.tot b) - (off + l * es')) / es' = (max lim (ρ.tot b) - off) / es' - l
        rw [Nat.sub_add_eq, Nat.mul_comm l es', Nat.sub_mul_div]
      simp only [conc]
      rw [← hcap]
      rfl
    | false =>
      rw [hll] at e4
      have hll : ¬ l < len := fun q => by rw [blt_iff.2 q] at hll; cases hll
      obtain ⟨rfl, rfl⟩ := or_ok (new_eq e4)
      have h1 : l = u := by omega
      have h2 : l = len := by omega
      let C := capOf ρ b off (.op es' lim)
      refine ⟨ρ.upd h.next (ρ.blk b) (if C = l then ρ.base b + off else ρ.base b + off + l * es') ((C - l) * es') 0 false, ?_, .inr ⟨_, _, _, _, _, rfl, rfl, rfl⟩⟩
      · have ht : (max 0 ((C - l) * es') - 0) / es' = C - l := by simp; rw [Nat.mul_div_cancel _ (by omega)]
        simp only [conc, Rho.addr, Rho.upd, capOf, if_true, Nat.add_zero]
        rw [ht, ← h1, Nat.sub_self]
        show Value.slice (some ⟨ρ.blk b, if C = l then _ else _, none⟩) 0 (C - l) = Value.slice (some (if C = l then _ else _)) 0 (C - l)
        by_cases q : C = l
        · rw [if_pos q, if_pos q]
        · rw [if_neg q, if_neg q]
          have := addr_add (ρ := ρ) b off (l * es')
          unfold Rho.addr at this
          rw [this, Nat.add_assoc]
theorem slK_ok {m0 : Nat} (hr : Ops r ev ρ m0 f e) {es : Nat} {b : B} {off len : Nat} {c : Cp} {lo hi mx : Option Operand} {ql qh qm : ORf} (hlo : orfOf r lo = some ql) (hhi : orfOf r hi = some qh) (hmx : orfOf r mx = some qm)
    (hne : mx ≠ none → hi ≠ none) (hes : 1 ≤ es ∨ ∃ n, c = .ex n) (hlen : ∀ n, c = .ex n → True) (hb : b.toN < h.next.toN) (he : slK es ql qh qm f e h b off len c = .ok v h') :
    ∃ l u m, natOf (lo.map ev) 0 l ∧ natOf (hi.map ev) len u ∧ ((mx.map ev = none ∧ m = capOf ρ b off c) ∨ ((∃ j, mx.map ev = some (.int j m)) ∧ m ≤ capOf ρ b off c ∧ hi.map ev ≠ none)) ∧ l ≤ u ∧ u ≤ m ∧
      ∃ ρ', conc ρ' v = .slice (some (if m = l then ρ.addr b off else (ρ.addr b off).add (l * es))) (u - l) (m - l) ∧ Sl1 ρ h ρ' h' v := by
  obtain ⟨u, hu, e2⟩ := orf_ok hr hhi he
  obtain ⟨l, hl, e3⟩ := orf_ok hr hlo e2
  cases mx with
  | none =>
    cases hmx
    obtain ⟨h1, h2, h3⟩ := slMk_ok hes hb e3
    exact ⟨l, u, capOf ρ b off c, hl, hu, .inl ⟨rfl, rfl⟩, h1, h2, h3⟩
  | some x =>
    simp only [orfOf] at hmx
    split at hmx
    · rename_i a ha
      cases hmx
      obtain ⟨j, m, ea, e4⟩ := toNat_ok e3
      obtain ⟨hx, _⟩ := hr _ _ ha
      rw [ea] at hx
      simp only [conc] at hx
      have key : m ≤ capOf ρ b off c ∧ slMk es h b off l u len (.ex m) = .ok v h' := by
        cases c with
        | ex n =>
          obtain ⟨q1, q2⟩ := iff_ok (show iff (Nat.ble m n) (slMk es h b off l u len (.ex m)) = .ok v h' from e4)
          exact ⟨Nat.le_of_ble_eq_true q1, q2⟩
        | op es' lim =>
          obtain ⟨hee, e5⟩ := iff_ok (show iff (Nat.beq es' es) (iff (Nat.ble (Nat.add off (Nat.mul len es)) lim) (iff (Nat.ble m len) (slMk es h b off l u len (.ex m)))) = .ok v h' from e4)
          obtain ⟨hlim, e6⟩ := iff_ok e5
          obtain ⟨hml, e7⟩ := iff_ok e6
          have hee := Nat.eq_of_beq_eq_true hee
          subst hee
          have hlim := Nat.le_of_ble_eq_true hlim
          have hml := Nat.le_of_ble_eq_true hml
          simp only [Nat.add_eq, Nat.mul_eq] at hlim
          have hes : 1 ≤ es' := by rcases hes with q | ⟨n, q⟩; exact q; cases q
          refine ⟨?_, e7⟩
          show m ≤ (max lim (ρ.tot b) - off) / es'
          have : len ≤ (max lim (ρ.tot b) - off) / es' := by
            rw [Nat.le_div_iff_mul_le (by omega)]
            have := Nat.le_max_left lim (ρ.tot b)
            omega
          omega
      obtain ⟨h1, h2, h3⟩ := slMk_ok (.inr ⟨m, rfl⟩) hb key.2
      refine ⟨l, u, m, hl, hu, .inr ⟨⟨j, by simp [hx]⟩, key.1, ?_⟩, h1, h2, h3⟩
      intro q
      cases hi with
      | none => exact hne (by simp) rfl
      | some y => cases q
    · cases hmx
theorem np_slice (tk : TTok P tt) (hr : Ops r ev ρ h.next.toN f e) {t : TypeId} {x : Operand} {lo hi mx : Option Operand} {io : IOp} (hc : cslice tt r t x lo hi mx = some io) (he : opT inv io f e h = .ok v h') :
    NwSl P (Instr.sliceAt t (ev x) (lo.map ev) (hi.map ev) (mx.map ev)) ρ v h h' := by
  unfold cslice at hc
  split at hc
  · rename_i a ql qh qm ha hlo hhi hmx
    obtain ⟨h1, h2⟩ := hr _ _ ha
    split at hc
    · rename_i i hi'
      have hu0 := (tk t i hi').1
      split at hc
      · rename_i hk
        rw [hk] at hu0
        split at hc
        · cases hc
          have hmn : mx = none := by
            cases mx with
            | none => rfl
            | some y => simp only [orfOf] at hmx; split at hmx <;> cases hmx
          subst hmn
          obtain ⟨s, ea, e2⟩ := toStr_ok he
          obtain ⟨u, hu, e3⟩ := orf_ok hr hhi e2
          obtain ⟨l, hl, e4⟩ := orf_ok hr hlo e3
          obtain ⟨hlu, e45⟩ := iff_ok e4
          obtain ⟨hus, e5⟩ := iff_ok e45
          have hus := Nat.le_of_ble_eq_true hus
          rw [lenS_eq] at hus
          obtain ⟨q, hq, e6⟩ := orec_ok e5
          obtain ⟨rfl, rfl⟩ := or_ok e6
          have hlu := Nat.le_of_ble_eq_true hlu
          obtain ⟨t1, t2⟩ := takeS_ok _ hq
          rw [dropS_eq] at t1 t2
          rw [lenS_eq] at hu
          rw [ea] at h1
          simp only [conc] at h1
          simp only [Nat.sub_eq, List.length_drop] at t1 t2
          refine ⟨ρ, fun w => ?_, .inl ⟨rfl, rfl, trivial⟩⟩
          have hsz : (⟨(s.map UInt8.ofNat).toArray⟩ : ByteArray).size = s.length := by simp [ByteArray.size_mk']
          have hb := bounds_run (P := P) (isS := false) (len := (⟨(s.map UInt8.ofNat).toArray⟩ : ByteArray).size) (cap := (⟨(s.map UInt8.ofNat).toArray⟩ : ByteArray).size) (m := s.length) (mx := none) hl (by rw [hsz]; exact hu) (.inl ⟨rfl, hsz.symm⟩) hlu hus w
          have hex : (⟨(s.map UInt8.ofNat).toArray⟩ : ByteArray).extract l u = ⟨(q.map UInt8.ofNat).toArray⟩ := by
            rw [t1]
            apply ByteArray.ext
            simp [ByteArray.data_extract, List.extract, List.map_take, List.map_drop]
          simp only [Instr.sliceAt, Instr.slice, Sem.run_bind, run_underlying hu0, Result.andThen_ok, h1, Option.map_none, Option.isSome_none, Bool.false_eq_true, if_false, hb, Sem.run_pure, hex, conc]
        · cases hc; cases he
      · rename_i e' hk
        rw [hk] at hu0
        split at hc
        · rename_i e2 j hE
          obtain ⟨hu, hj⟩ := elemS_ok tk hE
          rw [hu0] at hu
          cases hu
          have fin : Nat.ble 1 j.size = true → (mx ≠ none → hi ≠ none) → io = .sll j.size a ql qh qm → NwSl P (Instr.sliceAt t (ev x) (lo.map ev) (hi.map ev) (mx.map ev)) ρ v h h' := by
            rintro hes hne rfl
            rcases toSl_ok he with ⟨u, ea, e2⟩ | ⟨b, off, len, c, ea, e2⟩
            · obtain ⟨p, hp, e3⟩ := orf_ok hr hhi e2
              obtain ⟨l, hl, e4⟩ := orf_ok hr hlo e3
              obtain ⟨hp0, e5⟩ := iff_ok e4
              obtain ⟨hl0, e6⟩ := iff_ok e5
              have hp0 := Nat.eq_of_beq_eq_true hp0
              have hl0 := Nat.eq_of_beq_eq_true hl0
              subst hp0 hl0
              rw [ea] at h1
              simp only [conc] at h1
              have fin2 : ∀ (m : Nat), ((mx.map ev = none ∧ m = 0) ∨ ((∃ j, mx.map ev = some (.int j m)) ∧ m ≤ 0 ∧ hi.map ev ≠ none)) → (.x .nils .nl = v ∧ h = h') → NwSl P (Instr.sliceAt t (ev x) (lo.map ev) (hi.map ev) (mx.map ev)) ρ v h h' := by
                rintro m hm ⟨rfl, rfl⟩
                have hm0 : m = 0 := by rcases hm with ⟨_, q⟩ | ⟨_, q, _⟩ <;> omega
                subst hm0
                have hb := bounds_run (P := P) (isS := true) (cap := 0) hl hp hm (Nat.le_refl 0) (Nat.le_refl 0)
                exact ⟨ρ, fun w => by simp [Instr.sliceAt, Instr.slice, run_underlying hu0, h1, hb, sizeOf_run tk hj, conc], .inl ⟨rfl, rfl, trivial⟩⟩
              cases mx with
              | none => cases hmx; exact fin2 0 (.inl ⟨rfl, rfl⟩) (or_ok e6)
              | some y =>
                simp only [orfOf] at hmx
                split at hmx
                · rename_i b hb
                  cases hmx
                  obtain ⟨j2, m, eb, e7⟩ := toNat_ok e6
                  obtain ⟨hm0, e8⟩ := iff_ok e7
                  have hm0 := Nat.eq_of_beq_eq_true hm0
                  subst hm0
                  obtain ⟨hy, _⟩ := hr _ _ hb
                  rw [eb] at hy
                  simp only [conc] at hy
                  refine fin2 0 (.inr ⟨⟨j2, by simp [hy]⟩, Nat.le_refl 0, fun q => ?_⟩) (or_ok e8)
                  cases hi with
                  | none => exact hne (by simp) rfl
                  | some z => cases q
                · cases hmx
            · rw [ea] at h1 h2
              simp only [conc] at h1
              obtain ⟨l, u, m, n1, n2, n3, n4, n5, ρ', n6, n7⟩ := slK_ok hr hlo hhi hmx hne (.inl (Nat.le_of_ble_eq_true hes)) (fun _ _ => trivial) h2 e2
              have hb := bounds_run (P := P) (isS := true) n1 n2 n3 n4 n5
              refine ⟨ρ', fun w => ?_, n7⟩
              rw [n6]
              simp only [Instr.sliceAt, Instr.slice, Sem.run_bind, run_underlying hu0, Result.andThen_ok, h1, hb, sizeOf_run tk hj, Sem.run_pure]
              by_cases q : m = l
              · simp [q]
              · simp [q]
          split at hc
          · cases hc
          · rename_i hes hnot
            cases hc
            refine fin hes (fun q q2 => ?_) rfl
            subst q2
            cases mx with
            | none => exact q rfl
            | some y =>
              cases hhi
              simp only [orfOf] at hmx
              split at hmx
              · cases hmx; exact hnot _ rfl rfl
              · cases hmx
          · cases hc; cases he
        · cases hc
      · rename_i n e' hk
        rw [hk] at hu0
        split at hc
        · rename_i n2 e2 j hE
          cases hc
          obtain ⟨hu, hj⟩ := elemA_ok tk hE
          rw [hu0] at hu
          cases hu
          have hmn : mx = none := by
            cases mx with
            | none => rfl
            | some y => simp only [orfOf] at hmx; split at hmx <;> cases hmx
          subst hmn
          obtain ⟨b, off, ea, e2⟩ := toPtr_ok he
          rw [ea] at h1 h2
          simp only [conc] at h1
          obtain ⟨l, u, m, n1, n2, n3, n4, n5, ρ', n6, n7⟩ := slK_ok hr hlo hhi (mx := none) (qm := .no) rfl (fun q => absurd rfl q) (.inr ⟨n, rfl⟩) (fun _ _ => trivial) h2 e2
          have hb := bounds_run (P := P) (isS := false) n1 n2 n3 n4 n5
          refine ⟨ρ', fun w => ?_, n7⟩
          rw [n6]
          simp only [capOf] at hb
          simp only [Instr.sliceAt, Instr.sureAddr, Sem.run_bind, run_underlying hu0, Result.andThen_ok, h1, hb, sizeOf_run tk hj, Sem.run_pure]
        · cases hc; cases he
      · cases hc; cases he
    · cases hc
  · cases hc
theorem nw_slice (tk : TTok P tt) (g : G P tt ρ h w) (hr : Ops r ev ρ h.next.toN f e) {t : TypeId} {x : Operand} {lo hi mx : Option Operand} {io : IOp} (hc : cslice tt r t x lo hi mx = some io) (he : opT inv io f e h = .ok v h') :
    Nw P tt (Instr.sliceAt t (ev x) (lo.map ev) (hi.map ev) (mx.map ev)) ρ v h h' w := by
  obtain ⟨ρ', h1, h2⟩ := np_slice tk hr hc he
  obtain ⟨h3, h4⟩ := h2.step g
  exact ⟨ρ', w, h1 w, h3, h4⟩
end
end Go.Ads
