/-
  An interpreter of plain data for code without loose ends (Go.Ads), and that what it computes the program answers. Part 4. It says something of a program whose code compiles to it, no other condition.
-/
import Derived.Test.YtmmhemfpbgobgaaGreatDoorAds3
import Derived.Laws.AppendOwn
import Derived.Laws.Append
import Derived.ArgAppend
import Derived.Deep.AppendSrc
import Derived.Lib.UnsafeStr
import Derived.RangeFuncCalls
set_option linter.unusedVariables false
set_option linter.unusedSimpArgs false
set_option linter.unusedSectionVars false
set_option autoImplicit false
set_option linter.unusedSimpArgs false
set_option linter.unusedVariables false
namespace Go.Ads
section
variable {P : Program} {tt : TT} {ρ : Rho} {h h' : H} {w : World} {v : V} {f : FR} {e : V} {inv : Inv} {r : Operand → Option Rf} {ev : Operand → Value}
/-! ### New objects, whatever memory holds -/
def dimX : Obj → Nat | .cells C _ _ => C.size | _ => 0
def NX (P : Program) (ρ : Rho) (n : Nat) (o : O) (X : Obj) (es : Nat) : Prop :=
  (∃ vs t i, o = .cells vs t false ∧ X = .cells (concL ρ vs).toArray t (0, 0) ∧ P.info? t = some i ∧ es = i.size ∧ Bd n vs ∧ One vs) ∨ (o = .map .nl 0 ∧ X = .map #[] 0 ∧ es = 0)
def NV (nm : B) (v : V) : Prop := v = .ptr nm 0 ∨ (∃ n c, v = .sl nm 0 n c) ∨ v = .x (.map nm) .nl
def NA (P : Program) (s : Sem Value) (ρ : Rho) (v : V) (h h' : H) : Prop :=
  ∃ o X es, h' = h.add o ∧ NX P ρ h.next.toN o X es ∧ NV h.next v ∧ ∀ w, s.run P w = .ok (conc (ρ.upd h.next w.heap.size 0 (dimX X) es false) v) (w.alloc X)
theorem na_alloc (tk : TTok P tt) {t : TypeId} {io : IOp} (hc : cio tt r (.alloc t) = some io) (he : opT inv io f e h = .ok v h') : NA P (Instr.alloc t true (.tuple #[])) ρ v h h' := by
  simp only [cio] at hc
  split at hc
  · rename_i z hz
    cases hc
    obtain ⟨rfl, rfl⟩ := or_ok (new_eq (show H.new okP (.cells z t false) h = .ok v h' from he))
    obtain ⟨i, zv, hi, hzv, hcz, hbz, ⟨hoz, _⟩, hrz⟩ := zeroC_ok (ρ := ρ) tk hz
    obtain ⟨q, q1, _⟩ := info_of tk hi
    refine ⟨_, _, _, rfl, .inl ⟨z, t, q, rfl, rfl, q1, rfl, hbz _, hoz⟩, .inl rfl, fun w => ?_⟩
    rw [upd_ptr]
    simp [Instr.alloc, hrz, newVar, newRow, hcz]
  · cases hc
theorem na_box (tk : TTok P tt) (hr : Ops r ev ρ h.next.toN f e) {t : TypeId} {x : Operand} {i : TI} (hi : tt t = some i) {io : IOp} (hc : un1 r (.box t) x = some io) (he : opT inv io f e h = .ok v h') :
    NA P (Instr.box t (ev x)) ρ v h h' := by
  obtain ⟨a, ha, rfl⟩ := un1_ok hc
  obtain ⟨ho, e2⟩ := iff_ok (show iff (oneV (a.ev f e)) (H.new okP (.cells (a.ev f e).cells t false) h) = .ok v h' from he)
  obtain ⟨rfl, rfl⟩ := or_ok (new_eq e2)
  obtain ⟨h1, h2⟩ := hr _ _ ha
  obtain ⟨q, q1, _⟩ := info_of tk hi
  have hcells : (ev x).cells = (concL ρ (a.ev f e).cells).toArray := by rw [h1, cells_eq]
  refine ⟨_, _, _, rfl, .inl ⟨_, t, q, rfl, rfl, q1, rfl, h2.cells, One.cells ho h2⟩, .inl rfl, fun w => ?_⟩
  rw [upd_ptr]
  simp [Instr.box, newVar, newRow, hcells]
theorem na_map {t : TypeId} {io : IOp} (hc : some IOp.mkmap = some io) (he : opT inv io f e h = .ok v h') : NA P (Instr.makeMap t none) ρ v h h' := by
  cases hc
  obtain ⟨rfl, rfl⟩ := or_ok (new_eq (show H.new (fun b h => .ok (.x (.map b) .nl) h) (.map .nl 0) h = .ok v h' from he))
  exact ⟨_, _, _, rfl, .inr ⟨rfl, rfl, rfl⟩, .inr (.inr rfl), fun w => by simp [Instr.makeMap, conc, Rho.upd]⟩
theorem na_bslice (tk : TTok P tt) (hr : Ops r ev ρ h.next.toN f e) {t : TypeId} {n : Nat} {ps : Array (Nat × Operand)} {io : IOp} (hc : cio tt r (.buildSlice t n ps) = some io) (he : opT inv io f e h = .ok v h') :
    NA P (Instr.buildSlice t n (ps.map fun (i, x) => (i, ev x))) ρ v h h' := by
  simp only [cio] at hc
  have hps : (ps.map fun (i, x) => (i, ev x)).toList = ps.toList.map fun p => (p.1, ev p.2) := by simp
  split at hc
  · rename_i e' j hE
    obtain ⟨hu, hj⟩ := elemS_ok tk hE
    split at hc
    · rename_i z pt hz hpt
      split at hc
      · rename_i hle
        cases hc
        obtain ⟨l, hl, e2⟩ := orO_ok he
        obtain ⟨rfl, rfl⟩ := or_ok (new_eq e2)
        obtain ⟨i, zv, hi, hzv, hcz, hbz, ⟨hoz, hlz⟩, hrz⟩ := zeroC_ok (ρ := ρ) tk hz
        rw [hj] at hi
        cases hi
        obtain ⟨q, q1, _, q3, _⟩ := info_of tk hj
        have hfill := fill_lay (ρ := ρ) (pl := fun i => some (i * j.size, j.size)) hr (fun i p hp => hp) ps.toList pt (repV z n) l hpt hl (Bd.repV (hbz _) n) (One.repV hoz n)
        have hrep : (Array.range (n * j.size)).map (fun i => (concL ρ z).toArray[i % (concL ρ z).toArray.size]!) = (concL ρ (repV z n)).toArray := by
          rw [repV_eq, ← hlz, rep_eq]
        have hle' : ¬ n * j.size > 2 ^ 24 := by have := Nat.le_of_ble_eq_true hle; omega
        refine ⟨_, _, _, rfl, .inl ⟨l, e', q, rfl, rfl, q1, rfl, hfill.2.1, hfill.2.2⟩, .inr (.inl ⟨_, _, rfl⟩), fun w => ?_⟩
        rw [upd_sl]
        by_cases hz0 : n * j.size = 0
        · have h0 : (concL ρ (repV z n)).toArray = #[] := by
            have : (concL ρ (repV z n)) = [] := by
              apply List.eq_nil_of_length_eq_zero
              rw [repV_eq, rep_len, hlz, hz0]
            rw [this]
          have hf0 := hfill.1
          rw [h0] at hf0
          simp only [Instr.buildSlice, Sem.run_bind, run_underlying hu, Result.andThen_ok, sizeOf_run tk hj, hz0]
          simp [hps, hf0, newRow, capOf, Array.range_zero']
        · simp only [Instr.buildSlice, Sem.run_bind, run_underlying hu, Result.andThen_ok, sizeOf_run tk hj, hle', hz0, if_false, hrz, Sem.run_pure, hcz, hrep, hps, hfill.1, newRow, run_newObj_alloc, capOf]
      · cases hc
    · cases hc
  · cases hc
theorem na_mksl (tk : TTok P tt) (hr : Ops r ev ρ h.next.toN f e) {t : TypeId} {a b : Operand} {io : IOp} (hc : cio tt r (.makeSlice t a b) = some io) (he : opT inv io f e h = .ok v h') :
    NA P (Instr.makeSlice t (ev a) (ev b)) ρ v h h' := by
  simp only [cio] at hc
  split at hc
  · rename_i e' j hE
    obtain ⟨hu, hj⟩ := elemS_ok tk hE
    split at hc
    · rename_i z hz hb1
      obtain ⟨x, y, hx, hy, rfl⟩ := bin2_ok hc
      obtain ⟨k1, l, ex, e2⟩ := toNat_ok he
      obtain ⟨k2, c, ey, e3⟩ := toNat_ok e2
      obtain ⟨hlc, e4⟩ := iff_ok e3
      obtain ⟨hby, e5⟩ := iff_ok e4
      obtain ⟨rfl, rfl⟩ := or_ok (new_eq e5)
      obtain ⟨i, zv, hi, hzv, hcz, hbz, ⟨hoz, hlz⟩, hrz⟩ := zeroC_ok (ρ := ρ) tk hz
      rw [hj] at hi
      cases hi
      obtain ⟨q, q1, q2, q3, q4⟩ := info_of tk hj
      obtain ⟨h1, _⟩ := hr _ _ hx
      obtain ⟨h2, _⟩ := hr _ _ hy
      rw [ex] at h1; rw [ey] at h2
      simp only [conc] at h1 h2
      have hlc := Nat.le_of_ble_eq_true hlc
      have hby := Nat.le_of_ble_eq_true hby
      have hb1 := Nat.le_of_ble_eq_true hb1
      have hcc : c ≤ c * j.bytes := Nat.le_mul_of_pos_right c hb1
      have hcells : madeCells zv.cells (c * q.size) = (concL ρ (repV z c)).toArray := by
        rw [repV_eq, q3, ← hlz, ← rep_eq, hcz]; rfl
      have hby' : ((c * j.bytes : Nat) : Int) ≤ 16777216 := by simp only [Nat.mul_eq] at hby; omega
      rw [Int.natCast_mul] at hby'
      refine ⟨_, _, _, rfl, .inl ⟨_, e', q, rfl, rfl, q1, rfl, Bd.repV (hbz _) c, One.repV hoz c⟩, .inr (.inl ⟨_, _, rfl⟩), fun w => ?_⟩
      have hrun := run_make (P := P) w t e' q zv hu q1 (q2.trans hzv) k1 k2 l c (by omega) (by omega) (by rw [q4, Int.mul_comm]; omega) (by simp only [Nat.mul_eq] at hby; omega)
      simp only [Int.toNat_natCast, hcells] at hrun
      rw [upd_sl, h1, h2, hrun]; rfl
    · cases hc
  · cases hc
/-- **what makes a new object, or none: whatever memory holds** -/
def NwN (P : Program) (s : Sem Next) (ρ : Rho) (v : V) (h h' : H) : Prop :=
  (h' = h ∧ Bd h.next.toN v ∧ ∀ w, s.run P w = .ok (.value (conc ρ v)) w) ∨
  (∃ blk base tot es c, h' = h.add .emp ∧ v = .sl h.next 0 0 c ∧ ∀ w, s.run P w = .ok (.value (conc (ρ.upd h.next blk base tot es false) v)) w) ∨
  ∃ o X es, h' = h.add o ∧ NX P ρ h.next.toN o X es ∧ NV h.next v ∧ ∀ w, s.run P w = .ok (.value (conc (ρ.upd h.next w.heap.size 0 (dimX X) es false) v)) (w.alloc X)
theorem NA.next {s : Sem Value} (p : NA P s ρ v h h') : NwN P (do pure (.value (← s))) ρ v h h' := by
  obtain ⟨o, X, es, h1, h2, h3, h4⟩ := p
  exact .inr (.inr ⟨o, X, es, h1, h2, h3, fun w => by simp only [Sem.run_bind, h4 w, Result.andThen_ok, Sem.run_pure]⟩)
theorem NwSl.next {s : Sem Value} (p : NwSl P s ρ v h h') : NwN P (do pure (.value (← s))) ρ v h h' := by
  obtain ⟨ρ', h1, ⟨rfl, h2, h3⟩ | ⟨blk, base, tot, es, c, rfl, h2, h3⟩⟩ := p
  · exact .inl ⟨h2, h3, fun w => by simp only [Sem.run_bind, h1 w, Result.andThen_ok, Sem.run_pure]⟩
  · exact .inr (.inl ⟨blk, base, tot, es, c, h2, h3, fun w => by simp only [Sem.run_bind, h1 w, Result.andThen_ok, Sem.run_pure]⟩)
theorem new_ok (tk : TTok P tt) (hr : Ops r ev ρ h.next.toN f e) {o : Oper} {io : IOp} (hk : ko tt o = .n) (hc : cio tt r o.op = some io) (he : opT inv io f e h = .ok v h') : NwN P (execOp ev o) ρ v h h' := by
  unfold ko at hk
  unfold execOp
  cases ho : o.op with
  | alloc t => simp only [ho] at hc ⊢; exact (na_alloc tk hc he).next
  | box t x =>
    simp only [ho] at hc ⊢
    simp only [cio] at hc
    split at hc
    · rename_i i hi; exact (na_box tk hr hi hc he).next
    · cases hc
  | buildSlice t n ps => simp only [ho] at hc ⊢; exact (na_bslice tk hr hc he).next
  | makeSlice t l c => simp only [ho] at hc ⊢; exact (na_mksl tk hr hc he).next
  | makeMap t m =>
    simp only [ho] at hc ⊢
    cases m with
    | none => exact (na_map hc he).next
    | some m => cases hc; cases he
  | slice t x lo hi mx => simp only [ho] at hc ⊢; exact (np_slice tk hr hc he).next
  | call c =>
    simp only [ho] at hk
    split at hk
    · split at hk
      · split at hk
        · split at hk <;> cases hk
        · cases hk
      · cases hk
    · cases hk
    · cases hk
    · cases hk
  | convert s d x =>
    simp only [ho] at hk
    split at hk
    · split at hk <;> cases hk
    · cases hk
  | _ => simp only [ho] at hk; cases hk
end
end Go.Ads
set_option autoImplicit false
set_option linter.unusedSimpArgs false
set_option linter.unusedVariables false
namespace Go.Ads
section
variable {P : Program} {tt : TT} {ρ : Rho} {h h' : H} {w : World} {v : V} {f : FR} {e : V} {inv : Inv} {r : Operand → Option Rf} {ev : Operand → Value}
theorem lay_get {vs l new : List Value} {n : Nat} (hl : l = vs.take n ++ new ++ vs.drop (n + new.length)) (hn : n + new.length ≤ vs.length) {C : List Value} {base : Nat} (hC : ∀ (i : Nat) (v : Value), vs[i]? = some v → C[base + i]? = some v) :
    ∀ (i : Nat) (v : Value), l[i]? = some v → (C.take (base + n) ++ new ++ C.drop (base + n + new.length))[base + i]? = some v := by
  intro i v hv
  have hCl : base + n + new.length ≤ C.length ∨ new.length = 0 ∧ base + n ≤ C.length ∨ vs.length = 0 := by
    rcases Nat.eq_zero_or_pos vs.length with q | q
    · exact .inr (.inr q)
    · have : vs[vs.length - 1]? = some (vs[vs.length - 1]'(by omega)) := List.getElem?_eq_getElem (by omega)
      have h1 := hC _ _ this
      have h2 : base + (vs.length - 1) < C.length := by
        rcases Nat.lt_or_ge (base + (vs.length - 1)) C.length with q | q
        · exact q
        · rw [List.getElem?_eq_none q] at h1; cases h1
      exact .inl (by omega)
  subst hl
  rcases Nat.eq_zero_or_pos vs.length with q | q
  · have : vs = [] := List.eq_nil_of_length_eq_zero q
    have hnew : new = [] := List.eq_nil_of_length_eq_zero (by omega)
    subst this hnew
    simp at hv
  · have hCl : base + n + new.length ≤ C.length := by omega
    rcases Nat.lt_or_ge i n with h1 | h1
    · rw [List.append_assoc, List.getElem?_append_left (by simp; omega), List.getElem?_take, if_pos h1] at hv
      rw [List.append_assoc, List.getElem?_append_left (by simp; omega), List.getElem?_take, if_pos (by omega)]
      exact hC i v hv
    · rcases Nat.lt_or_ge i (n + new.length) with h2 | h2
      · rw [List.getElem?_append_left (by simp; omega), List.getElem?_append_right (by simp; omega)] at hv
        rw [List.getElem?_append_left (by simp; omega), List.getElem?_append_right (by simp; omega)]
        rw [List.length_take] at hv ⊢
        rw [show base + i - min (base + n) C.length = i - min n vs.length from by omega]
        exact hv
      · rw [List.getElem?_append_right (by simp; omega), List.getElem?_drop] at hv
        rw [List.getElem?_append_right (by simp; omega), List.getElem?_drop]
        simp only [List.length_append, List.length_take] at hv ⊢
        have := hC _ v hv
        rw [show base + n + new.length + (base + i - (min (base + n) C.length + new.length)) = base + (n + new.length + (i - (min n vs.length + new.length))) from by omega]
        exact this
/-- cells are laid into an object -/
theorem Step.row (g : G P tt ρ h w) {b : B} {vs new l : V} {t : Nat} {gr : Bool} {n : Nat} (hb : h.get b = .cells vs t gr) (hl : layAt new n vs = some l) (hbn : Bd h.next.toN new) (hon : One new) :
    ∃ w', (storeCells (ρ.addr b n) (concL ρ new)).run P w = .ok () w' ∧ Step P tt ρ h w ρ (h.set b (.cells l t gr)) w' := by
  have hreal := g.real b
  have hbd := g.bd b
  rw [hb] at hreal hbd
  obtain ⟨C, h1, h2, h3, h4, h5⟩ := hreal
  obtain ⟨g1, g2⟩ := layAt_ok (ρ := ρ) _ _ hl
  have hsz : ρ.base b + n + (concL ρ new).length ≤ C.size ∨ (concL ρ vs).length = 0 := by
    rcases Nat.eq_zero_or_pos (concL ρ vs).length with q | q
    · exact .inr q
    · have : (concL ρ vs)[(concL ρ vs).length - 1]? = some ((concL ρ vs)[(concL ρ vs).length - 1]'(by omega)) := List.getElem?_eq_getElem (by omega)
      have q1 := h5 _ _ this
      have : ρ.base b + ((concL ρ vs).length - 1) < C.size := by
        rcases Nat.lt_or_ge (ρ.base b + ((concL ρ vs).length - 1)) C.size with z | z
        · exact z
        · rw [Array.getElem?_eq_none z] at q1; cases q1
      exact .inl (by omega)
  have hfit : ρ.base b + n + 0 + (concL ρ new).length ≤ C.size := by
    rcases hsz with q | q
    · omega
    · have : (concL ρ new).length = 0 := by omega
      have : n = 0 := by omega
      omega
  have hst := run_storeCells_at P (ρ.blk b) (ρ.base b + n) t (concL ρ new) 0 C w h1 hfit (one_cells hon)
  refine ⟨_, hst, ?_⟩
  have hlive : Live ρ b (h.get b) := by rw [hb]; trivial
  refine Step.set g hlive (fun q hq => setRow_other _ _ _ _ hq) (by simp) rfl rfl rfl ⟨Bd.layAt _ _ hl hbn hbd.1, One.layAt _ _ hl hon hbd.2⟩ ?_ (by rw [hb]; intro q; cases q) (by rw [hb]; intro q; cases q)
  refine ⟨_, setRow_heap w (ρ.blk b) C _ t _ h1, ?_, fun q => ?_, h4, fun i x hx => ?_⟩
  · simp only [List.size_toArray, List.length_append, List.length_take, List.length_drop, Array.length_toList]
    omega
  · obtain ⟨q1, q2⟩ := h3 q
    refine ⟨?_, q2⟩
    rw [g1]
    simp only [List.length_append, List.length_take, List.length_drop]
    omega
  · have := lay_get g1 g2 (C := C.toList) (base := ρ.base b) (fun i v hv => by simpa using h5 i v hv) i x hx
    simpa using this
/-- **a store** -/
theorem ef_store (tk : TTok P tt) (g : G P tt ρ h w) (hr : Ops r ev ρ h.next.toN f e) {t : TypeId} {x y : Operand} {io : IOp} (hc : cio tt r (.store t x y) = some io) (he : opT inv io f e h = .ok v h') :
    v = .un ∧ ∃ w', (Instr.storeAt t (ev x) (ev y)).run P w = .ok () w' ∧ Step P tt ρ h w ρ h' w' := by
  simp only [cio] at hc
  split at hc
  · rename_i i hi
    obtain ⟨a, b, ha, hb, rfl⟩ := bin2_ok hc
    obtain ⟨p, off, ea, e2⟩ := toPtr_ok he
    obtain ⟨hf, e3⟩ := iff_ok e2
    obtain ⟨vs, t', gr, ho, e4⟩ := onCells_ok e3
    obtain ⟨l, hl, e5⟩ := orO_ok e4
    obtain ⟨rfl, rfl⟩ := or_ok e5
    obtain ⟨h1, _⟩ := hr _ _ ha
    obtain ⟨h2, h3⟩ := hr _ _ hb
    rw [ea] at h1
    simp only [conc] at h1
    obtain ⟨f1, f2⟩ := fitV_ok (ρ := ρ) hf
    obtain ⟨w', k1, k2⟩ := Step.row g ho hl h3.cells (One.cells f1 h3)
    refine ⟨rfl, w', ?_, k2⟩
    have hcells : (ev y).cells = (concL ρ (b.ev f e).cells).toArray := by rw [h2, cells_eq]
    simp [Instr.storeAt, h1, Instr.sureAddr, storeVar, sizeOf_run tk hi, hcells, f2, k1]
  · cases hc
end
end Go.Ads
set_option autoImplicit false
set_option linter.unusedSimpArgs false
set_option linter.unusedVariables false
namespace Go.Ads
section
variable {P : Program} {tt : TT} {ρ : Rho} {h h' : H} {w : World} {v : V} {f : FR} {e : V} {inv : Inv} {r : Operand → Option Rf} {ev : Operand → Value}
theorem concM_addM (k x : V) (c : Nat) (es : ME) : concM ρ (addM k x c es) = concM ρ es ++ [{ key := conc ρ k, val := conc ρ x, born := c }] := by
  induction es with
  | nl => rfl
  | cn k' y b t ih => show _ :: concM ρ (addM k x c t) = _; rw [ih]; rfl
theorem bd_addM {n : Nat} {k x : V} (hk : Bd n k) (hx : Bd n x) (c : Nat) {es : ME} (h : BdM n es) : BdM n (addM k x c es) := by
  induction es with
  | nl => exact ⟨hk, hx, trivial⟩
  | cn k' y b t ih => exact ⟨h.1, h.2.1, ih h.2.2⟩
theorem put_ok {kd : TypeDesc} {sh : Sh} (hsh : (∃ k, kd = .int k ∧ sh = .i) ∨ (kd = .string ∧ sh = .s) ∨ (kd = .bool ∧ sh = .b)) (k x : V) : ∀ (es : ME) (i : Nat) (x0 : V) (b0 : Nat), findM sh k es = .yes x0 b0 →
    ∃ j e0, (concM ρ es)[j]? = some e0 ∧ e0.val = conc ρ x0 ∧ e0.born = b0 ∧ Instr.sameBits 10000 e0.key (conc ρ k) = true ∧ Instr.findNow kd (conc ρ k) (concM ρ es) i = some (some (i + j, conc ρ x0)) ∧
      concM ρ (putM sh k x es) = (concM ρ es).modify j (fun e => { e with key := conc ρ k, val := conc ρ x }) := by
  have same : ∀ a b q, eqv sh a b = some q → Instr.sameNow kd (conc ρ a) (conc ρ b) = some q ∧ (q = true → Instr.sameBits 10000 (conc ρ b) (conc ρ a) = true) := by
    intro a b q hq
    rcases hsh with ⟨kk, rfl, rfl⟩ | ⟨rfl, rfl⟩ | ⟨rfl, rfl⟩
    · obtain ⟨k, x, y, rfl, rfl, rfl⟩ := eqI_ok hq; exact ⟨by simp [conc, Instr.sameNow], fun q => by simp [conc, Instr.sameBits]; exact (by simpa using q : x = y).symm⟩
    · obtain ⟨x, y, rfl, rfl, rfl⟩ := eqS_ok hq
      refine ⟨by simp only [conc, Instr.sameNow, strEq_beq], fun q => ?_⟩
      simp only [conc, Instr.sameBits]
      rw [strEq_eq] at q
      rw [of_decide_eq_true q]
      rw [beq_toListBytes]; simp
    · obtain ⟨x, y, rfl, rfl, rfl⟩ := eqB_ok hq; exact ⟨by simp [conc, Instr.sameNow], fun q => by simp [conc, Instr.sameBits]; exact (by simpa using q : x = y).symm⟩
  intro es
  induction es with
  | nl => intro i x0 b0 h; cases h
  | cn k' y b t ih =>
    intro i x0 b0 hf
    change (Option.rec FM.bad (fun q => Bool.rec (findM sh k t) (.yes y b) q) (eqv sh k k') : FM) = .yes x0 b0 at hf
    have hput : putM sh k x (.cn k' y b t) = (Option.rec .nl (fun q => Bool.rec (.cn k' y b (putM sh k x t)) (.cn k x b t) q) (eqv sh k k') : ME) := rfl
    cases hq : eqv sh k k' with
    | none => rw [hq] at hf; cases hf
    | some q =>
      rw [hq] at hf hput
      obtain ⟨hs, hbits⟩ := same _ _ _ hq
      cases q with
      | true =>
        cases hf
        refine ⟨0, _, rfl, rfl, rfl, hbits rfl, by simp [concM, Instr.findNow, hs], ?_⟩
        rw [hput]; rfl
      | false =>
        obtain ⟨j, e0, a1, a2, a3, a4, a5, a6⟩ := ih (i + 1) x0 b0 hf
        refine ⟨j + 1, e0, a1, a2, a3, a4, by simp only [concM, Instr.findNow, hs, a5]; congr 3; omega, ?_⟩
        rw [hput]
        show _ :: concM ρ (putM sh k x t) = _
        rw [a6]; rfl
theorem bd_putM {n : Nat} {sh : Sh} {k x : V} (hk : Bd n k) (hx : Bd n x) : ∀ {es : ME}, BdM n es → BdM n (putM sh k x es) := by
  intro es
  induction es with
  | nl => exact fun _ => trivial
  | cn k' y b t ih =>
    intro h
    have hput : putM sh k x (.cn k' y b t) = (Option.rec .nl (fun q => Bool.rec (.cn k' y b (putM sh k x t)) (.cn k x b t) q) (eqv sh k k') : ME) := rfl
    rw [hput]
    cases eqv sh k k' with
    | none => trivial
    | some q => cases q with
      | true => exact ⟨hk, hx, h.2.2⟩
      | false => exact ⟨h.1, h.2.1, ih h.2.2⟩
theorem find_bd {n : Nat} {sh : Sh} {k x : V} {bn : Nat} : ∀ {es : ME}, BdM n es → findM sh k es = .yes x bn → Bd n x := by
  intro es
  induction es with
  | nl => intro _ h; cases h
  | cn k' y c t ih =>
    intro hb hf
    change (Option.rec FM.bad (fun q => Bool.rec (findM sh k t) (.yes y c) q) (eqv sh k k') : FM) = .yes x bn at hf
    cases hq : eqv sh k k' with
    | none => rw [hq] at hf; cases hf
    | some q =>
      rw [hq] at hf
      cases q with
      | true => cases hf; exact hb.2.1
      | false => exact ih hb.2.2 hf
/-- a map's block, written -/
theorem Step.map (g : G P tt ρ h w) {b : B} {es es' : ME} {c c' : Nat} (hb : h.get b = .map es c) (hbd : BdM h.next.toN es') :
    Step P tt ρ h w ρ (h.set b (.map es' c')) (w.putObj (ρ.blk b) (.map (concM ρ es').toArray c')) := by
  have hreal := g.real b
  rw [hb] at hreal
  have hlt : ρ.blk b < w.heap.size := (Array.getElem?_eq_some_iff.1 hreal).1
  exact Step.set g (by rw [hb]; trivial) (fun q hq => World.putObj_heap_other hq) World.putObj_size rfl rfl rfl hbd (World.putObj_heap_same hlt) (by rw [hb]; intro q; cases q) (by rw [hb]; intro q; cases q)
theorem run_getMap {b : Nat} {es : Array MapEntry} {c : Nat} (h : w.heap[b]? = some (.map es c)) : (getObj b).run P w = .ok (.map es c) w := by simp [getObj, Sem.run, h]
theorem run_setMap {b : Nat} {es : Array MapEntry} {c : Nat} (o : Obj) (h : w.heap[b]? = some (.map es c)) : (setObj b o).run P w = .ok () (w.putObj b o) := by simp [setObj, Sem.run, h, World.putObj]
theorem ef_upd (tk : TTok P tt) (g : G P tt ρ h w) (hr : Ops r ev ρ h.next.toN f e) {t : TypeId} {mp k x : Operand} {io : IOp} (hc : (match keySh tt t with | some q => tri3 r (.upd q) mp k x | none => some .pan) = some io)
    (he : opT inv io f e h = .ok v h') : v = .un ∧ ∃ w', (Instr.mapUpdate t (ev mp) (ev k) (ev x)).run P w = .ok () w' ∧ Step P tt ρ h w ρ h' w' := by
  split at hc
  · rename_i sh hsh
    obtain ⟨kt, e', kd, hu, hk, hkd⟩ := keySh_ok tk hsh
    obtain ⟨a, b, c, ha, hb, hcx, rfl⟩ := tri3_ok hc
    obtain ⟨h1, _⟩ := hr _ _ ha
    obtain ⟨h2, h2b⟩ := hr _ _ hb
    obtain ⟨h3, h3b⟩ := hr _ _ hcx
    rcases toMap_ok he with ⟨u, ea, e2⟩ | ⟨mb, u, ea, e2⟩
    · cases e2
    · obtain ⟨es, cl, hmp, e3⟩ := onMap_ok e2
      obtain ⟨hw, hbm⟩ := g.mapAt hmp
      rw [ea] at h1
      simp only [conc] at h1
      have e3 : (FM.rec .bad (.ok .un (h.set mb (.map (addM (b.ev f e) (c.ev f e) cl es) (Nat.add cl 1)))) (fun _ _ => .ok .un (h.set mb (.map (putM sh (b.ev f e) (c.ev f e) es) cl))) (findM sh (b.ev f e) es) : OR) = .ok v h' := e3
      cases hfm : findM sh (b.ev f e) es with
      | bad => rw [hfm] at e3; cases e3
      | no =>
        rw [hfm] at e3
        obtain ⟨rfl, rfl⟩ := or_ok e3
        have hnow := (find_ok (ρ := ρ) hkd (b.ev f e) es 0).1 hfm
        refine ⟨rfl, _, ?_, Step.map g hmp (bd_addM h2b h3b cl hbm)⟩
        rw [← h2] at hnow
        simp only [Instr.mapUpdate, Sem.run_bind, run_underlying hu, Result.andThen_ok, h1, run_getMap hw, checkKey_run hk hkd, Instr.findKey, run_underlying hk, hnow, Sem.run_pure, run_setMap _ hw]
        rw [concM_addM, ← h2, ← h3]
        simp
      | yes x0 b0 =>
        rw [hfm] at e3
        obtain ⟨rfl, rfl⟩ := or_ok e3
        obtain ⟨j, e0, a1, a2, a3, a4, a5, a6⟩ := put_ok (ρ := ρ) hkd (b.ev f e) (c.ev f e) es 0 x0 b0 hfm
        refine ⟨rfl, _, ?_, Step.map g hmp (bd_putM h2b h3b hbm)⟩
        rw [← h2] at a4 a5 a6
        rw [← h3] at a6
        simp only [Nat.zero_add] at a5
        have hge : (concM ρ es).toArray[j]? = some e0 := by simpa using a1
        simp only [Instr.mapUpdate, Sem.run_bind, run_underlying hu, Result.andThen_ok, h1, run_getMap hw, checkKey_run hk hkd, Instr.findKey, run_underlying hk, a5, Sem.run_pure, hge, Option.map_some, Option.getD_some, Instr.keyThatStays, a4, if_true, run_setMap _ hw]
        rw [a6]
        simp
  · cases hc; cases he
end
end Go.Ads
set_option autoImplicit false
set_option linter.unusedSimpArgs false
set_option linter.unusedVariables false
namespace Go.Ads
section
variable {P : Program} {tt : TT} {ρ : Rho} {h h' : H} {w : World} {v : V} {f : FR} {e : V} {inv : Inv} {r : Operand → Option Rf} {ev : Operand → Value}
/-- what an operation with an effect does -/
def Ef (P : Program) (tt : TT) (s : Sem Next) (ρ : Rho) (v : V) (h h' : H) (w : World) : Prop :=
  ∃ ρ' w', (s.run P w = .ok (.value (conc ρ' v)) w' ∨ (s.run P w = .ok .skip w' ∧ v = .un)) ∧ Step P tt ρ h w ρ' h' w' ∧ Bd h'.next.toN v
theorem Nw.next {s : Sem Value} (n : Nw P tt s ρ v h h' w) : Ef P tt (do pure (.value (← s))) ρ v h h' w := by
  obtain ⟨ρ', w', h1, h2, h3⟩ := n
  exact ⟨ρ', w', .inl (by simp only [Sem.run_bind, h1, Result.andThen_ok, Sem.run_pure]), h2, h3⟩
theorem ef_clear (tk : TTok P tt) (g : G P tt ρ h w) (hr : Ops r ev ρ h.next.toN f e) {c : Call} {ty : TypeId} {io : IOp} (hb : c.callee = .builtin .clear) (hc : ccall tt r c = some io) (he : opT inv io f e h = .ok v h') :
    Ef P tt (do let d ← resolve ev c ty; invoke d.target d.args) ρ v h h' w := by
  simp only [ccall, hb] at hc
  split at hc <;> first | (cases hc; cases he; done) | skip
  all_goals first | (rename_i e1 _; cases e1; done) | (rename_i e1 _ _; cases e1; done) | skip
  rename_i _ x t _ hx ht
  have hA : c.args = #[x] := Array.ext' (by simpa using hx)
  have hT : c.argTypes = #[t] := Array.ext' (by simpa using ht)
  split at hc
  · rename_i e' j hE
    obtain ⟨hu, hj⟩ := elemS_ok tk hE
    split at hc
    · rename_i z hz
      obtain ⟨a, ha, rfl⟩ := un1_ok hc
      obtain ⟨i, zv, hi, hzv, hcz, hbz, ⟨hoz, hlz⟩, hrz⟩ := zeroC_ok (ρ := ρ) tk hz
      obtain ⟨h1, h2⟩ := hr _ _ ha
      rcases toSl_ok he with ⟨u, ea, e2⟩ | ⟨b, off, n, cp, ea, e2⟩
      · obtain ⟨rfl, rfl⟩ := or_ok e2
        rw [ea] at h1
        simp only [conc] at h1
        exact ⟨ρ, w, .inl (by rw [conc_un]; simp [resolve, hb, hA, hT, invoke, builtin, Builtin.clear_, run_underlying hu, h1]; rfl), Step.refl g, trivial⟩
      · rw [ea] at h1
        simp only [conc] at h1
        cases n with
        | zero =>
          obtain ⟨rfl, rfl⟩ := or_ok e2
          exact ⟨ρ, w, .inl (by rw [conc_un]; simp [resolve, hb, hA, hT, invoke, builtin, Builtin.clear_, run_underlying hu, h1]; rfl), Step.refl g, trivial⟩
        | succ n =>
          have e3 : onCells (fun vs t g => orO (fun l => .ok .un (h.set b (.cells l t g))) (layAt (repV z (n + 1)) off vs)) (h.get b) = .ok v h' := e2
          obtain ⟨vs, t', gr, ho, e4⟩ := onCells_ok e3
          obtain ⟨l, hl, e5⟩ := orO_ok e4
          obtain ⟨rfl, rfl⟩ := or_ok e5
          obtain ⟨w', k1, k2⟩ := Step.row g ho hl (Bd.repV (hbz _) _) (One.repV hoz _)
          refine ⟨ρ, w', .inl ?_, k2, trivial⟩
          have hzc : (Builtin.zeroCells zv.cells (n + 1)).toList = concL ρ (repV z (n + 1)) := by
            unfold Builtin.zeroCells
            rw [hcz, repV_eq]
            have := rep_eq (concL ρ z) (n + 1)
            simp only [List.size_toArray] at this ⊢
            rw [this]
          rw [conc_un]
          simp [resolve, hb, hA, hT, invoke, builtin, Builtin.clear_, run_underlying hu, h1, hrz, hzc, k1]
          rfl
    · cases hc
  · cases hc; cases he
theorem ef_copy (tk : TTok P tt) (g : G P tt ρ h w) (hr : Ops r ev ρ h.next.toN f e) {c : Call} {ty : TypeId} {io : IOp} (hb : c.callee = .builtin .copy) (hc : ccall tt r c = some io) (he : opT inv io f e h = .ok v h') :
    Ef P tt (do let d ← resolve ev c ty; invoke d.target d.args) ρ v h h' w := by
  simp only [ccall, hb] at hc
  split at hc <;> first | (cases hc; cases he; done) | skip
  all_goals first | (rename_i e1 _; cases e1; done) | (rename_i e1 _ _; cases e1; done) | skip
  rename_i _ x y t t2 _ hx ht
  have hA : c.args = #[x, y] := Array.ext' (by simpa using hx)
  have hT : c.argTypes = #[t, t2] := Array.ext' (by simpa using ht)
  split at hc
  · rename_i e' j i2 hE hi2
    obtain ⟨hu, hj⟩ := elemS_ok tk hE
    split at hc
    · obtain ⟨a, b, ha, hb2, rfl⟩ := bin2_ok hc
      obtain ⟨h1, h2⟩ := hr _ _ ha
      obtain ⟨h3, h4⟩ := hr _ _ hb2
      have zero : ∀ (d s : Option Addr) (dl dc sl sc : Nat), ev x = .slice d dl dc → ev y = .slice s sl sc → Nat.min sl dl = 0 → okI h 0 = .ok v h' → Ef P tt (do let d ← resolve ev c ty; invoke d.target d.args) ρ v h h' w := by
        intro d s dl dc sl sc hd hs hm hok
        obtain ⟨rfl, rfl⟩ := or_ok hok
        refine ⟨ρ, w, .inl ?_, Step.refl g, trivial⟩
        have hload : (Builtin.firstCells j.size 0 (.slice s sl sc)).run P w = .ok #[] w := by cases s <;> simp [Builtin.firstCells, loadCells, loadCellsFrom]
        cases d <;> simp [resolve, hb, hA, hT, invoke, builtin, Builtin.copy_, run_underlying hu, hd, hs, Builtin.lenOf, hm, sizeOf_run tk hj, hload, storeCells, conc, goInt]
      rcases toSl_ok he with ⟨u, ea, e2⟩ | ⟨p, off, n, cp, ea, e2⟩
      · rw [ea] at h1
        simp only [conc] at h1
        rcases toSl_ok e2 with ⟨u2, eb, e3⟩ | ⟨q, off', n', cq, eb, e3⟩
        · rw [eb] at h3
          simp only [conc] at h3
          exact zero _ _ _ _ _ _ h1 h3 (Nat.min_zero 0) e3
        · rw [eb] at h3
          simp only [conc] at h3
          exact zero _ _ _ _ _ _ h1 h3 (Nat.min_zero n') e3
      · rcases toSl_ok e2 with ⟨u, eb, e3⟩ | ⟨q, off', n', cq, eb, e3⟩
        · rw [ea] at h1; rw [eb] at h3
          simp only [conc] at h1 h3
          exact zero _ _ _ _ _ _ h1 h3 (Nat.zero_min n) e3
        · rw [ea] at h1; rw [eb] at h3
          simp only [conc] at h1 h3
          have hmin : (Bool.rec n' n (Nat.ble n n') : Nat) = Nat.min n' n := by
            rw [ble_eq]
            by_cases hle : n ≤ n'
            · simp only [hle, decide_true]; exact (Nat.min_eq_right hle).symm
            · simp only [hle, decide_false]; exact (Nat.min_eq_left (by omega)).symm
          have e4 : (Bool.rec (onCells (fun src _ _ => orO (fun new => onCells (fun vs t g => orO (fun l => .ok (.int .i64 (.ofNat (Bool.rec n' n (Nat.ble n n') : Nat))) (h.set p (.cells l t g))) (layAt new off vs)) (h.get p)) (takeV (Nat.mul (Bool.rec n' n (Nat.ble n n') : Nat) j.size) (dropV off' src))) (h.get q)) (okI h 0) (Nat.beq (Bool.rec n' n (Nat.ble n n') : Nat) 0) : OR) = .ok v h' := e3
          rw [hmin] at e4
          cases hz : Nat.beq (Nat.min n' n) 0 with
          | true => rw [hz] at e4; exact zero _ _ _ _ _ _ h1 h3 (Nat.eq_of_beq_eq_true hz) e4
          | false =>
            rw [hz] at e4
            obtain ⟨src, t3, g3, hs, e5⟩ := onCells_ok e4
            obtain ⟨new, hnew, e6⟩ := orO_ok e5
            obtain ⟨vs, t4, g4, hd, e7⟩ := onCells_ok e6
            obtain ⟨l, hl, e8⟩ := orO_ok e7
            obtain ⟨rfl, rfl⟩ := or_ok e8
            obtain ⟨k1, k2, k3, k4⟩ := g.cells hs hnew
            obtain ⟨w', s1, s2⟩ := Step.row g hd hl k3 k4
            refine ⟨ρ, w', .inl ?_, s2, trivial⟩
            simp only [Nat.mul_eq] at k1
            simp [resolve, hb, hA, hT, invoke, builtin, Builtin.copy_, run_underlying hu, h1, h3, Builtin.lenOf, sizeOf_run tk hj, Builtin.firstCells, k1, s1, conc, goInt]
    · cases hc; cases he
  · cases hc
end
end Go.Ads
set_option autoImplicit false
set_option linter.unusedSimpArgs false
set_option linter.unusedVariables false
namespace Go.Ads
section
variable {P : Program} {tt : TT} {ρ : Rho} {h h' : H} {w w' : World} {v : V} {f : FR} {e : V} {inv : Inv} {r : Operand → Option Rf} {ev : Operand → Value}
/-- An old object is gone; a new one has its block. -/
theorem Step.turn (g : G P tt ρ h w) {b : B} {o : O} {base tot es : Nat} (hl : Live ρ b (h.get b)) (hd : h.get b ≠ .dfr) (hlo : isLoop (h.get b) = false) (hg : isGlb (h.get b) = false) (hw : ∀ r, r ≠ ρ.blk b → w'.heap[r]? = w.heap[r]?) (hs : w'.heap.size = w.heap.size)
    (ho : w'.os = w.os) (hou : w'.output = w.output) (ht : w'.tape = w.tape) (bd : BdO h.next.toN o) (real : Real P tt (ρ.upd h.next (ρ.blk b) base tot es false) w' h.next o) :
    Step P tt ρ h w (ρ.upd h.next (ρ.blk b) base tot es false) ((h.set b .gone).add o) w' := by
  have hblt := g.live_lt hl
  have hbn : b ≠ h.next := fun q => by rw [q] at hblt; omega
  have hnx : (h.set b .gone).next = h.next := H.next_set _ _ _
  have keep := ρ.upd_keep h.next (ρ.blk b) base tot es false
  have hn : ((h.set b .gone).add o).next.toN = h.next.toN + 1 := by rw [H.next_add, hnx]
  have old : ∀ c : B, c ≠ h.next → (ρ.upd h.next (ρ.blk b) base tot es false).blk c = ρ.blk c ∧ (ρ.upd h.next (ρ.blk b) base tot es false).lv c = ρ.lv c := fun c hc => by simp [Rho.upd, hc]
  have isn : (ρ.upd h.next (ρ.blk b) base tot es false).blk h.next = ρ.blk b := by simp [Rho.upd]
  have gn : ((h.set b .gone).add o).get h.next = o := by have := H.get_add_same o (h.set b .gone); rwa [hnx] at this
  have gb : ((h.set b .gone).add o).get b = .gone := by rw [H.get_add_ne o _ (by rw [hnx]; exact hbn), H.get_set_same]
  have go : ∀ c, c ≠ h.next → c ≠ b → ((h.set b .gone).add o).get c = h.get c := fun c h1 h2 => by rw [H.get_add_ne o _ (by rw [hnx]; exact h1), H.get_set_ne _ _ h2]
  have lold : ∀ c : B, c ≠ h.next → Live (ρ.upd h.next (ρ.blk b) base tot es false) c (((h.set b .gone).add o).get c) → Live ρ c (h.get c) ∧ c ≠ b := fun c hc l => by
    by_cases q : c = b
    · subst q; rw [gb] at l; exact l.elim
    · rw [go c hc q] at l; exact ⟨l.move (old c hc).2, q⟩
  refine ⟨by omega, by rw [hn]; exact keep, ⟨fun c => ?_, fun c d lc ld q => ?_, fun c => ?_, fun c hc => ?_⟩, fun q hq hf => hw q (fun z => hf b hl z.symm), by omega, fun c l _ => ?_, fun c hc => ?_, fun c hc => ?_, ho, hou, ht, fun c r vs hc => ⟨by
    have q : c ≠ h.next := fun z => by rw [g.none c (by rw [z]; exact Nat.le_refl _)] at hc; cases hc
    have q2 : c ≠ b := fun z => by subst z; rw [hc] at hg; cases hg
    rw [go c q q2]; exact hc, hw r fun e => (by
      have q2 : c ≠ b := fun z => by subst z; rw [hc] at hg; cases hg
      exact q2 (g.inj c b (g.glb hc).2.2 hl ((g.glb hc).1.trans e)))⟩⟩
  · by_cases q : c = h.next
    · subst q; rw [gn]; exact real
    · by_cases q2 : c = b
      · subst q2; rw [gb]; trivial
      · rw [go c q q2]
        rcases Nat.lt_or_ge c.toN h.next.toN with z | z
        · exact (g.real c).move keep.lo z (keep.lv c z) (g.bd c) fun l => hw _ (fun z2 => q2 (g.inj c b l hl z2))
        · rw [g.none c z]; trivial
  · by_cases eb : c = h.next
    · by_cases ec : d = h.next
      · rw [eb, ec]
      · obtain ⟨l, hne⟩ := lold d ec ld
        rw [eb, isn, (old d ec).1] at q
        exact absurd (g.inj b d hl l q).symm hne
    · obtain ⟨lc', hcb⟩ := lold c eb lc
      by_cases ec : d = h.next
      · rw [ec, isn, (old c eb).1] at q
        exact absurd (g.inj c b lc' hl q) hcb
      · obtain ⟨l, hne⟩ := lold d ec ld
        exact g.inj c d lc' l (by rw [← (old c eb).1, ← (old d ec).1]; exact q)
  · rw [hn]
    by_cases q : c = h.next
    · subst q; rw [gn]; exact bd.mono (by omega)
    · by_cases q2 : c = b
      · subst q2; rw [gb]; trivial
      · rw [go c q q2]; exact (g.bd c).mono (by omega)
  · rw [hn] at hc
    have q : c ≠ h.next := fun z => by rw [z] at hc; omega
    have q2 : c ≠ b := fun z => by rw [z] at hc; omega
    rw [go c q q2]; exact g.none c (by omega)
  · by_cases q : c = h.next
    · subst q; exact ⟨b, hl, isn.symm⟩
    · exact ⟨c, (lold c q l).1, (old c q).1.symm⟩
  · have q : c ≠ h.next := fun z => by rw [g.none c (by rw [z]; exact Nat.le_refl _)] at hc; cases hc
    have q2 : c ≠ b := fun z => by rw [z, hlo] at hc; cases hc
    rw [go c q q2]; exact hc
  · have q : c ≠ h.next := fun z => by rw [g.none c (by rw [z]; exact Nat.le_refl _)] at hc; cases hc
    have q2 : c ≠ b := fun z => hd (z ▸ hc)
    rw [go c q q2]; exact hc
/-- growth on a new block -/
theorem grow_ok (g : G P tt ρ h w) {t es bytes need : Nat} {old new : V} {i : TypeInfo} {z : Array Value} (hi : P.info? t = some i) (hes : 1 ≤ es) (hz : z.size = es) (ho : Bd h.next.toN old ∧ One old) (hn : Bd h.next.toN new ∧ One new)
    (hlen : (concL ρ old).length + (concL ρ new).length = need * es) (he : grow t es bytes need old new h = .ok v h') (sCap : Nat) :
    need * bytes ≤ 16777216 ∧ ∃ ρ', Step P tt ρ h w ρ' h' (w.drew.alloc (.cells ((concL ρ old).toArray ++ (concL ρ new).toArray ++ Builtin.zeroCells z (grownCap w need sCap t - need)) t)) ∧
      conc ρ' v = .slice (some ⟨w.heap.size, 0, none⟩) need (grownCap w need sCap t) ∧ Bd h'.next.toN v := by
  obtain ⟨hb, e2⟩ := iff_ok he
  obtain ⟨rfl, rfl⟩ := or_ok (new_eq e2)
  have hge := grownCap_ge w need sCap t
  refine ⟨Nat.le_of_ble_eq_true hb, _, (Step.drew g).trans (Step.cells (w := w.drew) (gr := true) (g.same rfl) (C := (concL ρ old).toArray ++ (concL ρ new).toArray ++ Builtin.zeroCells z (grownCap w need sCap t - need)) hi (Bd.appV ho.1 hn.1) (One.appV ho.2 hn.2) (fun k x hx => ?_) (fun q => by cases q)), ?_, ?_⟩
  · rw [concL_appV] at hx
    rw [Array.getElem?_append_left (by
      rcases Nat.lt_or_ge k (concL ρ old ++ concL ρ new).length with q | q
      · simpa using q
      · rw [List.getElem?_eq_none q] at hx; cases hx)]
    simpa using hx
  · rw [upd_sl]
    have hsz : ((concL ρ old).toArray ++ (concL ρ new).toArray ++ Builtin.zeroCells z (grownCap w need sCap t - need)).size = grownCap w need sCap t * es := by
      simp only [Array.size_append, List.size_toArray, size_zeroCells, hz, hlen, ← Nat.add_mul]
      congr 1; omega
    have hcap : capOf (ρ.upd h.next w.drew.heap.size 0 ((concL ρ old).toArray ++ (concL ρ new).toArray ++ Builtin.zeroCells z (grownCap w need sCap t - need)).size i.size false) h.next 0 (.op es (Nat.mul need es)) = grownCap w need sCap t := by
      simp only [capOf, Rho.upd, if_true, hsz, Nat.sub_zero, Nat.mul_eq]
      rw [Nat.max_eq_right (Nat.mul_le_mul_right es hge), Nat.mul_div_cancel _ (by omega)]
    rw [hcap]
    rfl
  · show h.next.toN < _
    rw [H.next_add]; omega
theorem app_zero {t t2 ty e' : TypeId} {i : TypeInfo} (hu : P.underlying t = some (.slice e')) (hi : P.info? e' = some i) {base : Option Addr} {len cap : Nat} {y : Value} (hle : len ≤ cap) (w : World) (hs : Src P i.size t2 y 0 [] w) :
    (Builtin.append_ #[t, t2] ty #[.slice base len cap, y]).run P w = .ok (.slice base len cap) w := by
  rcases hs.kind with ⟨e', hk⟩ | hk <;> cases base <;> simp [Builtin.append_, run_underlying hu, run_underlying hk, sizeOf, typeInfo, hi, hs.len, hle, hs.cells, storeCells]
theorem app_room {t t2 ty e' : TypeId} {i : TypeInfo} (hu : P.underlying t = some (.slice e')) (hi : P.info? e' = some i) {A : Addr} {len cap n : Nat} {y : Value} {news : List Value} {w w' : World} (hs : Src P i.size t2 y n news w)
    (hroom : len + n ≤ cap) (hst : (storeCells (A.add (len * i.size)) news).run P w = .ok () w') :
    (Builtin.append_ #[t, t2] ty #[.slice (some A) len cap, y]).run P w = .ok (.slice (some A) (len + n) cap) w' := by
  rcases hs.kind with ⟨e', hk⟩ | hk <;> simp [Builtin.append_, run_underlying hu, run_underlying hk, sizeOf, typeInfo, hi, hs.len, hroom, hs.cells, hst]
theorem app_grow {t t2 ty e' : TypeId} {i : TypeInfo} {z : Value} (hu : P.underlying t = some (.slice e')) (hi : P.info? e' = some i) (hz : i.zero = some z) (base : Option Addr) {len cap n : Nat} {y : Value} {olds news : List Value} {w : World} (hs : Src P i.size t2 y n news w)
    (hold : (Builtin.firstCells i.size len (.slice base len cap)).run P w.drew = .ok olds.toArray w.drew) (hg : cap < len + n) (h63 : ((len + n : Nat) : Int) ≤ 9223372036854775807) (hfit : Builtin.nextslicecap (len + n) cap * i.bytes ≤ 281474976710656) :
    (Builtin.append_ #[t, t2] ty #[.slice base len cap, y]).run P w = .ok (.slice (some ⟨w.heap.size, 0, none⟩) (len + n) (grownCap w (len + n) cap e'))
        (w.drew.alloc (.cells (olds.toArray ++ news.toArray ++ Builtin.zeroCells z.cells (grownCap w (len + n) cap e' - (len + n))) e')) := by
  rw [run_append_grow_src w t t2 ty e' i z hu hi hz base len cap olds hold y n news hs hg h63 hfit]
  congr 4
  apply Array.ext'
  simp
/-- what is appended, and where it comes from -/
structure News (P : Program) (h : H) (ρ : Rho) (w : World) (es n : Nat) (new : V) (t2 : TypeId) (y : Value) : Prop where
  src : Src P es t2 y n (concL ρ new) w
  bd : Bd h.next.toN new ∧ One new
  pos : 0 < n
theorem ap_ok (g : G P tt ρ h w) {t t2 ty e' : TypeId} {i : TypeInfo} {zv : Value} {bytes n : Nat} {new : V} {x y : Value} {a : V} (hu : P.underlying t = some (.slice e')) (hi : P.info? e' = some i) (hz : i.zero = some zv) (hzs : zv.cells.size = i.size)
    (hes : 1 ≤ i.size) (hby : i.bytes = bytes) (hb1 : 1 ≤ bytes) (hx : x = conc ρ a) (hxb : Bd h.next.toN a) (N : News P h ρ w i.size n new t2 y) (he : apK e' i.size bytes a h new n = .ok v h') :
    Nw P tt (Builtin.append_ #[t, t2] ty #[x, y]) ρ v h h' w := by
  obtain ⟨hs, hbn, hpos⟩ := N
  have hlen := hs.newsLen
  have hn0 : Nat.beq n 0 = false := by rw [beq_eq]; simp; omega
  unfold apK at he
  rw [hn0] at he
  have fits : ∀ {need old : Nat}, old < need → need * bytes ≤ 16777216 → Builtin.nextslicecap need old * i.bytes ≤ 281474976710656 ∧ ((need : Nat) : Int) ≤ 9223372036854775807 := by
    intro need old h1 h2
    have h3 : need ≤ need * bytes := Nat.le_mul_of_pos_right need hb1
    exact ⟨growslice_fits h1 (by rw [hby]; omega), by omega⟩
  rcases toSl_ok he with ⟨u, rfl, e2⟩ | ⟨b, off, len, c, rfl, e2⟩
  · simp only [conc] at hx
    obtain ⟨g1, ρ', g2, g3, g4⟩ := grow_ok g hi hes hzs (old := .nl) ⟨trivial, trivial⟩ hbn (by simpa using hlen) e2 0
    refine ⟨ρ', _, ?_, g2, g4⟩
    obtain ⟨f1, f2⟩ := fits (old := 0) hpos g1
    rw [hx, g3]
    have := app_grow (ty := ty) hu hi hz none (len := 0) (cap := 0) (olds := []) hs (by simp [Builtin.firstCells]) (by omega) (by rw [Nat.zero_add]; exact f2) (by rw [Nat.zero_add]; exact f1)
    simp only [Nat.zero_add] at this
    rw [this]
    simp
  · simp only [conc] at hx
    have grown : ∀ (old : V) (h1 : H) (sCap : Nat), G P tt ρ h1 w → Step P tt ρ h w ρ h1 w → h1.next = h.next → capOf ρ b off c = sCap → sCap < len + n → Bd h.next.toN old ∧ One old → (concL ρ old).length = len * i.size →
        (∀ (j : Nat) (v : Value), (concL ρ old)[j]? = some v → w.cell? ((ρ.addr b off).add j) = some v) → grow e' i.size bytes (Nat.add len n) old new h1 = .ok v h' → Nw P tt (Builtin.append_ #[t, t2] ty #[x, y]) ρ v h h' w := by
      intro old h1 sCap gg st hnx hcap hlt hob hol hoc hgr
      obtain ⟨g1, ρ', g2, g3, g4⟩ := grow_ok gg hi hes hzs (by rw [hnx]; exact hob) (by rw [hnx]; exact hbn) (by rw [hol, hlen, Nat.add_eq, Nat.add_mul]) hgr sCap
      refine ⟨ρ', _, ?_, st.trans g2, g4⟩
      obtain ⟨f1, f2⟩ := fits (old := sCap) hlt g1
      rw [hx, hcap, g3, app_grow (ty := ty) hu hi hz (some (ρ.addr b off)) hs (run_firstCells_some (P := P) w.drew i.size len (ρ.addr b off) len sCap (concL ρ old) hol (by simpa using hoc)) hlt f2 f1]
      rfl
    have oldOf : ∀ {vs : V} {t' : Nat} {gr : Bool} {old : V}, h.get b = .cells vs t' gr → takeV (Nat.mul len i.size) (dropV off vs) = some old → (Bd h.next.toN old ∧ One old) ∧ (concL ρ old).length = len * i.size ∧
        ∀ (j : Nat) (v : Value), (concL ρ old)[j]? = some v → w.cell? ((ρ.addr b off).add j) = some v := by
      intro vs t' gr old ho hold
      obtain ⟨k1, k2, k3, k4⟩ := g.cells ho hold
      refine ⟨⟨k3, k4⟩, k2, fun j v hv => ?_⟩
      rw [addr_add]
      refine g.cell ho ?_
      rw [(takeV_ok (ρ := ρ) _ hold).1, concL_dropV, List.getElem?_take] at hv
      split at hv
      · rwa [List.getElem?_drop] at hv
      · cases hv
    cases c with
    | ex c =>
      have e3 : apC e' i.size bytes new n h b off len c = .ok v h' := e2
      unfold apC at e3
      cases hle : Nat.ble (Nat.add len n) c with
      | true =>
        rw [hle] at e3
        obtain ⟨vs, t', gr, ho, e4⟩ := onCells_ok e3
        obtain ⟨l, hl, e5⟩ := orO_ok e4
        obtain ⟨rfl, rfl⟩ := or_ok e5
        obtain ⟨w', k1, k2⟩ := Step.row g ho hl hbn.1 hbn.2
        refine ⟨ρ, w', ?_, k2, hxb⟩
        rw [hx]
        exact app_room hu hi hs (Nat.le_of_ble_eq_true hle) (by rw [addr_add]; exact k1)
      | false =>
        rw [hle] at e3
        have hlt : c < len + n := by
          rcases Nat.lt_or_ge c (len + n) with q | q
          · exact q
          · rw [show Nat.ble (Nat.add len n) c = true from Nat.ble_eq_true_of_le q] at hle; cases hle
        cases hl0 : Nat.beq len 0 with
        | true =>
          rw [hl0] at e3
          have hl0 := Nat.eq_of_beq_eq_true hl0
          subst hl0
          exact grown .nl h c g (Step.refl g) rfl rfl hlt ⟨trivial, trivial⟩ (by simp) (fun j v hv => by simp at hv) (by rw [Nat.add_eq, Nat.zero_add]; exact e3)
        | false =>
          rw [hl0] at e3
          obtain ⟨vs, t', gr, ho, e4⟩ := onCells_ok e3
          obtain ⟨old, hold, e5⟩ := orO_ok e4
          obtain ⟨o1, o2, o3⟩ := oldOf ho hold
          exact grown old h c g (Step.refl g) rfl rfl hlt o1 o2 o3 e5
    | op es' lim =>
      have e3 : onCells (apO e' i.size bytes new n h b off len es' lim) (h.get b) = .ok v h' := e2
      obtain ⟨vs, t', gr, ho, e4⟩ := onCells_ok e3
      obtain ⟨q1, e5⟩ := iff_ok e4
      obtain ⟨q2, e6⟩ := iff_ok e5
      obtain ⟨q3, e7⟩ := iff_ok e6
      have q1 := Nat.eq_of_beq_eq_true q1
      have q2 := Nat.eq_of_beq_eq_true q2
      subst q1 q2
      have q3 := Nat.le_of_ble_eq_true q3
      rw [lenV_eq (ρ := ρ)] at q3
      have hreal := g.real b
      have hbd := g.bd b
      rw [ho] at hreal hbd
      obtain ⟨C, r1, r2, r3, r4, r5⟩ := hreal
      have hvis : (concL ρ vs).length ≤ ρ.tot b := by
        rcases Nat.eq_zero_or_pos (concL ρ vs).length with q | q
        · omega
        · have := r5 _ _ (List.getElem?_eq_getElem (show (concL ρ vs).length - 1 < (concL ρ vs).length by omega))
          rcases Nat.lt_or_ge (ρ.base b + ((concL ρ vs).length - 1)) C.size with z | z
          · omega
          · rw [Array.getElem?_eq_none z] at this; cases this
      have hcap : capOf ρ b off (.op i.size lim) = (ρ.tot b - off) / i.size := by
        show (max lim (ρ.tot b) - off) / i.size = _
        rw [Nat.max_eq_right (by omega)]
      cases hlay : layAt new (Nat.add off (Nat.mul len i.size)) vs with
      | some l =>
        rw [hlay] at e7
        obtain ⟨rfl, rfl⟩ := or_ok (show OR.ok (.sl b off (Nat.add len n) (.op i.size lim)) (h.set b (.cells l t' gr)) = .ok v h' from e7)
        obtain ⟨w', k1, k2⟩ := Step.row g ho hlay hbn.1 hbn.2
        obtain ⟨_, l2⟩ := layAt_ok (ρ := ρ) _ _ hlay
        simp only [Nat.add_eq, Nat.mul_eq] at l2 k1
        rw [hlen] at l2
        refine ⟨ρ, w', ?_, k2, hxb⟩
        rw [hx]
        refine app_room hu hi hs ?_ (by rw [addr_add]; exact k1)
        rw [hcap, Nat.le_div_iff_mul_le (by omega), Nat.add_mul]
        omega
      | none =>
        rw [hlay] at e7
        obtain ⟨old, hold, e8⟩ := orO_ok (show orO (fun old => grow t' i.size bytes (Nat.add len n) old new (h.set b .gone)) (takeV (Nat.mul len i.size) (dropV off vs)) = .ok v h' from e7)
        obtain ⟨o1, o2, o3⟩ := oldOf ho hold
        have hnd : h.get b ≠ .dfr := by rw [ho]; intro q; cases q
        have hnl : isLoop (h.get b) = false := by rw [ho]; rfl
        have hng : isGlb (h.get b) = false := by rw [ho]; rfl
        rcases Nat.lt_or_ge ((ρ.tot b - off) / i.size) (len + n) with hlt | hge
        · exact grown old (h.set b .gone) _ (Step.kill g hnd hnl hng).g (Step.kill g hnd hnl hng) (H.next_set _ _ _) hcap hlt o1 o2 o3 e8
        · obtain ⟨hb, e9⟩ := iff_ok e8
          obtain ⟨rfl, rfl⟩ := or_ok (new_eq e9)
          have hroom : (len + n) * i.size ≤ ρ.tot b - off := (Nat.le_div_iff_mul_le (by omega)).1 hge
          rw [Nat.add_mul] at hroom
          have hnpos : 1 ≤ n * i.size := Nat.mul_pos hpos hes
          have hst := run_storeCells_at P (ρ.blk b) (ρ.base b + (off + len * i.size)) t' (concL ρ new) 0 C w r1 (by rw [hlen]; omega) (one_cells hbn.2)
          obtain ⟨CC, hCC⟩ : ∃ CC, CC = (C.toList.take (ρ.base b + (off + len * i.size) + 0) ++ concL ρ new ++ C.toList.drop (ρ.base b + (off + len * i.size) + 0 + (concL ρ new).length)).toArray := ⟨_, rfl⟩
          rw [← hCC] at hst
          have hnx : (h.set b .gone).next = h.next := H.next_set _ _ _
          have ag := ρ.upd_agree h.next (ρ.blk b) (ρ.base b + off) (ρ.tot b - off) i.size false
          have hwb : Bd h.next.toN (appV old new) := Bd.appV o1.1 hbn.1
          have heq := (conc_agree ag (appV old new) hwb).2
          refine ⟨ρ.upd h.next (ρ.blk b) (ρ.base b + off) (ρ.tot b - off) i.size false, w.setRow (ρ.blk b) CC, ?_, Step.turn g (by rw [ho]; trivial) hnd hnl hng (fun q hq => setRow_other _ _ _ _ hq) (by simp) rfl rfl rfl ⟨hwb, One.appV o1.2 hbn.2⟩ ?_, ?_⟩
          · rw [hx, hcap, app_room hu hi hs hge (by rw [addr_add]; exact hst)]
            have hc2 : capOf (ρ.upd h.next (ρ.blk b) (ρ.base b + off) (ρ.tot b - off) i.size false) h.next 0 (.op i.size (Nat.mul (Nat.add len n) i.size)) = (ρ.tot b - off) / i.size := by
              simp only [capOf, Rho.upd, if_true, Nat.sub_zero, Nat.mul_eq, Nat.add_eq]
              rw [Nat.max_eq_right (by rw [Nat.add_mul]; omega)]
            rw [hnx]
            simp only [conc, hc2]
            simp [Rho.addr, Rho.upd]
          · refine ⟨CC, ?_, ?_, fun q => (by cases q), ⟨i, hi, by simp [Rho.upd]⟩, fun k z hz' => ?_⟩
            · show _[if h.next = h.next then ρ.blk b else _]? = _
              rw [if_pos rfl]
              exact setRow_heap w (ρ.blk b) C _ t' _ r1
            · rw [hCC]
              simp only [Rho.upd, if_true, List.size_toArray, List.length_append, List.length_take, List.length_drop, Array.length_toList, hlen]
              omega
            · rw [← heq, concL_appV] at hz'
              rw [hCC]
              simp only [Rho.upd, if_true]
              have hklt : k < len * i.size + n * i.size := by
                rcases Nat.lt_or_ge k (len * i.size + n * i.size) with q | q
                · exact q
                · rw [List.getElem?_eq_none (by rw [List.length_append, o2, hlen]; exact q)] at hz'; cases hz'
              have hCl : C.toList.length = ρ.base b + ρ.tot b := by simpa using r2
              rcases Nat.lt_or_ge k (len * i.size) with h1 | h1
              · rw [List.getElem?_append_left (by omega)] at hz'
                rw [(takeV_ok (ρ := ρ) _ hold).1, concL_dropV, List.getElem?_take] at hz'
                split at hz'
                · rw [List.getElem?_drop] at hz'
                  have := r5 _ _ hz'
                  simp only [List.getElem?_toArray]
                  rw [List.append_assoc, List.getElem?_append_left (by simp only [List.length_take]; omega), List.getElem?_take, if_pos (by omega), Nat.add_assoc]
                  simpa using this
                · cases hz'
              · rw [List.getElem?_append_right (by omega), o2] at hz'
                simp only [List.getElem?_toArray]
                rw [List.getElem?_append_left (by simp only [List.length_append, List.length_take, hlen]; omega), List.getElem?_append_right (by simp only [List.length_take]; omega)]
                simp only [List.length_take]
                rw [show ρ.base b + off + k - min (ρ.base b + (off + len * i.size) + 0) C.toList.length = k - len * i.size from by omega]
                exact hz'
          · show (H.set b .gone h).next.toN < _
            rw [H.next_add]; omega
end
end Go.Ads
set_option autoImplicit false
set_option linter.unusedSimpArgs false
set_option linter.unusedVariables false
namespace Go.Ads
section
variable {P : Program} {tt : TT} {ρ : Rho} {h h' : H} {w w' : World} {v : V} {f : FR} {e : V} {inv : Inv} {r : Operand → Option Rf} {ev : Operand → Value}
theorem apK_zero {t es bytes : Nat} {a : V} (hes : 1 ≤ es) (he : apK t es bytes a h .nl 0 = .ok v h') : h' = h ∧ v = a ∧ ∃ base len cap, conc ρ a = .slice base len cap ∧ len ≤ cap := by
  have he : toSl (.ok a h) (fun b off len c => mxOk es off len len c (.ok a h)) a = .ok v h' := he
  rcases toSl_ok he with ⟨u, rfl, e2⟩ | ⟨b, off, len, c, rfl, e2⟩
  · obtain ⟨rfl, rfl⟩ := or_ok e2; exact ⟨rfl, rfl, none, 0, 0, by simp only [conc], Nat.le_refl _⟩
  · cases c with
    | ex n =>
      obtain ⟨q1, q2⟩ := iff_ok (show iff (Nat.ble len n) (.ok (.sl b off len (.ex n)) h) = .ok v h' from e2)
      obtain ⟨rfl, rfl⟩ := or_ok q2
      exact ⟨rfl, rfl, some (ρ.addr b off), len, capOf ρ b off (.ex n), by simp only [conc], Nat.le_of_ble_eq_true q1⟩
    | op es' lim =>
      obtain ⟨hee, e5⟩ := iff_ok (show iff (Nat.beq es' es) (iff (Nat.ble (Nat.add off (Nat.mul len es)) lim) (iff (Nat.ble len len) (.ok (.sl b off len (.op es' lim)) h))) = .ok v h' from e2)
      obtain ⟨hlim, e6⟩ := iff_ok e5
      obtain ⟨_, e7⟩ := iff_ok e6
      obtain ⟨rfl, rfl⟩ := or_ok e7
      have hee := Nat.eq_of_beq_eq_true hee
      subst hee
      have hlim := Nat.le_of_ble_eq_true hlim
      simp only [Nat.add_eq, Nat.mul_eq] at hlim
      refine ⟨rfl, rfl, some (ρ.addr b off), len, capOf ρ b off (.op es' lim), by simp only [conc], ?_⟩
      show len ≤ (max lim (ρ.tot b) - off) / es'
      rw [Nat.le_div_iff_mul_le (by omega)]
      have := Nat.le_max_left lim (ρ.tot b)
      omega
theorem ints_ok (n : Nat) : ∀ s : List Nat, concL ρ (ints s) = s.map (fun b => Value.int .u8 ((UInt8.ofNat b).toNat : Int)) ∧ Bd n (ints s) ∧ One (ints s) := by
  intro s
  induction s with
  | nil => exact ⟨by show concL ρ .nl = _; simp, trivial, trivial⟩
  | cons b s ih =>
    obtain ⟨h1, h2, h3⟩ := ih
    refine ⟨?_, ⟨trivial, h2⟩, ⟨trivial, h3⟩⟩
    show concL ρ (.cn (.int .u8 (.ofNat (Nat.mod b 256))) (ints s)) = _
    rw [concL_cn, h1, List.map_cons]
    simp only [conc]
    have : Nat.mod b 256 = (UInt8.ofNat b).toNat := by simp; rfl
    rw [this]; rfl
theorem ef_app (tk : TTok P tt) (g : G P tt ρ h w) (hr : Ops r ev ρ h.next.toN f e) {c : Call} {ty : TypeId} {io : IOp} (hb : c.callee = .builtin .append) (hc : ccall tt r c = some io) (he : opT inv io f e h = .ok v h') :
    Ef P tt (do let d ← resolve ev c ty; invoke d.target d.args) ρ v h h' w := by
  simp only [ccall, hb] at hc
  split at hc <;> first | (cases hc; cases he; done) | skip
  all_goals first | (rename_i e1 _; cases e1; done) | (rename_i e1 _ _; cases e1; done) | skip
  rename_i _ x y t t2 _ hx ht
  have hA : c.args = #[x, y] := Array.ext' (by simpa using hx)
  have hT : c.argTypes = #[t, t2] := Array.ext' (by simpa using ht)
  split at hc
  · rename_i e' j i2 hE hi2
    obtain ⟨hu, hj⟩ := elemS_ok tk hE
    split at hc
    · split at hc
      · rename_i z hes hby htt hz
        obtain ⟨a, b, ha, hb2, rfl⟩ := bin2_ok hc
        obtain ⟨h1, h2⟩ := hr _ _ ha
        obtain ⟨h3, h4⟩ := hr _ _ hb2
        have htt := Nat.eq_of_beq_eq_true htt
        subst htt
        have hes := Nat.le_of_ble_eq_true hes
        have hby := Nat.le_of_ble_eq_true hby
        obtain ⟨i, zv, hi, hzv, hcz, hbz, ⟨hoz, hlz⟩, hrz⟩ := zeroC_ok (ρ := ρ) tk hz
        rw [hj] at hi
        cases hi
        obtain ⟨q, q1, q2, q3, q4⟩ := info_of tk hj
        have red : (do let d ← resolve ev c ty; invoke d.target d.args : Sem Next) = (do pure (.value (← Builtin.append_ #[t, t] ty #[ev x, ev y])) : Sem Next) := by
          simp [resolve, hb, hA, hT, invoke, builtin]
        rw [red]
        have zero : ∀ s sc, ev y = .slice s 0 sc → apK e' j.size j.bytes (a.ev f e) h .nl 0 = .ok v h' → Ef P tt (do pure (.value (← Builtin.append_ #[t, t] ty #[ev x, ev y])) : Sem Next) ρ v h h' w := by
          intro s sc hy hk
          obtain ⟨rfl, rfl, base, len, cap, k1, k2⟩ := apK_zero (ρ := ρ) hes hk
          have hsrc : Src P q.size t (ev y) 0 [] w := by
            rw [hy]
            cases s with
            | none => exact Src.ofNil w hu sc
            | some A => exact Src.ofSlice w hu A 0 sc [] (by simp) (fun j u h => by simp at h) (fun u h => by cases h)
          exact ⟨ρ, w, .inl (by rw [h1, k1]; simp only [Sem.run_bind, app_zero hu q1 k2 w hsrc, Result.andThen_ok, Sem.run_pure]), Step.refl g, h2⟩
        rcases toSl_ok (show toSl (apK e' j.size j.bytes (a.ev f e) h .nl 0) (fun q off n _ => Bool.rec (onCells (fun vs _ _ => orO (fun l => apK e' j.size j.bytes (a.ev f e) h l n) (takeV (Nat.mul n j.size) (dropV off vs))) (h.get q)) (apK e' j.size j.bytes (a.ev f e) h .nl 0) (Nat.beq n 0)) (b.ev f e) = .ok v h' from he) with ⟨u, eb, e2⟩ | ⟨p, off, n, cp, eb, e2⟩
        · rw [eb] at h3
          simp only [conc] at h3
          exact zero _ _ h3 e2
        · rw [eb] at h3
          simp only [conc] at h3
          cases hn : Nat.beq n 0 with
          | true =>
            rw [hn] at e2
            have := Nat.eq_of_beq_eq_true hn
            subst this
            exact zero _ _ h3 e2
          | false =>
            rw [hn] at e2
            have hpos : 0 < n := by
              rcases Nat.eq_zero_or_pos n with z | z
              · rw [z] at hn; cases hn
              · exact z
            obtain ⟨vs, t', gr, ho, e3⟩ := onCells_ok e2
            obtain ⟨new, hnew, e4⟩ := orO_ok e3
            obtain ⟨k1, k2, k3, k4⟩ := g.cells ho hnew
            rw [← q3] at e4 hes
            have hsrc : Src P q.size t (ev y) n (concL ρ new) w := by
              rw [h3]
              refine Src.ofSlice w hu (ρ.addr p off) n _ (concL ρ new) (by rw [q3]; exact k2) (fun jj vv hv => ?_) (one_cells k4)
              rw [addr_add]
              refine g.cell ho ?_
              rw [(takeV_ok (ρ := ρ) _ hnew).1, concL_dropV, List.getElem?_take] at hv
              split at hv
              · rwa [List.getElem?_drop] at hv
              · cases hv
            have N : News P h ρ w q.size n new t (ev y) := ⟨hsrc, ⟨k3, k4⟩, hpos⟩
            exact (ap_ok g hu q1 (q2.trans hzv) (by rw [hcz, q3]; simpa using hlz) hes q4 hby h1 h2 N e4).next
      · cases hc; cases he
    · rename_i hu2
      have hi2u : P.underlying t2 = some .string := by rw [← hu2]; exact (tk t2 i2 hi2).1
      split at hc
      · rename_i z hes1 hby hz
        obtain ⟨a, b, ha, hb2, rfl⟩ := bin2_ok hc
        obtain ⟨h1, h2⟩ := hr _ _ ha
        obtain ⟨h3, h4⟩ := hr _ _ hb2
        have hes1 := Nat.eq_of_beq_eq_true hes1
        have hby := Nat.le_of_ble_eq_true hby
        obtain ⟨i, zv, hi, hzv, hcz, hbz, ⟨hoz, hlz⟩, hrz⟩ := zeroC_ok (ρ := ρ) tk hz
        rw [hj] at hi
        cases hi
        obtain ⟨q, q1, q2, q3, q4⟩ := info_of tk hj
        have red : (do let d ← resolve ev c ty; invoke d.target d.args : Sem Next) = (do pure (.value (← Builtin.append_ #[t, t2] ty #[ev x, ev y])) : Sem Next) := by
          simp [resolve, hb, hA, hT, invoke, builtin]
        rw [red]
        obtain ⟨s, eb, e2⟩ := toStr_ok (show toStr (fun s => apK e' j.size j.bytes (a.ev f e) h (ints s) (lenS s)) (b.ev f e) = .ok v h' from he)
        rw [eb] at h3
        simp only [conc] at h3
        have hq1 : q.size = 1 := q3.trans hes1
        obtain ⟨c1, c2, c3⟩ := ints_ok (ρ := ρ) h.next.toN s
        have hsz : (⟨(s.map UInt8.ofNat).toArray⟩ : ByteArray).size = s.length := by simp [ByteArray.size_mk']
        have hsrc : Src P q.size t2 (ev y) s.length (concL ρ (ints s)) w := by
          rw [h3, hq1, c1, ← hsz]
          have hbc : byteCells ⟨(s.map UInt8.ofNat).toArray⟩ = s.map (fun b => Value.int .u8 ((UInt8.ofNat b).toNat : Int)) := by
            show List.map _ (s.map UInt8.ofNat) = _
            rw [List.map_map]; rfl
          rw [← hbc]
          exact Src.ofString w hi2u ⟨(s.map UInt8.ofNat).toArray⟩
        rw [lenS_eq] at e2
        cases hl : s.length with
        | zero =>
          have hs0 : s = [] := List.eq_nil_of_length_eq_zero hl
          subst hs0
          obtain ⟨rfl, rfl, base, len, cap, k1, k2⟩ := apK_zero (ρ := ρ) (by omega : 1 ≤ j.size) e2
          have hsrc : Src P q.size t2 (ev y) 0 [] w := by simpa [c1] using hsrc
          exact ⟨ρ, w, .inl (by rw [h1, k1]; simp only [Sem.run_bind, app_zero hu q1 k2 w hsrc, Result.andThen_ok, Sem.run_pure]), Step.refl g, h2⟩
        | succ m =>
          have N : News P h ρ w q.size s.length (ints s) t2 (ev y) := ⟨hsrc, ⟨c2, c3⟩, by omega⟩
          rw [← q3] at e2
          exact (ap_ok g hu q1 (q2.trans hzv) (by rw [hcz, q3]; simpa using hlz) (by omega) q4 hby h1 h2 N e2).next
      · cases hc; cases he
    · cases hc; cases he
  · cases hc
end
end Go.Ads
set_option autoImplicit false
set_option linter.unusedSimpArgs false
set_option linter.unusedVariables false
namespace Go.Ads
section
variable {P : Program} {tt : TT} {ρ : Rho} {h h' : H} {w w' : World} {v : V} {f : FR} {e : V} {inv : Inv} {r : Operand → Option Rf} {ev : Operand → Value}
theorem modify_at {α : Type} {L : List α} {j : Nat} {e0 : α} (hj : L[j]? = some e0) {f1 f2 : α → α} (hf : f1 e0 = f2 e0) : L.modify j f1 = L.modify j f2 := by
  apply List.ext_getElem?
  intro i
  rw [List.getElem?_modify, List.getElem?_modify]
  by_cases q : j = i
  · subst q; rw [hj]; simp [hf]
  · simp [q]
theorem mapE_ok (tk : TTok P tt) {t : TypeId} {z : V} (hz : mapE tt t = some z) {kt e' : TypeId} (hu : P.underlying t = some (.map kt e')) : (∀ w, (zeroValue e').run P w = .ok (conc ρ z) w) ∧ ∀ n, Bd n z := by
  unfold mapE at hz
  split at hz
  · rename_i i hi
    split at hz
    · rename_i k2 e2 hm
      rw [(tk t i hi).1, hm] at hu
      cases hu
      unfold zeroV at hz
      split at hz
      · rename_i j hj
        split at hz
        · rename_i zv hzv
          obtain ⟨g1, g2⟩ := vOf_ok (ρ := ρ) hz
          obtain ⟨_, ⟨q, q1, q2, _⟩, _⟩ := tk e' j hj
          exact ⟨fun w => by simp [zeroValue, typeInfo, q1, q2, hzv, g1], g2⟩
        · cases hz
      · cases hz
    · cases hz
  · cases hz
theorem nw_ent (tk : TTok P tt) (g : G P tt ρ h w) (hr : Ops r ev ρ h.next.toN f e) {t : TypeId} {mp k : Operand} {io : IOp} (hc : cio tt r (.mapEntry t mp k) = some io)
    (he : opT inv io f e h = .ok v h') : Nw P tt (Instr.mapEntry t (ev mp) (ev k)) ρ v h h' w := by
  simp only [cio] at hc
  split at hc
  · rename_i sh z hsh hz
    obtain ⟨kt, e', kd, hu, hk, hkd⟩ := keySh_ok tk hsh
    obtain ⟨hzr, hzb⟩ := mapE_ok (ρ := ρ) tk hz hu
    obtain ⟨a, b, ha, hb, rfl⟩ := bin2_ok hc
    obtain ⟨h1, _⟩ := hr _ _ ha
    obtain ⟨h2, h2b⟩ := hr _ _ hb
    rcases toMap_ok he with ⟨u, ea, e2⟩ | ⟨mb, u, ea, e2⟩
    · cases e2
    · obtain ⟨es, cl, hmp, e3⟩ := onMap_ok e2
      obtain ⟨hw, hbm⟩ := g.mapAt hmp
      rw [ea] at h1
      simp only [conc] at h1
      cases hfm : findM sh (b.ev f e) es with
      | bad => rw [hfm] at e3; cases e3
      | no =>
        rw [hfm] at e3
        obtain ⟨rfl, rfl⟩ := or_ok e3
        have hnow := (find_ok (ρ := ρ) hkd (b.ev f e) es 0).1 hfm
        refine ⟨ρ, _, ?_, Step.map g hmp (bd_addM h2b (hzb _) cl hbm), ?_⟩
        · rw [← h2] at hnow
          simp only [Instr.mapEntry, Sem.run_bind, run_underlying hu, Result.andThen_ok, h1, run_getMap hw, checkKey_run hk hkd, Instr.findKey, run_underlying hk, hnow, hzr, Sem.run_pure, run_setMap _ hw]
          rw [concM_addM, ← h2]
          simp [two, conc, goInt]
        · exact ⟨hzb _, trivial, trivial⟩
      | yes x0 b0 =>
        rw [hfm] at e3
        obtain ⟨rfl, rfl⟩ := or_ok e3
        obtain ⟨j, e0, a1, a2, a3, a4, a5, a6⟩ := put_ok (ρ := ρ) hkd (b.ev f e) x0 es 0 x0 b0 hfm
        have hb0 := find_bd hbm hfm
        refine ⟨ρ, _, ?_, Step.map g hmp (bd_putM h2b hb0 hbm), ⟨hb0, trivial, trivial⟩⟩
        rw [← h2] at a4 a5 a6
        simp only [Nat.zero_add] at a5
        have hge : (concM ρ es).toArray[j]? = some e0 := by simpa using a1
        have hmod : (concM ρ es).modify j (fun e => { e with key := ev k }) = (concM ρ es).modify j (fun e => { e with key := ev k, val := conc ρ x0 }) := modify_at a1 (by rw [← a2])
        simp only [Instr.mapEntry, Sem.run_bind, run_underlying hu, Result.andThen_ok, h1, run_getMap hw, checkKey_run hk hkd, Instr.findKey, run_underlying hk, a5, Sem.run_pure, hge, Option.map_some, Option.getD_some, Instr.keyThatStays, a4, if_true, run_setMap _ hw, a3]
        rw [a6, ← hmod]
        simp [two, conc, goInt]
  · cases hc; cases he
theorem stamp_ok {s : Nat} {x : V} : ∀ {es es' : ME}, stampM s x es = some es' → ∃ j, (concM ρ es).findIdx? (fun e => (e.born : Int) == (s : Int)) = some j ∧ concM ρ es' = (concM ρ es).modify j (fun e => { e with val := conc ρ x }) ∧
    ∀ n, BdM n es → Bd n x → BdM n es' := by
  intro es
  induction es with
  | nl => intro es' h; cases h
  | cn k y b t ih =>
    intro es' h
    change (Bool.rec (Option.rec none (fun r => some (.cn k y b r)) (stampM s x t)) (some (.cn k x b t)) (Nat.beq b s) : Option ME) = some es' at h
    cases hb : Nat.beq b s with
    | true =>
      rw [hb] at h
      cases h
      have hb := Nat.eq_of_beq_eq_true hb
      subst hb
      exact ⟨0, by simp [concM, List.findIdx?_cons], rfl, fun n h1 h2 => ⟨h1.1, h2, h1.2.2⟩⟩
    | false =>
      rw [hb] at h
      cases ht : stampM s x t with
      | none => rw [ht] at h; cases h
      | some r =>
        rw [ht] at h
        cases h
        obtain ⟨j, h1, h2, h3⟩ := ih ht
        have hne : ¬ ((b : Int) = (s : Int)) := fun q => by rw [show b = s from by omega, Nat.beq_refl] at hb; cases hb
        refine ⟨j + 1, ?_, ?_, fun n g1 g2 => ⟨g1.1, g1.2.1, h3 n g1.2.2 g2⟩⟩
        · simp only [concM, List.findIdx?_cons]
          have : (((b : Int) == (s : Int)) : Bool) = false := by simpa using hne
          simp [this, h1]
        · show _ :: concM ρ r = _
          rw [h2]; rfl
theorem ef_entst (g : G P tt ρ h w) (hr : Ops r ev ρ h.next.toN f e) {t : TypeId} {mp s x : Operand} {io : IOp} (hc : tri3 r .entst mp s x = some io)
    (he : opT inv io f e h = .ok v h') : v = .un ∧ ∃ w', (Instr.entryStore t (ev mp) (ev s) (ev x)).run P w = .ok () w' ∧ Step P tt ρ h w ρ h' w' := by
  obtain ⟨a, b, c, ha, hb, hcx, rfl⟩ := tri3_ok hc
  obtain ⟨h1, _⟩ := hr _ _ ha
  obtain ⟨h2, h2b⟩ := hr _ _ hb
  obtain ⟨h3, h3b⟩ := hr _ _ hcx
  rcases toMap_ok he with ⟨u, ea, e2⟩ | ⟨mb, u, ea, e2⟩
  · cases e2
  · obtain ⟨es, cl, hmp, e3⟩ := onMap_ok e2
    obtain ⟨jk, n, eb, e4⟩ := toNat_ok e3
    obtain ⟨es', hst, e5⟩ := orec_ok e4
    obtain ⟨rfl, rfl⟩ := or_ok e5
    obtain ⟨hw, hbm⟩ := g.mapAt hmp
    rw [ea] at h1
    rw [eb] at h2
    simp only [conc] at h1 h2
    obtain ⟨j, k1, k2, k3⟩ := stamp_ok (ρ := ρ) hst
    refine ⟨rfl, _, ?_, Step.map g hmp (k3 _ hbm h3b)⟩
    have k1' : (concM ρ es).toArray.findIdx? (fun e => (e.born : Int) == (n : Int)) = some j := by simpa using k1
    simp only [Instr.entryStore, Sem.run_bind, h1, Sem.run_pure, Result.andThen_ok, run_getMap hw, h2, asInt, asIntOf, k1', run_setMap _ hw]
    rw [k2, ← h3]
    simp
end
end Go.Ads
set_option autoImplicit false
set_option linter.unusedSimpArgs false
set_option linter.unusedVariables false
namespace Go.Ads
section
variable {P : Program} {tt : TT} {ρ : Rho} {h h' : H} {w w' : World} {v : V} {f : FR} {e : V} {inv : Inv} {r : Operand → Option Rf} {ev : Operand → Value}
theorem Step.iter (g : G P tt ρ h w) {m : Option B} {s l : Nat} (hm : ∀ b, m = some b → b.toN < h.next.toN) :
    Step P tt ρ h w (ρ.upd h.next w.heap.size 0 0 0 false) (h.add (.iter m s [] l)) (w.alloc (.mapIter (m.map ρ.blk) s #[] l)) := by
  refine Step.add g (fun r hr => ?_) (by rw [World.size_alloc]; omega) rfl rfl rfl hm ?_ (fun _ => Nat.le_refl _)
  · show (w.heap.push _)[r]? = _
    rw [Array.getElem?_push, if_neg (by omega)]
  · refine ⟨?_, by simp [Rho.upd]⟩
    show (w.heap.push _)[if h.next = h.next then w.heap.size else _]? = _
    have : m.map (ρ.upd h.next w.heap.size 0 0 0 false).blk = m.map ρ.blk := by
      cases m with
      | none => rfl
      | some b =>
        have := hm b rfl
        have hne : b ≠ h.next := fun q => by rw [q] at this; omega
        simp [Rho.upd, hne]
    rw [this]
    simp
theorem nw_range (tk : TTok P tt) (g : G P tt ρ h w) (hr : Ops r ev ρ h.next.toN f e) {t : TypeId} {x : Operand} {io : IOp} (hc : cio tt r (.range t x) = some io) (he : opT inv io f e h = .ok v h') :
    Nw P tt (Instr.range t (ev x)) ρ v h h' w := by
  simp only [cio] at hc
  split at hc
  · rename_i i hi
    split at hc
    · rename_i k e' hm
      obtain ⟨a, ha, rfl⟩ := un1_ok hc
      obtain ⟨h1, h2⟩ := hr _ _ ha
      have hu : P.underlying t = some (.map k e') := by rw [(tk t i hi).1, hm]
      rcases toMap_ok he with ⟨u, ea, e2⟩ | ⟨b, u, ea, e2⟩
      · obtain ⟨rfl, rfl⟩ := or_ok (new_eq (show H.new okP (.iter none 0 [] 0) h = .ok v h' from e2))
        rw [ea] at h1
        simp only [conc] at h1
        refine ⟨_, _, ?_, Step.iter g (m := none) (fun b q => by cases q), ?_⟩
        · rw [upd_ptr]; simp [Instr.range, run_underlying hu, h1]
        · show h.next.toN < _
          rw [H.next_add]; omega
      · obtain ⟨es, cl, hmp, e3⟩ := onMap_ok e2
        obtain ⟨rfl, rfl⟩ := or_ok (new_eq (show H.new okP (.iter (some b) cl [] cl) h = .ok v h' from e3))
        rw [ea] at h1 h2
        simp only [conc] at h1
        obtain ⟨hw, _⟩ := g.mapAt hmp
        refine ⟨_, _, ?_, Step.iter g (m := some b) (fun c q => by cases q; exact h2.1), ?_⟩
        · rw [upd_ptr]; simp [Instr.range, run_underlying hu, h1, run_getMap hw]
        · show h.next.toN < _
          rw [H.next_add]; omega
    · cases hc; cases he
  · cases hc
end
end Go.Ads
set_option autoImplicit false
set_option linter.unusedSimpArgs false
set_option linter.unusedVariables false
namespace Go.Ads
section
variable {P : Program} {tt : TT} {ρ : Rho} {h h' : H} {w w' : World} {v : V} {f : FR} {e : V} {inv : Inv} {r : Operand → Option Rf} {ev : Operand → Value}
theorem run_getIter {b : Nat} {m : Option Nat} {s l : Nat} {n : Array Nat} (h : w.heap[b]? = some (.mapIter m s n l)) : (getObj b).run P w = .ok (.mapIter m s n l) w := by simp [getObj, Sem.run, h]
theorem run_setIter {b : Nat} {m : Option Nat} {s l : Nat} {n : Array Nat} (o : Obj) (h : w.heap[b]? = some (.mapIter m s n l)) : (setObj b o).run P w = .ok () (w.putObj b o) := by simp [setObj, Sem.run, h, World.putObj]
theorem isAt_ok {es : ME} {k : Bool → V → V → Nat → OR} {z : OR} (he : isAt es k z = .ok v h') : (es = .nl ∧ z = .ok v h') ∨ ∃ key x b t, es = .cn key x b t ∧ k (ME.rec true (fun _ _ _ _ _ => false) t) key x b = .ok v h' := by
  cases es with
  | nl => exact .inl ⟨rfl, he⟩
  | cn key x b t => exact .inr ⟨key, x, b, t, rfl, he⟩
theorem nw_next (g : G P tt ρ h w) (hr : Ops r ev ρ h.next.toN f e) {ty : TypeId} {x : Operand} {io : IOp} (hc : un1 r .nxt x = some io) (he : opT inv io f e h = .ok v h') :
    Nw P tt (Instr.next (ev x) false ty) ρ v h h' w := by
  obtain ⟨a, ha, rfl⟩ := un1_ok hc
  obtain ⟨h1, h2⟩ := hr _ _ ha
  obtain ⟨i, off, ea, e2⟩ := toPtr_ok he
  obtain ⟨hoff, e3⟩ := iff_ok e2
  have hoff := Nat.eq_of_beq_eq_true hoff
  subst hoff
  obtain ⟨m, since, seen, last, hi, e4⟩ := onIter_ok e3
  have hreal := g.real i
  have hbd := g.bd i
  rw [hi] at hreal hbd
  obtain ⟨hw, hbase⟩ := hreal
  rw [ea] at h1 h2
  simp only [conc, Rho.addr, hbase] at h1
  cases m with
  | none =>
    obtain ⟨rfl, rfl⟩ := or_ok (show noMore h = .ok v h' from e4)
    exact ⟨ρ, w, by simp [Instr.next, h1, run_getIter hw, conc], Step.refl g, trivial, trivial⟩
  | some mb =>
    obtain ⟨es, cl, hmp, e5⟩ := onMap_ok e4
    obtain ⟨hm, hbm⟩ := g.mapAt hmp
    rcases isAt_ok e5 with ⟨rfl, e6⟩ | ⟨key, y, b, t, rfl, e6⟩
    · obtain ⟨rfl, rfl⟩ := or_ok e6
      exact ⟨ρ, w, by simp [Instr.next, h1, run_getIter hw, run_getMap hm, concM, Question.forced, conc], Step.refl g, trivial, trivial⟩
    · obtain ⟨hon, e7⟩ := iff_ok e6
      have ht : t = .nl := by cases t with | nl => rfl | cn _ _ _ _ => cases hon
      subst ht
      cases seen with
      | nil =>
        obtain ⟨hlt, e8⟩ := iff_ok e7
        have hlt := blt_iff.1 hlt
        obtain ⟨rfl, rfl⟩ := or_ok e8
        have hlive : Live ρ i (h.get i) := by rw [hi]; trivial
        have hlti : ρ.blk i < w.heap.size := (Array.getElem?_eq_some_iff.1 hw).1
        refine ⟨ρ, w.putObj (ρ.blk i) (.mapIter (some (ρ.blk mb)) since #[b] cl), ?_, Step.set g hlive (fun q hq => World.putObj_heap_other hq) World.putObj_size rfl rfl rfl hbd ⟨World.putObj_heap_same hlti, hbase⟩ (by rw [hi]; intro q; cases q) (by rw [hi]; intro q; cases q), ?_⟩
        · have hge : ¬ since ≤ b := by omega
          simp [Instr.next, h1, run_getIter hw, run_getMap hm, concM, Question.forced, conc, hlt, hge, run_setIter _ hw]
        · exact ⟨trivial, hbm.1.mono (by rw [H.next_set]; exact Nat.le_refl _), hbm.2.1.mono (by rw [H.next_set]; exact Nat.le_refl _), trivial⟩
      | cons b' rest =>
        cases rest with
        | cons _ _ => cases e7
        | nil =>
          obtain ⟨hbb, e8⟩ := iff_ok (show iff (Nat.beq b b') (iff (Nat.blt b last) (noMore h)) = .ok v h' from e7)
          obtain ⟨hlt, e9⟩ := iff_ok e8
          have hbb := Nat.eq_of_beq_eq_true hbb
          subst hbb
          have hlt := blt_iff.1 hlt
          obtain ⟨rfl, rfl⟩ := or_ok e9
          have hge : ¬ last ≤ b := by omega
          exact ⟨ρ, w, by simp [Instr.next, h1, run_getIter hw, run_getMap hm, concM, Question.forced, conc, hge], Step.refl g, trivial, trivial⟩
theorem nw_entry (g : G P tt ρ h w) (hr : Ops r ev ρ h.next.toN f e) {x : Operand} {io : IOp} (hc : un1 r .entry x = some io) (he : opT inv io f e h = .ok v h') :
    Nw P tt (Instr.entry (ev x)) ρ v h h' w := by
  obtain ⟨a, ha, rfl⟩ := un1_ok hc
  obtain ⟨h1, h2⟩ := hr _ _ ha
  obtain ⟨i, off, ea, e2⟩ := toPtr_ok he
  obtain ⟨hoff, e3⟩ := iff_ok e2
  have hoff := Nat.eq_of_beq_eq_true hoff
  subst hoff
  obtain ⟨m, since, seen, last, hi, e4⟩ := onIter_ok e3
  have hreal := g.real i
  rw [hi] at hreal
  obtain ⟨hw, hbase⟩ := hreal
  rw [ea] at h1 h2
  simp only [conc, Rho.addr, hbase] at h1
  cases m with
  | none => cases e4
  | some mb =>
    obtain ⟨es, cl, hmp, e5⟩ := onMap_ok e4
    obtain ⟨hm, hbm⟩ := g.mapAt hmp
    rcases isAt_ok e5 with ⟨rfl, e6⟩ | ⟨key, y, b, t, rfl, e6⟩
    · cases e6
    · obtain ⟨hon, e7⟩ := iff_ok e6
      have ht : t = .nl := by cases t with | nl => rfl | cn _ _ _ _ => cases hon
      subst ht
      cases seen with
      | nil => cases e7
      | cons b' rest =>
        cases rest with
        | cons _ _ => cases e7
        | nil =>
          obtain ⟨hbb, e8⟩ := iff_ok (show iff (Nat.beq b b') (iff (Nat.beq cl last) (.ok (two key y) h)) = .ok v h' from e7)
          obtain ⟨hcl, e9⟩ := iff_ok e8
          have hbb := Nat.eq_of_beq_eq_true hbb
          have hcl := Nat.eq_of_beq_eq_true hcl
          subst hbb hcl
          obtain ⟨rfl, rfl⟩ := or_ok e9
          exact ⟨ρ, w, by simp [Instr.entry, h1, run_getIter hw, run_getMap hm, concM, conc, two], Step.refl g, hbm.1, hbm.2.1, trivial⟩
end
end Go.Ads
set_option autoImplicit false
set_option linter.unusedSimpArgs false
set_option linter.unusedVariables false
namespace Go.Ads
section
variable {P : Program} {tt : TT} {ρ : Rho} {h h' : H} {w w' : World} {v : V} {f : FR} {e : V} {inv : Inv} {r : Operand → Option Rf} {ev : Operand → Value}
theorem ef_sdata (tk : TTok P tt) (g : G P tt ρ h w) (hr : Ops r ev ρ h.next.toN f e) {c : Call} {ty : TypeId} {io : IOp} (hb : c.callee = .builtin .unsafeSliceData) (hc : ccall tt r c = some io) (he : opT inv io f e h = .ok v h') :
    Ef P tt (do let d ← resolve ev c ty; invoke d.target d.args) ρ v h h' w := by
  simp only [ccall, hb] at hc
  split at hc <;> first | (cases hc; cases he; done) | skip
  all_goals first | (rename_i e1 _; cases e1; done) | (rename_i e1 _ _; cases e1; done) | skip
  rename_i _ x t _ hx ht
  have hA : c.args = #[x] := Array.ext' (by simpa using hx)
  split at hc
  · rename_i e' j hE
    split at hc
    · obtain ⟨a, ha, rfl⟩ := un1_ok hc
      obtain ⟨h1, h2⟩ := hr _ _ ha
      have red : (do let d ← resolve ev c ty; invoke d.target d.args : Sem Next) = (do pure (.value (← Builtin.unsafeSliceData_ c.argTypes ty #[ev x])) : Sem Next) := by
        simp [resolve, hb, hA, invoke, builtin]
      rw [red]
      rcases toSl_ok he with ⟨u, ea, e2⟩ | ⟨b, off, n, cp, ea, e2⟩
      · obtain ⟨rfl, rfl⟩ := or_ok e2
        rw [ea] at h1
        simp only [conc] at h1
        refine ⟨ρ, w, .inl ?_, Step.refl g, trivial⟩
        rw [h1, Sem.run_bind, Lib.run_unsafeSliceData_nil]
        simp only [Result.andThen_ok, Sem.run_pure, conc]
      · obtain ⟨hn, e3⟩ := iff_ok e2
        have hn := Nat.le_of_ble_eq_true hn
        rw [ea] at h1 h2
        simp only [conc] at h1
        have fin : capOf ρ b off cp ≠ 0 → (.ptr b off = v ∧ h = h') → Ef P tt (do pure (.value (← Builtin.unsafeSliceData_ c.argTypes ty #[ev x])) : Sem Next) ρ v h h' w := by
          rintro hcap ⟨rfl, rfl⟩
          refine ⟨ρ, w, .inl ?_, Step.refl g, h2⟩
          rw [h1, Sem.run_bind, Lib.run_unsafeSliceData_row _ _ _ _ _ _ hcap]
          simp only [Result.andThen_ok, Sem.run_pure, conc]
        cases cp with
        | ex m =>
          obtain ⟨q1, q2⟩ := iff_ok (show iff (Nat.ble n m) (.ok (.ptr b off) h) = .ok v h' from e3)
          have := Nat.le_of_ble_eq_true q1
          exact fin (by show m ≠ 0; omega) (or_ok q2)
        | op es' lim =>
          obtain ⟨hee, e5⟩ := iff_ok (show iff (Nat.beq es' 1) (iff (Nat.ble (Nat.add off (Nat.mul n 1)) lim) (iff (Nat.ble n n) (.ok (.ptr b off) h))) = .ok v h' from e3)
          obtain ⟨hlim, e6⟩ := iff_ok e5
          obtain ⟨_, e7⟩ := iff_ok e6
          have hee := Nat.eq_of_beq_eq_true hee
          subst hee
          have hlim := Nat.le_of_ble_eq_true hlim
          simp only [Nat.add_eq, Nat.mul_eq, Nat.mul_one] at hlim
          refine fin ?_ (or_ok e7)
          show (max lim (ρ.tot b) - off) / 1 ≠ 0
          have := Nat.le_max_left lim (ρ.tot b)
          rw [Nat.div_one]; omega
    · cases hc; cases he
  · cases hc; cases he
theorem liesAt_off {e : TypeId} (hc : P.cellsOf e = 1) (count off n : Nat) (hn : off + n ≤ count) : liesAt P P.depth e count off e n = true := by
  have hd : P.depth = (2 * (P.types.size + Made.depth) + 1) + 1 := rfl
  rw [hd]
  simp only [liesAt, Bool.or_eq_true]
  left
  rw [hd]
  simp [rowAt, hc, hn, sameLayout, Nat.mod_one]
theorem run_loadBytes' (w : World) : ∀ (l : List Nat) (a : Addr) (acc : ByteArray), (∀ (j : Nat) (x : Nat), l[j]? = some x → w.cell? (a.add j) = some (.int .u8 x)) →
    (loadBytes a acc l.length).run P w = .ok ⟨acc.data ++ (l.map UInt8.ofNat).toArray⟩ w
  | [], a, acc, _ => by simp [loadBytes]
  | x :: l, a, acc, h => by
    have h0 : w.cell? a = some (.int .u8 x) := by
      have := h 0 x rfl
      simpa [Addr.add] using this
    have ih := run_loadBytes' w l (a.add 1) (acc.push (UInt8.ofNat x)) (fun j y hy => by
      have := h (j + 1) y (by simpa using hy)
      have e : (a.add 1).add j = a.add (j + 1) := by
        unfold Addr.add
        by_cases hj : j = 0
        · subst hj; simp
        · simp [hj]; omega
      rw [e]; exact this)
    have hx : ((x : Int).toNat).toUInt8 = UInt8.ofNat x := by simp
    simp only [List.length_cons, loadBytes, Sem.run_bind, run_load, h0, Result.andThen, hx]
    rw [ih]
    congr 1
    apply ByteArray.ext
    simp [ByteArray.push]
theorem freeze_other (w : World) (a : Addr) (n : Nat) {r : Nat} (h : r ≠ a.block) : (w.freeze a n).heap[r]? = w.heap[r]? := by
  unfold World.freeze
  split
  · rfl
  · simp only [Array.getElem?_modify]
    rw [if_neg (fun e => h e.symm)]
theorem freeze_rest (w : World) (a : Addr) (n : Nat) : (w.freeze a n).heap.size = w.heap.size ∧ (w.freeze a n).os = w.os ∧ (w.freeze a n).output = w.output ∧ (w.freeze a n).tape = w.tape := by
  unfold World.freeze
  split
  · exact ⟨rfl, rfl, rfl, rfl⟩
  · exact ⟨by simp, rfl, rfl, rfl⟩
theorem run_ustr {pt it ty e : TypeId} (hp : P.underlying pt = some (.pointer e)) (hc : P.cellsOf e = 1) (w : World) (g off cells : Nat) (hsh : w.shape? g = some (e, cells)) (l : List Nat) (h0 : l.length ≠ 0) (hn : off + l.length ≤ cells) (h63 : l.length ≤ 1000000000)
    (hcell : ∀ (j : Nat) (x : Nat), l[j]? = some x → w.cell? ((⟨g, off, none⟩ : Addr).add j) = some (.int .u8 x)) :
    (Builtin.unsafeString_ #[pt, it] ty #[.pointer (some ⟨g, off, none⟩), .int .i64 l.length]).run P w = .ok (.string ⟨(l.map UInt8.ofNat).toArray⟩) (w.freeze ⟨g, off, none⟩ l.length) := by
  have hlb := run_loadBytes' (P := P) w l ⟨g, off, none⟩ .empty hcell
  have hlies := liesAt_off (P := P) hc (cells / P.cellsOf e) off l.length (by rw [hc]; simpa using hn)
  have h63' : ¬ (9223372036854775807 : Int) < (l.length : Int) := by omega
  have hdef : Builtin.unsafeString_ #[pt, it] ty #[.pointer (some ⟨g, off, none⟩), .int .i64 l.length] =
      (do
        let n ← asInt (.int .i64 l.length)
        if n < 0 then runtimePanic (.error "unsafe.String: len out of range")
        if n > IntKind.i64.max then unsupported (.unsafePointer "String: a length above the largest int")
        if n = 0 then pure (.string .empty)
        else if ← variablesAt ⟨g, off, none⟩ (← elemOf pt) n.toNat then do
          let s ← loadBytes ⟨g, off, none⟩ .empty n.toNat
          freeze ⟨g, off, none⟩ n.toNat
          pure (.string s)
        else unsupported (.unsafePointer "String: not so many bytes at ptr")) := rfl
  rw [hdef]
  have hmax : IntKind.i64.max = 9223372036854775807 := rfl
  have hneg : ¬ (l.length : Int) < 0 := by omega
  simp [asInt, asIntOf, hmax, h63', hneg, h0, variablesAt, hsh, elemOf, run_underlying hp, hlies, hlb]
theorem ef_ustr (tk : TTok P tt) (g : G P tt ρ h w) (hr : Ops r ev ρ h.next.toN f e) {c : Call} {ty : TypeId} {io : IOp} (hb : c.callee = .builtin .unsafeString) (hc : ccall tt r c = some io) (he : opT inv io f e h = .ok v h') :
    Ef P tt (do let d ← resolve ev c ty; invoke d.target d.args) ρ v h h' w := by
  simp only [ccall, hb] at hc
  split at hc <;> first | (cases hc; cases he; done) | skip
  all_goals first | (rename_i e1 _; cases e1; done) | (rename_i e1 _ _; cases e1; done) | skip
  rename_i _ x y t t2 _ hx ht
  have hA : c.args = #[x, y] := Array.ext' (by simpa using hx)
  have hT : c.argTypes = #[t, t2] := Array.ext' (by simpa using ht)
  split at hc
  · rename_i i hi
    split at hc
    · rename_i el hu
      split at hc
      · rename_i j hj
        split at hc
        · rename_i hs1
          have hs1 := Nat.eq_of_beq_eq_true hs1
          have hp : P.underlying t = some (.pointer el) := by rw [← hu]; exact (tk t i hi).1
          obtain ⟨q, q1, _, q3, _⟩ := info_of tk hj
          have hcell1 : P.cellsOf el = 1 := by unfold Program.cellsOf; rw [q1]; simp [q3, hs1]
          obtain ⟨a, b, ha, hb2, rfl⟩ := bin2_ok hc
          obtain ⟨h1, h2⟩ := hr _ _ ha
          obtain ⟨h3, h4⟩ := hr _ _ hb2
          have red : (do let d ← resolve ev c ty; invoke d.target d.args : Sem Next) = (do pure (.value (← Builtin.unsafeString_ #[t, t2] ty #[ev x, ev y])) : Sem Next) := by
            simp [resolve, hb, hA, hT, invoke, builtin]
          rw [red]
          obtain ⟨k, n, en, e2⟩ := toInt_ok he
          obtain ⟨m, rfl, e3⟩ := inat_ok e2
          obtain ⟨hk, e4⟩ := iff_ok e3
          obtain ⟨hm, e5⟩ := iff_ok e4
          have hk := keq_eq hk
          subst hk
          have hm := Nat.le_of_ble_eq_true hm
          rw [en] at h3
          simp only [conc] at h3
          cases hm0 : Nat.beq m 0 with
          | true =>
            rw [hm0] at e5
            have hm0 := Nat.eq_of_beq_eq_true hm0
            subst hm0
            have fin : ∀ p, ev x = .pointer p → v = .str [] → h' = h → Ef P tt (do pure (.value (← Builtin.unsafeString_ #[t, t2] ty #[ev x, ev y])) : Sem Next) ρ v h h' w := by
              rintro p hp' rfl rfl
              refine ⟨ρ, w, .inl ?_, Step.refl g, trivial⟩
              rw [hp', h3, Sem.run_bind]
              have := Lib.run_unsafeString_none (P := P) w t t2 ty p
              simp only [Int.natCast_zero] at *
              rw [this]
              simp only [Result.andThen_ok, Sem.run_pure, conc]
              rfl
            cases hav : a.ev f e with
            | x tg u =>
              rw [hav] at e5 h1
              cases tg with
              | nilp =>
                simp only [conc] at h1
                obtain ⟨z1, z2⟩ := or_ok (show OR.ok (.str []) h = .ok v h' from e5)
                exact fin _ h1 z1.symm z2.symm
              | _ => cases e5
            | ptr b off =>
              rw [hav] at e5 h1
              simp only [conc] at h1
              obtain ⟨z1, z2⟩ := or_ok (show OR.ok (.str []) h = .ok v h' from e5)
              exact fin _ h1 z1.symm z2.symm
            | _ => rw [hav] at e5; cases e5
          | false =>
            rw [hm0] at e5
            have hm1 : m ≠ 0 := fun z => by rw [z] at hm0; cases hm0
            obtain ⟨b, off, ea, e6⟩ := toPtr_ok (show ustrP el m h (a.ev f e) = .ok v h' from e5)
            obtain ⟨vs, t', gr, ho, e7⟩ := onCells_ok e6
            obtain ⟨ht', e8⟩ := iff_ok e7
            have ht' := Nat.eq_of_beq_eq_true ht'
            subst ht'
            obtain ⟨l, hl, e9⟩ := orO_ok e8
            obtain ⟨s, hs, e10⟩ := orec_ok e9
            obtain ⟨rfl, rfl⟩ := or_ok e10
            rw [ea] at h1
            simp only [conc] at h1
            obtain ⟨t1, t2'⟩ := takeV_ok (ρ := ρ) _ hl
            have hby := bytesV_ok (ρ := ρ) hs
            have hreal := g.real b
            rw [ho] at hreal
            obtain ⟨C, r1, r2, r3, r4, r5⟩ := hreal
            have hlen : s.length = m := by
              have := congrArg List.length hby
              rw [t1, List.length_take, List.length_map] at this
              omega
            have hcellAt : ∀ (jj : Nat) (xx : Nat), s[jj]? = some xx → (concL ρ vs)[off + jj]? = some (.int .u8 xx) := by
              intro jj xx hxx
              have h5 : (concL ρ l)[jj]? = some (.int .u8 xx) := by rw [hby]; simp [hxx]
              rw [t1, List.getElem?_take] at h5
              split at h5
              · rwa [concL_dropV, List.getElem?_drop] at h5
              · cases h5
            have hroom : ρ.base b + off + m ≤ C.size := by
              obtain ⟨xx, hxx⟩ : ∃ xx, s[m - 1]? = some xx := ⟨_, List.getElem?_eq_getElem (by omega)⟩
              have := r5 _ _ (hcellAt _ _ hxx)
              have := (Array.getElem?_eq_some_iff.1 this).1
              omega
            have hrun := run_ustr (P := P) (pt := t) (it := t2) (ty := ty) hp hcell1 w (ρ.blk b) (ρ.base b + off) C.size (by simp [World.shape?, r1]) s (by omega) (by omega) (by omega) (fun jj xx hxx => by
              have := g.cell ho (hcellAt jj xx hxx)
              rw [← this]
              have := addr_add (ρ := ρ) b off jj
              unfold Rho.addr at this ⊢
              rw [this])
            rw [hlen] at hrun
            obtain ⟨f1, f2, f3, f4⟩ := freeze_rest w ⟨ρ.blk b, ρ.base b + off, none⟩ m
            refine ⟨ρ, w.freeze ⟨ρ.blk b, ρ.base b + off, none⟩ m, .inl ?_, Step.set g (by rw [ho]; trivial) (fun r hr => freeze_other w _ m hr) f1 f2 f3 f4 trivial trivial (by rw [ho]; intro z; cases z) (by rw [ho]; intro z; cases z), trivial⟩
            rw [h1, h3, Sem.run_bind]
            unfold Rho.addr
            rw [hrun]
            simp only [Result.andThen_ok, Sem.run_pure, conc]
        · cases hc; cases he
      · cases hc; cases he
    · cases hc; cases he
  · cases hc; cases he
end
end Go.Ads
set_option autoImplicit false
set_option linter.unusedSimpArgs false
set_option linter.unusedVariables false
namespace Go.Ads
section
variable {P : Program} {tt : TT} {ρ : Rho} {h h' : H} {w w' : World} {v : V} {f : FR} {e : V} {inv : Inv} {r : Operand → Option Rf} {ev : Operand → Value}
theorem Ef.of_unit {s : Sem Unit} (x : v = .un ∧ ∃ w', s.run P w = .ok () w' ∧ Step P tt ρ h w ρ h' w') : Ef P tt (do s; pure .skip) ρ v h h' w := by
  obtain ⟨rfl, w', h1, h2⟩ := x
  exact ⟨ρ, w', .inr ⟨by simp only [Sem.run_bind, h1, Result.andThen_ok, Sem.run_pure], rfl⟩, h2, trivial⟩
/-- **Every operation that makes objects or has an effect, calls of functions apart.** -/
theorem effect_ok (tk : TTok P tt) (g : G P tt ρ h w) (hr : Ops r ev ρ h.next.toN f e) {o : Oper} {io : IOp} (hk : ko tt o = .n ∨ ko tt o = .e) (hcall : ∀ c, o.op = .call c → ∃ b, c.callee = .builtin b)
    (hc : cio tt r o.op = some io) (he : opT inv io f e h = .ok v h') : Ef P tt (execOp ev o) ρ v h h' w := by
  unfold execOp
  cases ho : o.op with
  | alloc t => simp only [ho] at hc ⊢; exact (nw_alloc tk g hc he).next
  | box t x =>
    simp only [ho] at hc ⊢
    simp only [cio] at hc
    split at hc
    · rename_i i hi; exact (nw_box tk g hr hi hc he).next
    · cases hc
  | buildSlice t n ps => simp only [ho] at hc ⊢; exact (nw_bslice tk g hr hc he).next
  | makeSlice t l c => simp only [ho] at hc ⊢; exact (nw_mksl tk g hr hc he).next
  | makeMap t m =>
    simp only [ho] at hc ⊢
    cases m with
    | none => exact (nw_map g hc he).next
    | some m => cases hc; cases he
  | slice t x lo hi mx => simp only [ho] at hc ⊢; exact (nw_slice tk g hr hc he).next
  | store t x y => simp only [ho] at hc ⊢; exact .of_unit (ef_store tk g hr hc he)
  | mapUpdate t m k x => simp only [ho] at hc ⊢; exact .of_unit (ef_upd tk g hr hc he)
  | insert t m k x => simp only [ho] at hc ⊢; exact .of_unit (ef_upd tk g hr hc he)
  | mapEntry t m k => simp only [ho] at hc ⊢; exact (nw_ent tk g hr hc he).next
  | entryStore t m s x => simp only [ho] at hc ⊢; exact .of_unit (ef_entst g hr hc he)
  | range t x => simp only [ho] at hc ⊢; exact (nw_range tk g hr hc he).next
  | next it s =>
    simp only [ho] at hc ⊢
    cases s with
    | false => exact (nw_next g hr hc he).next
    | true => cases hc; cases he
  | entry it => simp only [ho] at hc ⊢; exact (nw_entry g hr hc he).next
  | call c =>
    simp only [ho] at hc ⊢
    obtain ⟨b, hb⟩ := hcall c ho
    have hc : ccall tt r c = some io := hc
    cases b with
    | append => exact ef_app tk g hr hb hc he
    | copy => exact ef_copy tk g hr hb hc he
    | clear => exact ef_clear tk g hr hb hc he
    | unsafeSliceData => exact ef_sdata tk g hr hb hc he
    | unsafeString => exact ef_ustr tk g hr hb hc he
    | len =>
      unfold ko at hk
      simp only [ho, hb] at hk
      have hc2 := hc
      simp only [ccall, hb] at hc2
      split at hc2 <;> first | (cases hc2; cases he; done) | skip
      all_goals first | (rename_i e1 _; cases e1; done) | (rename_i e1 _ _; cases e1; done) | skip
      rename_i _ x t _ hx ht
      simp only [ht] at hk
      split at hc2
      · rename_i i hi
        rw [hi] at hk
        simp only at hk
        split at hk <;> rcases hk with hk | hk <;> cases hk
      · cases hc2
    | min => unfold ko at hk; simp only [ho, hb] at hk; rcases hk with hk | hk <;> cases hk
    | max => unfold ko at hk; simp only [ho, hb] at hk; rcases hk with hk | hk <;> cases hk
    | _ => simp only [ccall, hb] at hc; cases hc; cases he
  | convert s d x =>
    simp only [ho] at hc
    unfold ko at hk
    simp only [ho] at hk
    cases hs : tt s with
    | none => simp only [cio, cconv, hs] at hc; cases hc
    | some i => simp only [hs] at hk; split at hk <;> rcases hk with hk | hk <;> cases hk
  | _ => first
    | (simp only [ho] at hc; cases hc; cases he; done)
    | (unfold ko at hk; simp only [ho] at hk; rcases hk with hk | hk <;> cases hk; done)
end
end Go.Ads
set_option autoImplicit false
set_option linter.unusedSimpArgs false
set_option linter.unusedVariables false
namespace Go.Ads
section
variable {P : Program} {tt : TT}
/-- what a call has come to -/
def Fin (P : Program) (tt : TT) (ρ : Rho) (h : H) (w : World) (v : V) (h' : H) (e : Ending) (w' : World) : Prop := ∃ ρ', e = .returned (conc ρ' v) ∧ Step P tt ρ h w ρ' h' w' ∧ Bd h'.next.toN v
/-- an open fence: every function, any depth -/
structure Open (F : Fence) : Prop where
  eq : F.plain = Fence.wide
theorem Open.fn {F : Fence} (h : Open F) (f : FuncId) : F.fn f := by
  have := congrArg (fun G : Fence => G.fn f) h.eq
  exact this.mpr trivial
theorem Open.depth {F : Fence} (h : Open F) : F.depth = none := congrArg (fun G : Fence => G.depth) h.eq
theorem Open.calls {F : Fence} (h : Open F) {P : Program} {f : FuncId} {args : Array Value} {w : World} {R : Ending → World → Prop} (c : Calls P f args w R) : CallsIn F 0 P f args w R := by
  have c : CallsIn Fence.wide 0 P f args w R := callsIn_wide.2 c
  rw [← h.eq] at c
  exact c
/-- what an invocation asks for, and that it comes to its end -/
def NextOk (P : Program) (tt : TT) (F : Fence) (ρ : Rho) (h : H) (w : World) (v : V) (h' : H) : Next → Prop
  | .enter f args => CallsIn F 0 P f args w (Fin P tt ρ h w v h')
  | .round l f tmps assign body => RoundIn F 0 P l f tmps assign body w (Fin P tt ρ h w v h')
  | _ => False
/-- **an interpreter of calls that is sound** -/
def InvOk (P : Program) (tt : TT) (inv : Inv) : Prop := ∀ (F : Fence), Open F → ∀ (g as v : V) (h h' : H) (ρ : Rho) (w : World), inv g as h = .ok v h' → G P tt ρ h w → Bd h.next.toN g → Bd h.next.toN as →
  ∃ d nx, (Deferred.ofValue (conc ρ g) (concL ρ as).toArray).run P w = .ok d w ∧ (invoke d.target d.args).run P w = .ok nx w ∧ NextOk P tt F ρ h w v h' nx ∧ (isFn g = true → ∃ f args, nx = .enter f args)
variable {ρ : Rho} {h h' : H} {w : World} {v : V} {f : FR} {e : V} {inv : Inv} {r : Operand → Option Rf}
/-- an operation that is no call, in the calculus -/
theorem Ef.wp {F : Fence} (hF : Open F) {o : Oper} {a : Act} {next : Act → World → Prop} {Q : Exit → Act → World → Prop} (hd : ∀ c, o.op ≠ .defer c) (ef : Ef P tt (execOp a.eval o) ρ v h h' w)
    (K : ∀ ρ' w', Step P tt ρ h w ρ' h' w' → Bd h'.next.toN v → next (a.put o.dst (conc ρ' v)) w') : o.wpIn F 0 P a w next Q := by
  unfold Oper.wpIn
  refine ⟨fun f _ => hF.fn f, ?_⟩
  rw [Oper.semAt_eq F.round a.eval o hd]
  obtain ⟨ρ', w', h1 | ⟨h1, rfl⟩, h2, h3⟩ := ef
  · rw [h1, Oper.uponIn_value]; exact K ρ' w' h2 h3
  · rw [h1, Oper.uponIn_skip, ← conc_un ρ']; exact K ρ' w' h2 h3
/-- a call, in the calculus -/
theorem call_wp {F : Fence} (hF : Open F) (hi : InvOk P tt inv) {o : Oper} {a : Act} {c : Call} {next : Act → World → Prop} {Q : Exit → Act → World → Prop} {x : Operand} {g as : V} (ho : o.op = .call c) (hx : c.callee = .value x) (hg : a.eval x = conc ρ g)
    (has : c.args.map a.eval = (concL ρ as).toArray) (G0 : G P tt ρ h w) (bg : Bd h.next.toN g) (ba : Bd h.next.toN as) (he : inv g as h = .ok v h')
    (K : ∀ ρ' w', Step P tt ρ h w ρ' h' w' → Bd h'.next.toN v → next (a.put o.dst (conc ρ' v)) w') : o.wpIn F 0 P a w next Q := by
  unfold Oper.wpIn
  refine ⟨fun f _ => hF.fn f, ?_⟩
  rw [Oper.semAt_eq F.round a.eval o (fun c => by rw [ho]; intro q; cases q)]
  obtain ⟨d, nx, h1, h2, h3, _⟩ := hi F hF g as v h h' ρ w he G0 bg ba
  have hrun : (execOp a.eval o).run P w = .ok nx w := by
    unfold execOp
    simp only [ho, resolve, hx, hg, has, Sem.run_bind, h1, h2, Result.andThen_ok]
  rw [hrun]
  have hdep : F.depth.isSome = true → 1 ≤ 0 := fun q => by rw [hF.depth] at q; cases q
  cases nx with
  | enter fn args =>
    rw [Oper.uponIn_enter]
    refine ⟨hdep, CallsIn.mono h3 fun e w' hf => ?_⟩
    obtain ⟨ρ', rfl, h4, h5⟩ := hf
    exact K ρ' w' h4 h5
  | round l fn tmps as' bd =>
    rw [Oper.uponIn_round]
    refine ⟨hdep, RoundIn.mono h3 fun e w' hf => ?_⟩
    obtain ⟨ρ', rfl, h4, h5⟩ := hf
    exact K ρ' w' h4 h5
  | _ => exact h3.elim
end
end Go.Ads
