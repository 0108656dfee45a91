/- A symbolic runner over the model's code, and its laws: what it says of a function holds, in whatever order a region runs. -/
import Derived.Orders
import Derived.LoopN
import Derived.Below
import Derived.Tactics
import Derived.KernelRfl
import Derived.ChangeKeysEq
namespace Go.Proofs.Ytpopapmmceopmaa.X
open Go Go.RowKit
set_option linter.unusedVariables false
set_option linter.unusedSimpArgs false
variable {nm : Bool}

/-- What a number stands for: a block, a place in it, a capacity. -/
structure Bd where
  p : Nat
  o : Nat
  c : Nat
abbrev Ren := Nat → Option Bd

/-- A symbolic value: own blocks bear numbers of their own. -/
inductive SV where
  | lit (k : IntKind) (n : Int)
  | bl (b : Bool)
  | v (x : Value)
  | ptr (id off : Nat)
  | px (id off : Nat)
  | sl (id off len cap : Nat)
  | row (id eo sz len : Nat)
  | emp (id : Nat)
  | agg (l : List SV)
  | tup (l : List SV)
  | clo (fn : Fn) (l : List SV)
  | ifc (t : TypeId) (x : SV)
  | un
  deriving Inhabited

mutual
def SV.den (β : Ren) : SV → Option Value
  | .lit k n => some (.int k n)
  | .bl b => some (.bool b)
  | .v x => some x
  | .ptr id off => (β id).map fun b => .pointer (some ⟨b.p, off, none⟩)
  | .px id off => (β id).map fun b => .pointer (some ⟨b.p, off, none⟩)
  | .sl id off len cap => (β id).map fun b => .slice (some ⟨b.p, off, none⟩) len cap
  | .row id eo sz len => (β id).map fun b => .slice (some ⟨b.p, eo * sz, none⟩) len (b.c - eo)
  | .emp id => (β id).map fun b => .slice (some ⟨b.p, b.o, none⟩) 0 b.c
  | .agg l => (denL β l).map fun vs => .agg vs.toArray
  | .tup l => (denL β l).map fun vs => .tuple vs.toArray
  | .clo fn l => (denL β l).map fun vs => .func fn #[] vs.toArray
  | .ifc t x => (SV.den β x).map fun v => .iface t v
  | .un => none
def denL (β : Ren) : List SV → Option (List Value)
  | [] => some []
  | x :: r => (SV.den β x).bind fun v => (denL β r).map fun vs => v :: vs
end

/-- Nothing is known. -/
def SV.isUn : SV → Bool
  | .un => true
  | _ => false

/-- How much of a block is known: all; its beginning (elements of so many cells); nothing. -/
inductive BM where
  | ex | op (sz : Nat) | dd
structure Blk where
  ty : TypeId
  cells : List SV
  m : BM
def BM.live : BM → Bool
  | .dd => false
  | _ => true
/-- What is behind the known cells. -/
def BM.fits (m : BM) (c tot : Nat) (rest : List Value) : Prop := match m with
  | .ex => rest = []
  | .op sz => tot = c * sz
  | .dd => True

inductive Dn where
  | val (x : SV)
  | blk (b : Blk)

inductive Key where
  | tmp (t : Nat)
  | blk (id : Nat)
  deriving DecidableEq

abbrev Sg := Key → Option Dn
def look : List (Key × Dn) → Key → Option Dn
  | [], _ => none
  | (k', d) :: r, k => if k' = k then some d else look r k
def upd (σ : Sg) (W : List (Key × Dn)) : Sg := fun k => match look W k with | some d => some d | none => σ k

/-- Where a function began: its world, the blocks that it leaves alone, the number of its slots, the numbers that it was given. -/
structure Env where
  P : Program
  w0 : World
  prot : Nat → Prop
  nt : Nat
  low : ∀ p, prot p → p < w0.heap.size
  anc : Ren

structure Keeps (E : Env) (w : World) : Prop where
  os : w.os = E.w0.os
  tape : w.tape = E.w0.tape
  output : w.output = E.w0.output
  size : E.w0.heap.size ≤ w.heap.size
  block : ∀ p, E.prot p → w.heap[p]? = E.w0.heap[p]?

def Le (β β' : Ren) : Prop := ∀ i p, β i = some p → β' i = some p
theorem Le.refl (β : Ren) : Le β β := fun _ _ h => h

mutual
theorem SV.den_mono {β β' : Ren} (h : Le β β') : ∀ (x : SV) {v : Value}, x.den β = some v → x.den β' = some v
  | .lit _ _, _, e => e
  | .bl _, _, e => e
  | .v _, _, e => e
  | .ptr id off, v, e => by
    simp only [SV.den, Option.map_eq_some_iff] at e ⊢
    obtain ⟨b, hb, rfl⟩ := e
    exact ⟨b, h _ _ hb, rfl⟩
  | .px id off, v, e => by
    simp only [SV.den, Option.map_eq_some_iff] at e ⊢
    obtain ⟨b, hb, rfl⟩ := e
    exact ⟨b, h _ _ hb, rfl⟩
  | .sl id off len cap, v, e => by
    simp only [SV.den, Option.map_eq_some_iff] at e ⊢
    obtain ⟨b, hb, rfl⟩ := e
    exact ⟨b, h _ _ hb, rfl⟩
  | .row id eo sz len, v, e => by
    simp only [SV.den, Option.map_eq_some_iff] at e ⊢
    obtain ⟨b, hb, rfl⟩ := e
    exact ⟨b, h _ _ hb, rfl⟩
  | .emp id, v, e => by
    simp only [SV.den, Option.map_eq_some_iff] at e ⊢
    obtain ⟨b, hb, rfl⟩ := e
    exact ⟨b, h _ _ hb, rfl⟩
  | .agg l, v, e => by
    simp only [SV.den, Option.map_eq_some_iff] at e ⊢
    obtain ⟨b, hb, rfl⟩ := e
    exact ⟨b, denL_mono h l hb, rfl⟩
  | .tup l, v, e => by
    simp only [SV.den, Option.map_eq_some_iff] at e ⊢
    obtain ⟨b, hb, rfl⟩ := e
    exact ⟨b, denL_mono h l hb, rfl⟩
  | .clo fn l, v, e => by
    simp only [SV.den, Option.map_eq_some_iff] at e ⊢
    obtain ⟨b, hb, rfl⟩ := e
    exact ⟨b, denL_mono h l hb, rfl⟩
  | .ifc t x, v, e => by
    simp only [SV.den, Option.map_eq_some_iff] at e ⊢
    obtain ⟨b, hb, rfl⟩ := e
    exact ⟨b, SV.den_mono h x hb, rfl⟩
  | .un, _, e => by simp [SV.den] at e
theorem denL_mono {β β' : Ren} (h : Le β β') : ∀ (l : List SV) {vs : List Value}, denL β l = some vs → denL β' l = some vs
  | [], _, e => e
  | x :: r, vs, e => by
    simp only [denL, Option.bind_eq_some_iff, Option.map_eq_some_iff] at e ⊢
    obtain ⟨v, hv, us, hus, rfl⟩ := e
    exact ⟨v, SV.den_mono h x hv, us, denL_mono h r hus, rfl⟩
end

structure Hl (E : Env) (σ : Sg) (β : Ren) (w : World) : Prop where
  blk : ∀ id b, σ (.blk id) = some (.blk b) → b.m.live = true → ∃ q vs rest, β id = some q ∧ denL β b.cells = some vs ∧ w.heap[q.p]? = some (.cells (vs ++ rest).toArray b.ty (0, 0)) ∧ b.m.fits q.c (vs ++ rest).length rest ∧ ¬ E.prot q.p
  fresh : ∀ id, σ (.blk id) = none → β id = none
  inj : ∀ i j b c q r, σ (.blk i) = some (.blk b) → b.m.live = true → σ (.blk j) = some (.blk c) → c.m.live = true → β i = some q → β j = some r → q.p = r.p → i = j
  keep : Keeps E w
  anc : Le E.anc β
structure Rl (E : Env) (σ : Sg) (β : Ren) (a : Act) (w : World) : Prop extends Hl E σ β w where
  size : a.tmps.size = E.nt
  defers : a.defers = []
  tmp : ∀ t x, σ (.tmp t) = some (.val x) → t < E.nt ∧ (x.isUn = false → x.den β = some (a.tmps.getD t undef))

/-- One operation, from what it looks at to what it writes. -/
def EvOk (E : Env) (ops : Array Oper) (j : Nat) (R : List (Key × Option Dn)) (W : List (Key × Dn)) : Prop :=
  ∀ (Q : Exit → Act → World → Prop) (K : Act → World → Prop) (σ : Sg) (β : Ren) (a : Act) (w : World), (∀ p ∈ R, σ p.1 = p.2) → Rl E σ β a w →
    (∀ β' a' w', Rl E (upd σ W) β' a' w' → K a' w') → wpOp E.P ops Q j K a w

def sig (W : Nat → List (Key × Dn)) (σ0 : Sg) (D : Nat → Bool) : Nat → Sg
  | 0 => σ0
  | m + 1 => if D m then upd (sig W σ0 D m) (W m) else sig W σ0 D m

/-- Operation j stands behind operation i. -/
inductive Bef (ops : Array Oper) : Nat → Nat → Prop
  | edge {j i : Nat} {o : Oper} {e : Edge} : ops[j]? = some o → e ∈ o.after.toList → Region.binds .any e = true → e.on = i → Bef ops j i
  | step {j i : Nat} {o : Oper} {e : Edge} : ops[j]? = some o → e ∈ o.after.toList → Region.binds .any e = true → Bef ops e.on i → Bef ops j i

def Closed (ops : Array Oper) (D : Nat → Bool) : Prop :=
  ∀ j, D j = true → ∀ o, ops[j]? = some o → ∀ e ∈ o.after.toList, Region.binds .any e = true → D e.on = true

theorem Closed.bef {ops : Array Oper} {D : Nat → Bool} (h : Closed ops D) {j i : Nat} (hb : Bef ops j i) (hj : ∀ o, ops[j]? = some o → ∀ e ∈ o.after.toList, Region.binds .any e = true → D e.on = true) : D i = true := by
  induction hb with
  | edge ho he hb hi => subst hi; exact hj _ ho _ he hb
  | step ho he hb _ ih => exact ih (fun o ho' e' he' hb' => h _ (hj _ ho _ he hb) _ ho' _ he' hb')

theorem sig_eq_before {W : Nat → List (Key × Dn)} {σ0 : Sg} {D : Nat → Bool} {k : Key} : ∀ m, (∀ i, i < m → look (W i) k ≠ none → D i = true) → sig W σ0 D m k = sig W σ0 (fun _ => true) m k
  | 0, _ => rfl
  | m + 1, h => by
    have ih := sig_eq_before (W := W) (σ0 := σ0) (D := D) (k := k) m (fun i hi => h i (by omega))
    simp only [sig]
    by_cases hD : D m = true
    · simp only [hD, if_true, upd, ih]
    · simp only [hD, if_false, if_true, upd]
      cases hl : look (W m) k with
      | none => simpa using ih
      | some d => exact absurd (h m (by omega) (by simp [hl])) hD

theorem sig_eq_behind {W : Nat → List (Key × Dn)} {σ0 : Sg} {D : Nat → Bool} {k : Key} (j : Nat) : ∀ m, j ≤ m → (∀ i, j ≤ i → i < m → D i = true → look (W i) k = none) → sig W σ0 D m k = sig W σ0 D j k := by
  intro m
  induction m with
  | zero => intro hj _; obtain rfl : j = 0 := by omega
            rfl
  | succ m ih =>
    intro hj h
    by_cases hjm : j = m + 1
    · subst hjm; rfl
    · have := ih (by omega) (fun i h1 h2 => h i h1 (by omega))
      simp only [sig]
      by_cases hD : D m = true
      · simp only [hD, if_true, upd, h m (by omega) (by omega) hD, this]
      · simp only [hD]; exact this

theorem sig_congr {W : Nat → List (Key × Dn)} {σ0 : Sg} {D D' : Nat → Bool} : ∀ m, (∀ i, i < m → D i = D' i) → sig W σ0 D m = sig W σ0 D' m
  | 0, _ => rfl
  | m + 1, h => by simp only [sig, sig_congr m (fun i hi => h i (by omega)), h m (by omega)]

theorem sig_add {W : Nat → List (Key × Dn)} {σ0 : Sg} {D D' : Nat → Bool} {n j : Nat} (hj : j < n) (hD : D j = false) (hD' : ∀ i, D' i = (D i || i == j))
    (hw : ∀ i, j < i → i < n → D i = true → ∀ k, look (W j) k ≠ none → look (W i) k = none) : sig W σ0 D' n = upd (sig W σ0 D n) (W j) := by
  funext k
  by_cases hk : look (W j) k = none
  · simp only [upd, hk]
    have key : ∀ m, sig W σ0 D' m k = sig W σ0 D m k := by
      intro m
      induction m with
      | zero => rfl
      | succ m ih =>
        simp only [sig, hD']
        by_cases hm : m = j
        · subst hm; simp [hD, upd, hk, ih]
        · have : (m == j) = false := by simpa using hm
          by_cases hDm : D m = true
          · simp [hDm, upd, ih]
          · simp [hDm, this, ih]
    exact key n
  · obtain ⟨d, hd⟩ := Option.ne_none_iff_exists'.1 hk
    simp only [upd, hd]
    rw [sig_eq_behind (j + 1) n (by omega)]
    · simp only [sig, hD', hD, beq_self_eq_true, Bool.or_true, if_true, upd, hd]
    · intro i h1 h2 h3
      have : (i == j) = false := by simp; omega
      simp only [hD', this, Bool.or_false] at h3
      exact hw i (by omega) h2 h3 k hk

/-- Two operations that may stand in either order. -/
def Apart (R : Nat → List (Key × Option Dn)) (W : Nat → List (Key × Dn)) (i j : Nat) : Prop :=
  (∀ k, look (W i) k ≠ none → look (W j) k = none ∧ ∀ p ∈ R j, p.1 ≠ k) ∧ ∀ k, look (W j) k ≠ none → ∀ p ∈ R i, p.1 ≠ k

theorem nodup_lt : ∀ (n : Nat) (c : List Nat), c.Nodup → (∀ i ∈ c, i < n) → c.length ≤ n
  | 0, c, _, h => by cases c with
    | nil => simp
    | cons x _ => exact absurd (h x List.mem_cons_self) (by omega)
  | n + 1, c, hnd, h => by
    by_cases hn : n ∈ c
    · have h1 := List.length_erase_of_mem hn
      have h2 := nodup_lt n (c.erase n) (hnd.erase n) (fun i hi => by
        have := h i (List.mem_of_mem_erase hi)
        have hne : i ≠ n := fun e => by subst e; exact (List.Nodup.not_mem_erase hnd) hi
        omega)
      omega
    · have h2 := nodup_lt n c hnd (fun i hi => by
        have := h i hi
        have hne : i ≠ n := fun e => by subst e; exact hn hi
        omega)
      omega

theorem region_any {E : Env} {ops : Array Oper} {id : Nat} {R : Nat → List (Key × Option Dn)} {W : Nat → List (Key × Dn)} {σ0 : Sg} {Q : Exit → Act → World → Prop} {β : Ren} {a : Act} {w : World}
    (hm : E.P.follows .mixedOrders = true)
    (h1 : ∀ j, j < ops.size → ∀ p ∈ R j, sig W σ0 (fun _ => true) j p.1 = p.2)
    (h2 : ∀ j, j < ops.size → EvOk E ops j (R j) (W j))
    (h3 : ∀ i j, i < j → j < ops.size → Bef ops j i ∨ Apart R W i j)
    (hrel : Rl E σ0 β a w) (hQ : ∀ β' a' w', Rl E (sig W σ0 (fun _ => true) ops.size) β' a' w' → Q .normal a' w')
    (hlow : ∀ j o, ops[j]? = some o → ∀ e ∈ o.after.toList, Region.binds .any e = true → e.on < j) :
    (Code.region id ops true).wp E.P Q a w := by
  refine wp_region_any hm ?_
  have key : ∀ (fuel : Nat) (listed : Array Bool) (a : Act) (w : World) (β : Ren), listed.size = ops.size →
      Closed ops (fun i => listed.getD i false) →
      (∀ c : List Nat, c.Nodup → (∀ i ∈ c, i < ops.size ∧ listed.getD i false = false) → c.length ≤ fuel) →
      Rl E (sig W σ0 (fun i => listed.getD i false) ops.size) β a w → wpAny E.P .any ops Q fuel listed a w := by
    intro fuel
    have done : ∀ (listed : Array Bool) (a : Act) (w : World) (β : Ren), listed.size = ops.size → Region.ready .any ops listed = [] → Closed ops (fun i => listed.getD i false) →
        Rl E (sig W σ0 (fun i => listed.getD i false) ops.size) β a w → Q .normal a w := by
      intro listed a w β hsz hr hc hrl
      have hall : ∀ m i, i < m → i < ops.size → listed.getD i false = true := by
        intro m
        induction m with
        | zero => intro i hi; omega
        | succ m ih =>
          intro i hi hi2
          by_cases hlt : i < m
          · exact ih i hlt hi2
          · obtain rfl : i = m := by omega
            cases hli : listed.getD i false with
            | true => rfl
            | false =>
              exfalso
              have hmem : i ∈ Region.ready .any ops listed := by
                unfold Region.ready
                rw [List.mem_filter]
                refine ⟨List.mem_range.2 hi2, ?_⟩
                have hlt2 : i < listed.size := by omega
                have e1 : listed.getD i true = listed.getD i false := by simp [Array.getD, hlt2]
                rw [e1, hli]
                obtain ⟨o, ho⟩ : ∃ o, ops[i]? = some o := ⟨ops[i], by simp [hi2]⟩
                simp only [ho, Option.map_some, Option.getD_some, Bool.not_false, Bool.true_and, Array.all_eq_true_iff_forall_mem]
                intro e he
                cases hb : Region.binds .any e with
                | false => simp
                | true =>
                  have hlo := hlow i o ho e (by simpa using he) hb
                  simp only [Bool.not_true, Bool.false_or]
                  exact ih _ hlo (by omega)
              rw [hr] at hmem; cases hmem
      refine hQ β a w ?_
      rw [sig_congr (D := fun _ => true) (D' := fun i => listed.getD i false) ops.size (fun i hi => (hall (i + 1) i (by omega) hi).symm)]
      exact hrl
    induction fuel with
    | zero =>
      intro listed a w β hsz hc hcount hrl
      have hr : Region.ready .any ops listed = [] := by
        cases hr : Region.ready .any ops listed with
        | nil => rfl
        | cons i rs =>
          exfalso
          have hmem : i ∈ Region.ready .any ops listed := by rw [hr]; exact List.mem_cons_self
          unfold Region.ready at hmem
          rw [List.mem_filter] at hmem
          obtain ⟨hi, hb⟩ := hmem
          have hi' := List.mem_range.1 hi
          have hlt2 : i < listed.size := by omega
          have e1 : listed.getD i true = listed.getD i false := by simp [Array.getD, hlt2]
          rw [e1] at hb
          have := hcount [i] (by simp) (by
            intro x hx
            obtain rfl : x = i := by simpa using hx
            refine ⟨hi', ?_⟩
            cases hl : listed.getD x false with
            | false => rfl
            | true => simp [hl] at hb)
          simp at this
      exact ⟨hr, done listed a w β hsz hr hc hrl⟩
    | succ fuel ih =>
      intro listed a w β hsz hc hcount hrl
      refine ⟨fun hr => done listed a w β hsz hr hc hrl, ?_⟩
      intro j hj
      unfold Region.ready at hj
      rw [List.mem_filter] at hj
      obtain ⟨hj1, hj2⟩ := hj
      have hjlt := List.mem_range.1 hj1
      have hlt2 : j < listed.size := by omega
      have e1 : listed.getD j true = listed.getD j false := by simp [Array.getD, hlt2]
      rw [e1] at hj2
      have hDj : listed.getD j false = false := by
        cases hl : listed.getD j false with
        | false => rfl
        | true => simp [hl] at hj2
      have hedges : ∀ o, ops[j]? = some o → ∀ e ∈ o.after.toList, Region.binds .any e = true → listed.getD e.on false = true := by
        intro o ho e he hb
        simp only [hDj, ho, Option.map_some, Option.getD_some, Bool.not_false, Bool.true_and, Array.all_eq_true_iff_forall_mem] at hj2
        have := hj2 e (by simpa using he)
        simpa [hb] using this
      have hset : ∀ i, (listed.setIfInBounds j true).getD i false = (listed.getD i false || i == j) := by
        intro i
        by_cases hij : i = j
        · subst hij; simp [Array.getD, hlt2]
        · have : (i == j) = false := by simpa using hij
          rw [this, Bool.or_false]
          simp only [Array.getD, Array.size_setIfInBounds]
          split
          · rename_i h; simp [Array.getElem_setIfInBounds, h, Ne.symm hij]
          · rfl
      have hsig : sig W σ0 (fun i => (listed.setIfInBounds j true).getD i false) ops.size = upd (sig W σ0 (fun i => listed.getD i false) ops.size) (W j) := by
        refine sig_add hjlt hDj hset ?_
        intro i hji hin hDi k hk
        rcases h3 j i hji hin with hb | hap
        · have := Closed.bef hc hb (fun o ho e he hb => hc i hDi o ho e he hb)
          simp only [hDj] at this
          cases this
        · exact (hap.1 k hk).1
      refine h2 j hjlt Q _ _ β a w ?_ hrl ?_
      · intro p hp
        rw [sig_eq_behind j ops.size (by omega), sig_eq_before]
        · exact h1 j hjlt p hp
        · intro i hij hk
          rcases h3 i j hij hjlt with hb | hap
          · exact Closed.bef hc hb hedges
          · exact absurd rfl ((hap.1 p.1 hk).2 p hp)
        · intro i hji hin hDi
          by_cases hij : i = j
          · subst hij; simp only [hDj] at hDi; cases hDi
          · rcases h3 j i (by omega) hin with hb | hap
            · have := Closed.bef hc hb (fun o ho e he hb => hc i hDi o ho e he hb)
              simp only [hDj] at this
              cases this
            · cases hl : look (W i) p.1 with
              | none => rfl
              | some d => exact absurd rfl (hap.2 p.1 (by simp [hl]) p hp)
      · intro β' a' w' hrl'
        refine ih _ a' w' β' (by simp [hsz]) ?_ ?_ (by rw [hsig]; exact hrl')
        · intro i hi o ho e he hb
          simp only [hset] at hi ⊢
          by_cases hij : i = j
          · subst hij; simp only [hedges o ho e he hb, Bool.true_or]
          · have : (i == j) = false := by simpa using hij
            simp only [this, Bool.or_false] at hi
            simp only [hc i hi o ho e he hb, Bool.true_or]
        · intro c hnd hc'
          have := hcount (j :: c) (by
            refine List.nodup_cons.2 ⟨fun hmem => ?_, hnd⟩
            have := (hc' j hmem).2
            rw [hset] at this
            simp at this) (by
            intro i hi
            rcases List.mem_cons.1 hi with rfl | hi
            · exact ⟨hjlt, hDj⟩
            · obtain ⟨a1, a2⟩ := hc' i hi
              refine ⟨a1, ?_⟩
              rw [hset] at a2
              cases hl : listed.getD i false with
              | false => rfl
              | true => simp [hl] at a2)
          simp at this
          omega
  have hrl1 : Rl E σ0 β a { w with drawn := w.drawn + 1 } := { hrel with blk := hrel.blk, keep := ⟨hrel.keep.os, hrel.keep.tape, hrel.keep.output, hrel.keep.size, hrel.keep.block⟩ }
  refine key ops.size (Array.replicate ops.size false) a _ β (by simp) ?_ ?_ ?_
  · intro j hj
    have : (Array.replicate ops.size false).getD j false = false := by simp [Array.getD]
    simp only [this] at hj; cases hj
  · intro c hnd hc
    exact nodup_lt ops.size c hnd (fun i hi => (hc i hi).1)
  · have e0 : ∀ m, sig W σ0 (fun i => (Array.replicate ops.size false).getD i false) m = σ0 := by
      intro m
      induction m with
      | zero => rfl
      | succ m ih =>
        have : (Array.replicate ops.size false).getD m false = false := by simp [Array.getD]
        simp only [sig, this, ih]; rfl
    rw [e0]; exact hrl1

noncomputable section

/-- A choice whose other way is not looked at. -/
def sel {α : Sort _} (b : Bool) (x y : Unit → α) : α := Bool.rec (motive := fun _ => α) (y ()) (x ()) b
@[simp] theorem sel_eq {α : Sort _} (b : Bool) (x y : Unit → α) : sel b x y = cond b (x ()) (y ()) := by cases b <;> rfl

def nth {α : Type} (l : List α) : Nat → Option α := List.rec (motive := fun _ => Nat → Option α) (fun _ => none) (fun x _ ih n => Nat.rec (motive := fun _ => Option α) (some x) (fun k _ => ih k) n) l
@[simp] theorem nth_nil {α : Type} (n : Nat) : nth ([] : List α) n = none := rfl
@[simp] theorem nth_zero {α : Type} (x : α) (r : List α) : nth (x :: r) 0 = some x := rfl
@[simp] theorem nth_succ {α : Type} (x : α) (r : List α) (n : Nat) : nth (x :: r) (n + 1) = nth r n := rfl
def setN {α : Type} : List α → Nat → α → List α
  | [], _, _ => []
  | _ :: r, 0, y => y :: r
  | x :: r, n + 1, y => x :: setN r n y

/-- A row of values, as a tree. -/
inductive Br where
  | lf
  | nd (x : SV) (l r : Br)
def Br.get (b : Br) : Nat → Option SV := Br.rec (motive := fun _ => Nat → Option SV) (fun _ => none)
  (fun x _ _ gl gr i => Nat.rec (motive := fun _ => Option SV) (some x) (fun k _ => sel (Nat.beq (Nat.mod k 2) 0) (fun _ => gl (Nat.div k 2)) fun _ => gr (Nat.div k 2)) i) b
def Br.set (b : Br) : Nat → SV → Br := Br.rec (motive := fun _ => Nat → SV → Br) (fun _ _ => .lf)
  (fun x l r sl sr i y => Nat.rec (motive := fun _ => Br) (.nd y l r) (fun k _ => sel (Nat.beq (Nat.mod k 2) 0) (fun _ => .nd x (sl (Nat.div k 2) y) r) fun _ => .nd x l (sr (Nat.div k 2) y)) i) b
@[simp] theorem Br.get_lf (i : Nat) : Br.get .lf i = none := rfl
@[simp] theorem Br.get_zero (x : SV) (l r : Br) : Br.get (.nd x l r) 0 = some x := rfl
@[simp] theorem Br.get_succ (x : SV) (l r : Br) (i : Nat) : Br.get (.nd x l r) (i + 1) = sel (Nat.beq (i % 2) 0) (fun _ => l.get (i / 2)) fun _ => r.get (i / 2) := rfl
@[simp] theorem Br.set_lf (i : Nat) (y : SV) : Br.set .lf i y = .lf := rfl
@[simp] theorem Br.set_zero (x y : SV) (l r : Br) : Br.set (.nd x l r) 0 y = .nd y l r := rfl
@[simp] theorem Br.set_succ (x y : SV) (l r : Br) (i : Nat) : Br.set (.nd x l r) (i + 1) y = sel (Nat.beq (i % 2) 0) (fun _ => .nd x (l.set (i / 2) y) r) fun _ => .nd x l (r.set (i / 2) y) := rfl
def Br.mk : (fuel : Nat) → (n : Nat) → SV → Br
  | 0, _, _ => .lf
  | _ + 1, 0, _ => .lf
  | f + 1, n + 1, x => .nd x (Br.mk f ((n + 1) / 2) x) (Br.mk f (n / 2) x)
def Br.sets : Br → Nat → List SV → Br
  | b, _, [] => b
  | b, i, x :: l => Br.sets (b.set i x) (i + 1) l
/-- A row out of a list. -/
def Br.ofL (l : List SV) : Br := Br.sets (Br.mk l.length l.length .un) 0 l
/-- A row of n slots that begins so. -/
def Br.ofA (l : List SV) (n : Nat) : Br := Br.sets (Br.mk n n (.v undef)) 0 l

structure St where
  tmps : Br
  blks : List (Nat × Blk)
/-- A state has just n slots. -/
def Sz (n : Nat) (s : St) : Prop := ∀ t, (∃ x, s.tmps.get t = some x) ↔ t < n

def getB (l : List (Nat × Blk)) : Nat → Option Blk := List.rec (motive := fun _ => Nat → Option Blk) (fun _ => none) (fun p _ ih id => sel (Nat.beq p.1 id) (fun _ => some p.2) fun _ => ih id) l
def setB (l : List (Nat × Blk)) : Nat → Blk → List (Nat × Blk) := List.rec (motive := fun _ => Nat → Blk → List (Nat × Blk)) (fun id b => [(id, b)]) (fun p r ih id b => sel (Nat.beq p.1 id) (fun _ => (p.1, b) :: r) fun _ => (p.1, p.2) :: ih id b) l
@[simp] theorem getB_nil (i : Nat) : getB [] i = none := rfl
@[simp] theorem getB_cons (i : Nat) (b : Blk) (r : List (Nat × Blk)) (id : Nat) : getB ((i, b) :: r) id = sel (Nat.beq i id) (fun _ => some b) (fun _ => getB r id) := rfl
@[simp] theorem setB_nil (i : Nat) (b : Blk) : setB [] i b = [(i, b)] := rfl
@[simp] theorem setB_cons (i : Nat) (c b : Blk) (r : List (Nat × Blk)) (id : Nat) : setB ((i, c) :: r) id b = sel (Nat.beq i id) (fun _ => (i, b) :: r) (fun _ => (i, c) :: setB r id b) := rfl

def setBs : List (Nat × Blk) → List (Nat × Blk) → List (Nat × Blk)
  | h, [] => h
  | h, (i, b) :: r => setBs (setB h i b) r

def St.sg (s : St) : Sg
  | .tmp t => (s.tmps.get t).map .val
  | .blk id => (getB s.blks id).map .blk

inductive TK where
  | int (k : IntKind) | bool | str | ptr (e : TypeId) | slice (e : TypeId) | arr (n : Nat) (e : TypeId) | strct (fs : List (TypeId × Nat)) | func | iface | other
def kindOf : TypeDesc → TK
  | .int k => .int k
  | .bool => .bool
  | .string => .str
  | .pointer e => .ptr e
  | .slice e => .slice e
  | .array n e => .arr n e
  | .struct fs => .strct (fs.toList.map fun f => (f.type, f.offset))
  | .func .. => .func
  | .interface .. => .iface
  | _ => .other
structure TI where
  size : Nat
  bytes : Nat
  kind : TK
  zero : List Value
  eqok : Bool
def eqOkP (P : Program) (t : TypeId) : Bool :=
  !(P.eqGuardType P.depth t) && match P.underlying t with | some (.struct fs) => !P.stoodInHeld t && fs.all (·.name != "_") | _ => true
def TIok (P : Program) (t : TypeId) (i : TI) : Prop :=
  (P.info? t).map (fun x => (x.size, x.bytes, x.zero.map (·.cells.toList))) = some (i.size, i.bytes, some i.zero) ∧ (P.underlying t).map kindOf = some i.kind ∧ eqOkP P t = i.eqok
abbrev TT := TypeId → Option TI
def TTok (P : Program) (tt : TT) : Prop := ∀ t i, tt t = some i → TIok P t i
def tinf (tt : TT) (t : TypeId) : Option TI := tt t
def lookT : List (TypeId × TI) → TT
  | [], _ => none
  | (t, i) :: r, u => sel (Nat.beq t u) (fun _ => (some i)) (fun _ => (lookT r u))

/-- Arithmetic that stays closed to the runner. -/
inductive Md where
  | pl | na | cl
structure Ar where
  nm : Md
  wrap : IntKind → Int → Int
  add : Int → Int → Int
  sub : Int → Int → Int
  mul : Int → Int → Int
  quo : Int → Int → Int
  rem : Int → Int → Int
  bits : BinOp → IntKind → Int → Int → Int
  shl : IntKind → Int → Int → Int
  shr : IntKind → Int → Int → Int
  eq : Int → Int → Bool
  lt : Int → Int → Bool
  le : Int → Int → Bool
  band : Bool → Bool → Bool
  bnot : Bool → Bool
  beq : Bool → Bool → Bool
  seq : ByteArray → ByteArray → Bool
  byte : ByteArray → Nat → Int
  off : Nat → Int → Nat → Nat

def bitsI (op : BinOp) (k : IntKind) (x y : Int) : Int :=
  let a := BitVec.ofInt k.bits x
  let b := BitVec.ofInt k.bits y
  match op with
  | .and => k.wrap (a &&& b).toNat
  | .or => k.wrap (a ||| b).toNat
  | .xor => k.wrap (a ^^^ b).toNat
  | _ => k.wrap (a &&& ~~~b).toNat
def std (b : Md) : Ar where
  nm := b
  wrap := IntKind.wrap
  add x y := x + y
  sub x y := x - y
  mul x y := x * y
  quo := Int.tdiv
  rem := Int.tmod
  bits := bitsI
  shl k x y := k.wrap (x * 2 ^ (min y.toNat k.bits))
  shr k x y := x.fdiv (2 ^ (min y.toNat k.bits))
  eq x y := x == y
  lt x y := decide (x < y)
  le x y := decide (x ≤ y)
  band x y := x && y
  bnot x := !x
  beq x y := x == y
  seq x y := x.toList == y.toList
  byte s i := (s.get! i).toNat
  off o i n := o + i.toNat * n

def kEq : IntKind → IntKind → Bool
  | .i8, .i8 | .i16, .i16 | .i32, .i32 | .i64, .i64 | .u8, .u8 | .u16, .u16 | .u32, .u32 | .u64, .u64 => true
  | _, _ => false

def oB {α : Type} (o : Option α) (f : α → Prop) : Prop := match o with | some a => f a | none => False
def iB (b : Bool) (p : Prop) : Prop := match b with | true => p | false => False

def ofC1 : Value → SV
  | .int k n => .lit k n
  | .bool b => .bl b
  | x => .v x
def ofC : Value → SV
  | .agg cs => .agg (cs.toList.map ofC1)
  | .int k n => .lit k n
  | .bool b => .bl b
  | x => .v x
def cellsOf : SV → Option (List SV)
  | .lit k n => some [.lit k n]
  | .bl b => some [.bl b]
  | .ptr a b => some [.ptr a b]
  | .px a b => some [.px a b]
  | .sl a b c d => some [.sl a b c d]
  | .row a b c d => some [.row a b c d]
  | .emp a => some [.emp a]
  | .clo f l => some [.clo f l]
  | .ifc t x => some [.ifc t x]
  | .agg l => some l
  | .tup _ => none
  | .un => none
  | .v x => match x with
    | .agg cs => some (cs.toList.map ofC1)
    | .int k n => some [.v (.int k n)]
    | .bool b => some [.v (.bool b)]
    | .string b => some [.v (.string b)]
    | .pointer b => some [.v (.pointer b)]
    | .slice a b c => some [.v (.slice a b c)]
    | .nilFunc => some [.v .nilFunc]
    | .nilIface => some [.v .nilIface]
    | _ => none

def aggOf : SV → Option (List SV)
  | .agg l => some l
  | .v (.agg cs) => some (cs.toList.map ofC1)
  | _ => none

def known? : Option SV → Option SV
  | some .un => none
  | x => x
def evO (s : St) : Operand → Option SV
  | .tmp t => known? (s.tmps.get t)
  | .const x => some (ofC x)
  | .func f => some (.clo (.func f) [])
  | .global _ => none
def evL (s : St) : List Operand → Option (List SV)
  | [] => some []
  | x :: r => match evO s x with
    | some a => match evL s r with
      | some l => some (a :: l)
      | none => none
    | none => none

def asI : SV → Option (IntKind × Int)
  | .lit k n => some (k, n)
  | .v (.int k n) => some (k, n)
  | _ => none
def asB : SV → Option Bool
  | .bl b => some b
  | .v (.bool b) => some b
  | _ => none

def St.put (s : St) (o : Oper) (x : SV) : St := match o.dst with | some d => { s with tmps := s.tmps.set d x } | none => s
def St.setB (s : St) (id : Nat) (b : Blk) : St := { s with blks := X.setB s.blks id b }

def litOp (op : BinOp) (k : IntKind) (a b : Int) : Option SV :=
  match op with
  | .add => some (.lit k (k.wrap (a + b)))
  | .sub => some (.lit k (k.wrap (a - b)))
  | .mul => some (.lit k (k.wrap (a * b)))
  | .eql => some (.bl (a == b))
  | .neq => some (.bl (a != b))
  | .lss => some (.bl (decide (a < b)))
  | .leq => some (.bl (decide (a ≤ b)))
  | .gtr => some (.bl (decide (a > b)))
  | .geq => some (.bl (decide (a ≥ b)))
  | _ => none

/-- A number under a name of its own, if so wished. -/
def nmd (I : Ar) (k : IntKind) (e : Int) (c : SV → Prop) : Prop := match I.nm with
  | .na => ∀ z, z = e → c (.v (.int k z))
  | .pl => c (.v (.int k e))
  | .cl => c (.lit k e)
def mkB (I : Ar) (e : Bool) : SV := match I.nm with
  | .cl => .bl e
  | _ => .v (.bool e)
def mkI (I : Ar) (k : IntKind) (e : Int) : SV := match I.nm with
  | .cl => .lit k e
  | _ => .v (.int k e)

/-- What the reader of the runner must show: not looked into. -/
structure Must (p : Unit → Prop) : Prop where
  out : p ()
/-- .. and where all is known, it is asked. -/
def must (I : Ar) (p : Unit → Prop) (b : Unit → Bool) (q : Prop) : Prop := match I.nm with
  | .cl => sel (b ()) (fun _ => q) (fun _ => False)
  | _ => Must p ∧ q

/-- What a divisor must show. -/
def nz (y : SV) (b : Int) (p : Prop) : Prop :=
  match y with
  | .lit _ n => sel (n == 0) (fun _ => False) (fun _ => p)
  | _ => Must (fun _ => b ≠ 0) ∧ p
def nneg (y : SV) (b : Int) (p : Prop) : Prop :=
  match y with
  | .lit _ n => sel (decide (0 ≤ n)) (fun _ => p) (fun _ => False)
  | _ => Must (fun _ => 0 ≤ b) ∧ p

def sxInt (I : Ar) (op : BinOp) (y : SV) (ka : IntKind) (a : Int) (kb : IntKind) (b : Int) (k : SV → Prop) : Prop :=
  match op with
  | .shl => nneg y b (nmd I ka (I.shl ka a b) k)
  | .shr => nneg y b (nmd I ka (I.shr ka a b) k)
  | op => iB (kEq ka kb) <| match op with
    | .add => nmd I ka (I.wrap ka (I.add a b)) k
    | .sub => nmd I ka (I.wrap ka (I.sub a b)) k
    | .mul => nmd I ka (I.wrap ka (I.mul a b)) k
    | .quo => nz y b (nmd I ka (I.wrap ka (I.quo a b)) k)
    | .rem => nz y b (nmd I ka (I.rem a b) k)
    | .and => nmd I ka (I.bits .and ka a b) k
    | .or => nmd I ka (I.bits .or ka a b) k
    | .xor => nmd I ka (I.bits .xor ka a b) k
    | .andNot => nmd I ka (I.bits .andNot ka a b) k
    | .eql => k (mkB I (I.eq a b))
    | .neq => k (mkB I (I.bnot (I.eq a b)))
    | .lss => k (mkB I (I.lt a b))
    | .leq => k (mkB I (I.le a b))
    | .gtr => k (mkB I (I.lt b a))
    | .geq => k (mkB I (I.le b a))
    | _ => False

def isAg (i : TI) : Bool := match i.kind with | .arr _ _ | .strct _ => true | _ => false
def subC (cells : List SV) (off n : Nat) : Option (List SV) := let l := (cells.drop off).take n; sel (Nat.beq l.length n) (fun _ => (some l)) (fun _ => none)

/-- Equality of two values, cell by cell. -/
def eqAt (I : Ar) (tt : TT) : Nat → TI → List SV → List SV → Option Bool
  | 0, _, _, _ => none
  | f + 1, i, xs, ys => match i.kind with
    | .int _ => match xs, ys with
      | [x], [y] => match asI x, asI y with
        | some (ka, a), some (kb, b) => sel (kEq ka kb) (fun _ => (some (I.eq a b))) (fun _ => none)
        | _, _ => none
      | _, _ => none
    | .bool => match xs, ys with
      | [x], [y] => match asB x, asB y with
        | some a, some b => some (I.beq a b)
        | _, _ => none
      | _, _ => none
    | .strct fs => sel i.eqok (fun _ => (eqFs fs xs ys fun j xs ys => eqAt I tt f j xs ys)) (fun _ => none)
    | .arr n e => match tinf tt e with
      | some j => eqIs n 0 j xs ys fun xs ys => eqAt I tt f j xs ys
      | none => none
    | _ => none
where
  eqFs (fs : List (TypeId × Nat)) (xs ys : List SV) (go : TI → List SV → List SV → Option Bool) : Option Bool :=
    match fs with
    | [] => some true
    | (t, off) :: r => match tinf tt t with
      | some j => match subC xs off j.size, subC ys off j.size with
        | some x, some y => match go j x y, eqFs r xs ys go with
          | some a, some b => some (I.band a b)
          | _, _ => none
        | _, _ => none
      | none => none
  eqIs (n k : Nat) (j : TI) (xs ys : List SV) (go : List SV → List SV → Option Bool) : Option Bool :=
    match n with
    | 0 => some true
    | n + 1 => match subC xs (k * j.size) j.size, subC ys (k * j.size) j.size with
      | some x, some y => match go x y, eqIs n (k + 1) j xs ys go with
        | some a, some b => some (I.band a b)
        | _, _ => none
      | _, _ => none

def sxBin (I : Ar) (tt : TT) (ti : Option TI) (op : BinOp) (x y : SV) (k : SV → Prop) : Prop :=
  match x, y with
  | .lit ka a, .lit kb b => match kEq ka kb, litOp op ka a b with
    | true, some r => k r
    | _, _ => sxInt I op (.lit kb b) ka a kb b k
  | x, y => match asI x, asI y with
    | some (ka, a), some (kb, b) => sxInt I op y ka a kb b k
    | _, _ => match x, y with
      | .v (.string a), .v (.string b) => match op with
        | .eql => k (mkB I (I.seq a b))
        | .neq => k (mkB I (I.bnot (I.seq a b)))
        | .add => must I (fun _ => ((a.size + b.size : Nat) : Int) ≤ 9223372036854775807) (fun _ => decide (((a.size + b.size : Nat) : Int) ≤ 9223372036854775807)) (k (.v (.string (a ++ b))))
        | _ => False
      | _, _ => oB ti fun i => match asB x, asB y with
        | some a, some b => match op, i.kind with
          | .eql, .bool => k (mkB I (I.beq a b))
          | .neq, .bool => k (mkB I (I.bnot (I.beq a b)))
          | _, _ => False
        | _, _ => oB (aggOf x) fun xs => oB (aggOf y) fun ys => iB (isAg i && i.eqok) <| oB (eqAt I tt 6 i xs ys) fun e => match op with
          | .eql => k (mkB I e)
          | .neq => k (mkB I (I.bnot e))
          | _ => False

def zeroSV (i : TI) : SV :=
  match i.kind with
  | .arr _ _ | .strct _ => .agg (i.zero.map ofC1)
  | _ => match i.zero with
    | [z] => ofC1 z
    | _ => .agg (i.zero.map ofC1)

/-- A part of a row of cells, as a value of a type. -/
def partOf (i : TI) (cells : List SV) (off : Nat) : Option SV :=
  sel (isAg i) (fun _ => (let l := (cells.drop off).take i.size; sel (Nat.beq l.length i.size) (fun _ => (some (.agg l))) (fun _ => none))) (fun _ => (nth cells off))

def splice (cells : List SV) (off : Nat) (l : List SV) : List SV :=
  match l with
  | [] => cells
  | x :: r => splice (setN cells off x) (off + 1) r

def fillS (place : Nat → Option (Nat × Nat)) (cells : List SV) : List (Nat × SV) → Option (List SV)
  | [] => some cells
  | (i, x) :: rest => match place i, cellsOf x with
    | some (off, size), some l => sel (Nat.beq l.length size && Nat.ble (off + size) cells.length) (fun _ => (fillS place (splice cells off l) rest)) (fun _ => none)
    | _, _ => none

/-- The value of one cell. -/
def plainC : SV → Bool
  | .agg _ | .tup _ | .un => false
  | .v x => match x with
    | .agg _ | .tuple _ => false
    | _ => true
  | _ => true

def fieldOf (tt : TT) (i : TI) (f : Nat) : Option (TI × Nat) :=
  match i.kind with
  | .strct fs => match nth fs f with
    | some (t, off) => match tinf tt t with
      | some ft => some (ft, off)
      | none => none
    | none => none
  | _ => none

def placeOf (tt : TT) (i : TI) (k : Nat) : Option (Nat × Nat) :=
  match i.kind with
  | .strct _ => (fieldOf tt i k).map fun (ft, off) => (off, ft.size)
  | .arr _ e => (tinf tt e).map fun et => (k * et.size, et.size)
  | _ => none

def knownFs (tt : TT) : List (TypeId × Nat) → Bool
  | [] => true
  | p :: r => match tinf tt p.1 with
    | some _ => knownFs tt r
    | none => false
def known (tt : TT) (i : TI) : Bool :=
  match i.kind with
  | .strct fs => knownFs tt fs
  | .arr _ e => match tinf tt e with
    | some _ => true
    | none => false
  | _ => false

def evP (s : St) : List (Nat × Operand) → Option (List (Nat × SV))
  | [] => some []
  | (i, x) :: r => match evO s x, evP s r with
    | some a, some l => some ((i, a) :: l)
    | _, _ => none

/-- A block of which something is known. -/
def getL (l : List (Nat × Blk)) (id : Nat) : Option Blk := match getB l id with
  | some b => match b.m with
    | .dd => none
    | _ => some b
  | none => none
/-- The next number for a block. -/
def nextB : List (Nat × Blk) → Nat
  | [] => 0
  | (i, _) :: r => max (i + 1) (nextB r)
/-- A callee that takes values and gives a value. -/
structure CallV (E : Env) (f : FuncId) (args : List SV) (r : SV) : Prop where
  out : (∃ fn, E.P.funcs[f]? = some fn ∧ (fn.name == "runtime.NumGoroutine") = false ∧ fn.body.isSome = true) ∧ ∃ vs V, (∀ β, denL β args = some vs) ∧ (∀ β, r.den β = some V) ∧
    ∀ w, Calls E.P f vs.toArray w fun e w' => e = .returned V ∧ Below w.heap.size w w'

def o_move (I : Ar) (E : Env) (tt : TT) (base j : Nat) (o : Oper) (s : St) (k : St → List Nat → List Nat → Prop) (x : Operand) : Prop :=
  oB (evO s x) fun a => k (s.put o a) [] []
def o_assign (I : Ar) (E : Env) (tt : TT) (base j : Nat) (o : Oper) (s : St) (k : St → List Nat → List Nat → Prop) (x : Operand) : Prop :=
  oB (evO s x) fun a => k (s.put o a) [] []
def o_pick (I : Ar) (E : Env) (tt : TT) (base j : Nat) (o : Oper) (s : St) (k : St → List Nat → List Nat → Prop) (c : Operand) (a : Operand) (b : Operand) : Prop :=
  oB (evO s c) fun cv => oB (evO s a) fun av => oB (evO s b) fun bv => match cv with
    | .bl t => sel t (fun _ => (k (s.put o av) [] [])) (fun _ => (k (s.put o bv) [] []))
    | .v (.bool e) => (e = true → k (s.put o av) [] []) ∧ (e = false → k (s.put o bv) [] [])
    | _ => False
def o_alloc (I : Ar) (E : Env) (tt : TT) (base j : Nat) (o : Oper) (s : St) (k : St → List Nat → List Nat → Prop) (t : TypeId) : Prop :=
  oB (tinf tt t) fun i => match getB s.blks (base + j) with
    | none => k ((s.setB (base + j) ⟨t, i.zero.map ofC1, .ex⟩).put o (.ptr (base + j) 0)) [base + j] [base + j]
    | some _ => False
def o_box (I : Ar) (E : Env) (tt : TT) (base j : Nat) (o : Oper) (s : St) (k : St → List Nat → List Nat → Prop) (t : TypeId) (x : Operand) : Prop :=
  oB (evO s x) fun a => oB (cellsOf a) fun l => match getB s.blks (base + j) with
    | none => k ((s.setB (base + j) ⟨t, l, .ex⟩).put o (.ptr (base + j) 0)) [base + j] [base + j]
    | some _ => False
def o_build (I : Ar) (E : Env) (tt : TT) (base j : Nat) (o : Oper) (s : St) (k : St → List Nat → List Nat → Prop) (t : TypeId) (ps : Array (Nat × Operand)) : Prop :=
  oB (tinf tt t) fun i => iB (known tt i) <| oB (evP s ps.toList) fun l => oB (fillS (placeOf tt i) (i.zero.map ofC1) l) fun cs => k (s.put o (.agg cs)) [] []
def o_load (I : Ar) (E : Env) (tt : TT) (base j : Nat) (o : Oper) (s : St) (k : St → List Nat → List Nat → Prop) (t : TypeId) (x : Operand) : Prop :=
  oB (evO s x) fun a => oB (tinf tt t) fun i => match a with
    | .ptr id off => oB (getL s.blks id) fun b => oB (partOf i b.cells off) fun r => k (s.put o r) [id] []
    | .px id off => oB (getL s.blks id) fun b => ∃ r, partOf i b.cells off = some r ∧ k (s.put o r) [id] []
    | .v (.pointer (some p)) => sel (isAg i) (fun _ => False) (fun _ => (∃ r, E.w0.cell? p = some r ∧ E.prot p.block ∧ k (s.put o (.v r)) [] []))
    | _ => False
def o_store (I : Ar) (E : Env) (tt : TT) (base j : Nat) (o : Oper) (s : St) (k : St → List Nat → List Nat → Prop) (t : TypeId) (x : Operand) (y : Operand) : Prop :=
  oB (evO s x) fun a => oB (evO s y) fun c => oB (tinf tt t) fun i => oB (cellsOf c) fun l => sel (Nat.beq l.length i.size && l.all plainC) (fun _ => (match a with
    | .ptr id off => oB (getL s.blks id) fun b => sel (Nat.ble (off + i.size) b.cells.length) (fun _ => (k ((s.setB id ⟨b.ty, splice b.cells off l, b.m⟩).put o (.v undef)) [id] [id])) (fun _ => False)
    | .px id off => oB (getL s.blks id) fun b => Must (fun _ => off + i.size ≤ b.cells.length) ∧ k ((s.setB id ⟨b.ty, splice b.cells off l, b.m⟩).put o (.v undef)) [id] [id]
    | _ => False)) (fun _ => False)
def o_nilCheck (I : Ar) (E : Env) (tt : TT) (base j : Nat) (o : Oper) (s : St) (k : St → List Nat → List Nat → Prop) (x : Operand) : Prop :=
  oB (evO s x) fun a => match a with
    | .ptr id off => k (s.put o (.ptr id off)) [] []
    | .px id off => k (s.put o (.px id off)) [] []
    | .v (.pointer (some p)) => k (s.put o (.v (.pointer (some p)))) [] []
    | _ => False
def o_binOp (I : Ar) (E : Env) (tt : TT) (base j : Nat) (o : Oper) (s : St) (k : St → List Nat → List Nat → Prop) (op : BinOp) (t : TypeId) (x : Operand) (y : Operand) (u4 : TypeId) : Prop :=
  oB (evO s x) fun a => oB (evO s y) fun b => sxBin I tt (tinf tt t) op a b fun r => k (s.put o r) [] []
def o_unOp (I : Ar) (E : Env) (tt : TT) (base j : Nat) (o : Oper) (s : St) (k : St → List Nat → List Nat → Prop) (op : UnOp) (u1 : TypeId) (x : Operand) : Prop :=
  oB (evO s x) fun a => match op with
    | .neg => oB (asI a) fun (kk, n) => nmd I kk (I.wrap kk (I.sub 0 n)) fun r => k (s.put o r) [] []
    | .not => oB (asB a) fun b => k (s.put o (mkB I (I.bnot b))) [] []
    | _ => False
def o_convert (I : Ar) (E : Env) (tt : TT) (base j : Nat) (o : Oper) (s : St) (k : St → List Nat → List Nat → Prop) (src : TypeId) (dst : TypeId) (x : Operand) : Prop :=
  oB (evO s x) fun a => oB (tinf tt src) fun _ => oB (tinf tt dst) fun i => match i.kind with
    | .int kk => match a with
      | .lit _ n => k (s.put o (.lit kk (kk.wrap n))) [] []
      | a => oB (asI a) fun (_, n) => nmd I kk (I.wrap kk n) fun r => k (s.put o r) [] []
    | _ => False
def o_fieldAddr (I : Ar) (E : Env) (tt : TT) (base j : Nat) (o : Oper) (s : St) (k : St → List Nat → List Nat → Prop) (t : TypeId) (x : Operand) (f : Nat) : Prop :=
  oB (evO s x) fun a => oB (tinf tt t) fun i => oB (fieldOf tt i f) fun (ft, off) => sel (Nat.beq ft.size 0) (fun _ => False) fun _ => match a with
    | .ptr id o' => k (s.put o (.ptr id (o' + off))) [] []
    | .px id o' => k (s.put o (.px id (o' + off))) [] []
    | .v (.pointer (some ⟨b, o', none⟩)) => k (s.put o (.v (.pointer (some ⟨b, o' + off, none⟩)))) [] []
    | _ => False
def o_field (I : Ar) (E : Env) (tt : TT) (base j : Nat) (o : Oper) (s : St) (k : St → List Nat → List Nat → Prop) (t : TypeId) (x : Operand) (f : Nat) : Prop :=
  oB (evO s x) fun a => oB (tinf tt t) fun i => oB (fieldOf tt i f) fun (ft, off) => oB (aggOf a) fun l => oB (partOf ft l off) fun r => k (s.put o r) [] []
def o_indexAddr (I : Ar) (E : Env) (tt : TT) (base j : Nat) (o : Oper) (s : St) (k : St → List Nat → List Nat → Prop) (t : TypeId) (x : Operand) (ix : Operand) : Prop :=
  oB (evO s x) fun a => oB (evO s ix) fun iv => oB (tinf tt t) fun i => oB (asI iv) fun (kk, n) => match i.kind with
    | .arr len e => oB (tinf tt e) fun et => match a, iv with
      | .ptr id o', .lit _ m => sel (decide (0 ≤ m) && decide (m < (len : Int))) (fun _ => (k (s.put o (.ptr id (o' + m.toNat * et.size))) [] [])) (fun _ => False)
      | .ptr id o', _ => Must (fun _ => 0 ≤ n ∧ n < (len : Int)) ∧ k (s.put o (.px id (I.off o' n et.size))) [] []
      | .px id o', _ => Must (fun _ => 0 ≤ n ∧ n < (len : Int)) ∧ k (s.put o (.px id (I.off o' n et.size))) [] []
      | _, _ => False
    | .slice e => oB (tinf tt e) fun et => match a with
      | .sl id o' len _ => Must (fun _ => 0 ≤ n ∧ n < (len : Int)) ∧ k (s.put o (.px id (I.off o' n et.size))) [] []
      | .v (.slice (some ⟨b, o', none⟩) len _) => Must (fun _ => 0 ≤ n ∧ n < (len : Int)) ∧ k (s.put o (.v (.pointer (some ⟨b, I.off o' n et.size, none⟩)))) [] []
      | _ => False
    | _ => False
def o_index (I : Ar) (E : Env) (tt : TT) (base j : Nat) (o : Oper) (s : St) (k : St → List Nat → List Nat → Prop) (t : TypeId) (x : Operand) (ix : Operand) : Prop :=
  oB (evO s x) fun a => oB (evO s ix) fun iv => oB (tinf tt t) fun i => oB (asI iv) fun (kk, n) => match i.kind with
    | .arr len e => oB (tinf tt e) fun et => oB (aggOf a) fun l => match iv with
      | .lit _ m => sel (decide (0 ≤ m) && decide (m < (len : Int))) (fun _ => (oB (partOf et l (m.toNat * et.size)) fun r => k (s.put o r) [] [])) (fun _ => False)
      | _ => Must (fun _ => 0 ≤ n ∧ n < (len : Int)) ∧ ∃ r, partOf et l (n.toNat * et.size) = some r ∧ k (s.put o r) [] []
    | .str => match a with
      | .v (.string b) => Must (fun _ => 0 ≤ n ∧ n < (b.size : Int)) ∧ k (s.put o (.v (.int .u8 (I.byte b n.toNat)))) [] []
      | _ => False
    | _ => False
def o_extract (I : Ar) (E : Env) (tt : TT) (base j : Nat) (o : Oper) (s : St) (k : St → List Nat → List Nat → Prop) (x : Operand) (ix : Nat) : Prop :=
  oB (evO s x) fun a => match a with
    | .tup l => oB (nth l ix) fun r => k (s.put o r) [] []
    | _ => False
def o_call (I : Ar) (E : Env) (tt : TT) (base j : Nat) (o : Oper) (s : St) (k : St → List Nat → List Nat → Prop) (c : Call) : Prop :=
  match c.callee with
    | .value (.func f) => oB (evL s c.args.toList) fun l => ∃ r, CallV E f l r ∧ k (s.put o r) [] []
    | .builtin .len => match c.args.toList, c.argTypes.toList with
      | [x], u :: _ => oB (evO s x) fun a => oB (tinf tt u) fun i => match i.kind, a with
        | .slice _, .sl _ _ len _ => k (s.put o (.v (.int .i64 (len : Int)))) [] []
        | .slice _, .v (.slice _ len _) => k (s.put o (.v (.int .i64 (len : Int)))) [] []
        | .str, .v (.string b) => k (s.put o (.v (.int .i64 (b.size : Int)))) [] []
        | _, _ => False
      | _, _ => False
    | _ => False
def sxOp (I : Ar) (E : Env) (tt : TT) (base j : Nat) (o : Oper) (s : St) (k : St → List Nat → List Nat → Prop) : Prop :=
  match o.op with
  | .move x => o_move I E tt base j o s k x
  | .assign x => o_assign I E tt base j o s k x
  | .pick c a b => o_pick I E tt base j o s k c a b
  | .alloc t => o_alloc I E tt base j o s k t
  | .box t x => o_box I E tt base j o s k t x
  | .build t ps => o_build I E tt base j o s k t ps
  | .load t x => o_load I E tt base j o s k t x
  | .store t x y => o_store I E tt base j o s k t x y
  | .nilCheck x => o_nilCheck I E tt base j o s k x
  | .binOp op t x y u4 => o_binOp I E tt base j o s k op t x y u4
  | .unOp op u1 x => o_unOp I E tt base j o s k op u1 x
  | .convert src dst x => o_convert I E tt base j o s k src dst x
  | .fieldAddr t x f => o_fieldAddr I E tt base j o s k t x f
  | .field t x f => o_field I E tt base j o s k t x f
  | .indexAddr t x ix => o_indexAddr I E tt base j o s k t x ix
  | .index t x ix => o_index I E tt base j o s k t x ix
  | .extract x ix => o_extract I E tt base j o s k x ix
  | .call c => o_call I E tt base j o s k c
  | _ => False

/-- Numbers of the operations behind which each stands, as bits. -/
def mask1 (acc : List Nat) (es : List Edge) (m : Nat) : Nat :=
  match es with
  | [] => m
  | e :: r => mask1 acc r (cond (Region.binds .any e) (m ||| 2 ^ e.on ||| (nth acc e.on).getD 0) m)
def masks : List Nat → List Oper → List Nat
  | acc, [] => acc
  | acc, o :: l => masks (acc ++ [mask1 acc o.after.toList 0]) l

def disj : List Nat → List Nat → Bool
  | [], _ => true
  | x :: r, l => !(l.any (Nat.beq x)) && disj r l
/-- Whether what an operation did to blocks goes with what the others before it did in whatever order. -/
def goes (m : Nat) (r w : List Nat) : List (Nat × List Nat × List Nat) → Bool
  | [] => true
  | (i, ri, wi) :: t => (m.testBit i || (disj wi r && disj w ri)) && goes m r w t

inductive Ex where
  | normal | exit (id : Nat) | ret

def QK (E : Env) (K : Ex → St → Prop) : Exit → Act → World → Prop
  | .normal, a, w => ∃ s β, Sz E.nt s ∧ Rl E s.sg β a w ∧ K .normal s
  | .exit id, a, w => ∃ s β, Sz E.nt s ∧ Rl E s.sg β a w ∧ K (.exit id) s
  | .ret, a, w => ∃ s β, Sz E.nt s ∧ Rl E s.sg β a w ∧ K .ret s
  | _, _, _ => False

/-- A loop, as the model has it. -/
structure LoopP (E : Env) (body : Code) (s : St) (K : Ex → St → Prop) : Prop where
  out : ∀ β a w, Sz E.nt s → Rl E s.sg β a w → (Code.loop body).wp E.P (QK E K) a w

end

noncomputable section
variable {nm : Bool}

theorem nth_eq {α : Type} : ∀ (l : List α) (n : Nat), nth l n = l[n]?
  | [], _ => by simp [nth_nil, nth_zero, nth_succ]
  | x :: r, 0 => by simp [nth_nil, nth_zero, nth_succ]
  | x :: r, n + 1 => by simp [nth_nil, nth_zero, nth_succ, nth_eq r n]
theorem setN_eq {α : Type} : ∀ (l : List α) (n : Nat) (y : α), setN l n y = l.set n y
  | [], _, _ => by simp [setN]
  | x :: r, 0, _ => by simp [setN]
  | x :: r, n + 1, y => by simp [setN, setN_eq r n y]
theorem Br.get_set : ∀ (b : Br) (i j : Nat) (y : SV), (b.set i y).get j = if i = j then (b.get j).map (fun _ => y) else b.get j
  | .lf, i, j, y => by simp [sel_eq, Br.set_lf, Br.set_zero, Br.set_succ, Br.get_lf, Br.get_zero, Br.get_succ]
  | .nd x l r, 0, 0, y => by simp [sel_eq, Br.set_lf, Br.set_zero, Br.set_succ, Br.get_lf, Br.get_zero, Br.get_succ]
  | .nd x l r, 0, j + 1, y => by simp [sel_eq, Br.set_lf, Br.set_zero, Br.set_succ, Br.get_lf, Br.get_zero, Br.get_succ]
  | .nd x l r, i + 1, 0, y => by
    simp only [sel_eq, Br.set_lf, Br.set_zero, Br.set_succ]
    cases Nat.beq (i % 2) 0 <;> simp [sel_eq, Br.get_lf, Br.get_zero, Br.get_succ]
  | .nd x l r, i + 1, j + 1, y => by
    simp only [sel_eq, Br.set_lf, Br.set_zero, Br.set_succ]
    cases hi : Nat.beq (i % 2) 0 with
    | true =>
      have hi' := Nat.eq_of_beq_eq_true hi
      simp only [sel_eq, cond_true, Br.get_lf, Br.get_zero, Br.get_succ]
      cases hj : Nat.beq (j % 2) 0 with
      | true =>
        have hj' := Nat.eq_of_beq_eq_true hj
        simp only [cond_true, Br.get_set l]
        by_cases h : i = j
        · subst h; simp
        · rw [if_neg (by omega), if_neg (by omega)]
      | false =>
        have hj' : j % 2 ≠ 0 := fun e => by rw [e] at hj; simp at hj
        simp only [cond_false]
        rw [if_neg (by omega)]
    | false =>
      have hi' : i % 2 ≠ 0 := fun e => by rw [e] at hi; simp at hi
      simp only [sel_eq, cond_false, Br.get_lf, Br.get_zero, Br.get_succ]
      cases hj : Nat.beq (j % 2) 0 with
      | true =>
        have hj' := Nat.eq_of_beq_eq_true hj
        simp only [cond_true]
        rw [if_neg (by omega)]
      | false =>
        have hj' : j % 2 ≠ 0 := fun e => by rw [e] at hj; simp at hj
        simp only [cond_false, Br.get_set r]
        by_cases h : i = j
        · subst h; simp
        · rw [if_neg (by omega), if_neg (by omega)]
theorem Br.get_mk : ∀ (f n : Nat) (x : SV) (t : Nat), n ≤ f → (Br.mk f n x).get t = if t < n then some x else none
  | 0, n, x, t, h => by obtain rfl : n = 0 := by omega
                        simp [sel_eq, Br.mk, Br.get_lf, Br.get_zero, Br.get_succ]
  | f + 1, 0, x, t, _ => by simp [sel_eq, Br.mk, Br.get_lf, Br.get_zero, Br.get_succ]
  | f + 1, n + 1, x, 0, _ => by simp [sel_eq, Br.mk, Br.get_lf, Br.get_zero, Br.get_succ]
  | f + 1, n + 1, x, t + 1, h => by
    simp only [sel_eq, Br.mk, Br.get_lf, Br.get_zero, Br.get_succ]
    cases hj : Nat.beq (t % 2) 0 with
    | true =>
      have hj' := Nat.eq_of_beq_eq_true hj
      simp only [cond_true]
      rw [Br.get_mk f ((n + 1) / 2) x (t / 2) (by omega)]
      by_cases hh : t + 1 < n + 1
      · rw [if_pos (by omega), if_pos hh]
      · rw [if_neg (by omega), if_neg hh]
    | false =>
      have hj' : t % 2 ≠ 0 := fun e => by rw [e] at hj; simp at hj
      simp only [cond_false]
      rw [Br.get_mk f (n / 2) x (t / 2) (by omega)]
      by_cases hh : t + 1 < n + 1
      · rw [if_pos (by omega), if_pos hh]
      · rw [if_neg (by omega), if_neg hh]
theorem Br.get_sets : ∀ (l : List SV) (b : Br) (i t : Nat), (Br.sets b i l).get t = if i ≤ t ∧ t < i + l.length then (b.get t).bind (fun _ => nth l (t - i)) else b.get t
  | [], b, i, t => by
    simp only [Br.sets, List.length_nil, Nat.add_zero]
    rw [if_neg (by omega)]
  | x :: l, b, i, t => by
    simp only [Br.sets, List.length_cons]
    rw [Br.get_sets l, Br.get_set]
    by_cases h1 : i = t
    · subst h1
      rw [if_neg (by omega), if_pos rfl, if_pos (by omega)]
      simp [nth_nil, nth_zero, nth_succ]
      cases b.get i <;> rfl
    · rw [if_neg h1]
      by_cases h2 : i + 1 ≤ t ∧ t < i + 1 + l.length
      · rw [if_pos h2, if_pos (by omega)]
        have : t - i = (t - (i + 1)) + 1 := by omega
        rw [this]; rfl
      · rw [if_neg h2, if_neg (by omega)]
theorem Br.get_ofL (l : List SV) (t : Nat) : (Br.ofL l).get t = nth l t := by
  unfold Br.ofL
  rw [Br.get_sets, Br.get_mk _ _ _ _ (Nat.le_refl _)]
  by_cases h : t < l.length
  · rw [if_pos (by omega), if_pos h]; simp
  · rw [if_neg (by omega), if_neg h, nth_eq, List.getElem?_eq_none (by omega)]
theorem Br.get_ofA (l : List SV) (n t : Nat) (hl : l.length ≤ n) : (Br.ofA l n).get t = if t < l.length then nth l t else if t < n then some (.v undef) else none := by
  unfold Br.ofA
  rw [Br.get_sets, Br.get_mk _ _ _ _ (Nat.le_refl _)]
  by_cases h : t < l.length
  · rw [if_pos (by omega), if_pos (by omega), if_pos h]; simp
  · rw [if_neg (by omega), if_neg h]

theorem nbeq_ne {i j : Nat} (h : i ≠ j) : Nat.beq i j = false := Bool.eq_false_iff.2 (fun e => h (Nat.eq_of_beq_eq_true e))
theorem getB_setB (l : List (Nat × Blk)) (id : Nat) (b : Blk) (j : Nat) : getB (setB l id b) j = if j = id then some b else getB l j := by
  induction l with
  | nil =>
    simp only [sel_eq, setB_nil, setB_cons, getB_nil, getB_cons]
    by_cases h : j = id
    · subst h; simp
    · have : Nat.beq id j = false := nbeq_ne (Ne.symm h)
      simp [this, h]
  | cons p l ih =>
    obtain ⟨i, c⟩ := p
    simp only [sel_eq, setB_nil, setB_cons]
    cases hi : Nat.beq i id with
    | true =>
      obtain rfl : i = id := Nat.eq_of_beq_eq_true hi
      simp only [sel_eq, cond_true, getB_nil, getB_cons]
      by_cases h : j = i
      · subst h; simp
      · have : Nat.beq i j = false := nbeq_ne (Ne.symm h)
        simp [this, h]
    | false =>
      simp only [sel_eq, cond_false, getB_nil, getB_cons, ih]
      have hne : i ≠ id := fun e => by subst e; simp at hi
      cases hj : Nat.beq i j with
      | true =>
        obtain rfl : i = j := Nat.eq_of_beq_eq_true hj
        simp [hne]
      | false => simp

def putW (d : Option Nat) (x : SV) : List (Key × Dn) := match d with | some t => [(.tmp t, .val x)] | none => []

theorem upd_putW {σ : Sg} {d : Option Nat} {x : SV} (k : Key) : upd σ (putW d x) k = if ∃ t, d = some t ∧ k = .tmp t then some (.val x) else σ k := by
  cases d with
  | none => simp [putW, upd, look]
  | some t =>
    simp only [putW, upd, look]
    by_cases h : Key.tmp t = k
    · subst h; simp
    · have : ¬ ∃ u, some t = some u ∧ k = Key.tmp u := by rintro ⟨u, hu, hk⟩; injection hu with hu; subst hu; exact h hk.symm
      rw [if_neg this, if_neg h]

theorem sg_put {s : St} {o : Oper} {x : SV} (hd : ∀ t, o.dst = some t → ∃ y, s.tmps.get t = some y) : (s.put o x).sg = upd s.sg (putW o.dst x) := by
  funext k
  rw [upd_putW]
  cases h : o.dst with
  | none => simp [St.put, h]
  | some t =>
    have ht := hd t h
    cases k with
    | blk id => simp [St.put, h, St.sg]
    | tmp u =>
      simp only [St.put, h, St.sg, Br.get_set, Option.some.injEq, Key.tmp.injEq]
      by_cases hu : u = t
      · subst hu; obtain ⟨y, hy⟩ := ht; simp [hy]
      · have : ¬ ∃ t', t = t' ∧ u = t' := by rintro ⟨t', rfl, h2⟩; exact hu h2
        simp [Ne.symm hu, this]

theorem len_put {s : St} {o : Oper} {x : SV} (n : Nat) (h : Sz n s) : Sz n (s.put o x) := by
  unfold St.put
  split
  · intro t
    rw [← h t]
    simp only [Br.get_set]
    split
    · rename_i e; subst e; constructor
      · rintro ⟨y, hy⟩; rw [Option.map_eq_some_iff] at hy; obtain ⟨z, hz, _⟩ := hy; exact ⟨z, hz⟩
      · rintro ⟨y, hy⟩; exact ⟨x, by rw [hy]; rfl⟩
    · exact Iff.rfl
  · exact h

theorem Hl.put {E : Env} {σ : Sg} {β : Ren} {w : World} (h : Hl E σ β w) (d : Option Nat) (x : SV) : Hl E (upd σ (putW d x)) β w := by
  have hb : ∀ id, upd σ (putW d x) (.blk id) = σ (.blk id) := by
    intro id
    rw [upd_putW, if_neg (by rintro ⟨t, _, h2⟩; cases h2)]
  refine ⟨?_, ?_, ?_, h.keep, h.anc⟩
  · intro id b hh; rw [hb] at hh; exact h.blk id b hh
  · intro id hh; rw [hb] at hh; exact h.fresh id hh
  · intro i j b c q r h1 h2 h3 h4; rw [hb] at h1 h3; exact h.inj i j b c q r h1 h2 h3 h4
theorem Rl.put {E : Env} {σ : Sg} {β : Ren} {a : Act} {w : World} (h : Rl E σ β a w) {x : SV} {v : Value} (hx : x.den β = some v) {d : Option Nat} (hd : ∀ t, d = some t → t < E.nt) :
    Rl E (upd σ (putW d x)) β (a.put d v) w := by
  cases d with
  | none =>
    have e : upd σ (putW none x) = σ := by funext k; rw [upd_putW]; simp
    rw [e]; exact h
  | some t =>
    have ht := hd t rfl
    refine ⟨h.toHl.put _ _, by simp [Act.put, h.size], h.defers, ?_⟩
    · intro u y hy
      rw [upd_putW] at hy
      by_cases hu : u = t
      · subst hu
        simp only [Option.some.injEq, exists_eq_left', if_true] at hy
        obtain rfl : x = y := by simpa using hy
        exact ⟨ht, fun _ => by rw [hx]; simp [Act.put, Array.getD, h.size, ht]⟩
      · have : ¬ ∃ t', some t = some t' ∧ Key.tmp u = Key.tmp t' := by rintro ⟨t', h1, h2⟩; injection h1 with h1; injection h2 with h2; exact hu (by omega)
        rw [if_neg this] at hy
        obtain ⟨h1, h2⟩ := h.tmp u y hy
        refine ⟨h1, fun hun => ?_⟩
        rw [h2 hun]
        simp only [Act.put, Array.getD_eq_getD_getElem?, Array.getElem?_setIfInBounds, Ne.symm hu, if_false]

theorem heap_lt {w : World} {p : Nat} {o : Obj} (h : w.heap[p]? = some o) : p < w.heap.size := (Array.getElem?_eq_some_iff.1 h).1

/-- A new block. -/
theorem Rl.alloc {E : Env} {σ : Sg} {β : Ren} {a : Act} {w : World} (h : Rl E σ β a w) {id : Nat} (hid : σ (.blk id) = none) {ty : TypeId} {cells : List SV} {vs : List Value} (rest : List Value) (m : BM) (c : Nat) (hm : m.fits c (vs ++ rest).length rest) (hv : denL β cells = some vs) :
    let β' : Ren := fun i => if i = id then some ⟨w.heap.size, 0, c⟩ else β i
    Le β β' ∧ Rl E (upd σ [(.blk id, .blk ⟨ty, cells, m⟩)]) β' a { w with heap := w.heap.push (.cells (vs ++ rest).toArray ty) } := by
  intro β'
  have hle : Le β β' := by
    intro i p hp
    by_cases hi : i = id
    · subst hi; rw [h.fresh i hid] at hp; cases hp
    · simp [β', hi, hp]
  have hu : ∀ i, i ≠ id → upd σ [(Key.blk id, Dn.blk ⟨ty, cells, m⟩)] (.blk i) = σ (.blk i) := by intro i hi; simp [upd, look, Ne.symm hi]
  have hu1 : upd σ [(Key.blk id, Dn.blk ⟨ty, cells, m⟩)] (.blk id) = some (.blk ⟨ty, cells, m⟩) := by simp [upd, look]
  have hsz := h.keep.size
  refine ⟨hle, ⟨?_, ?_, ?_, ?_, ?_⟩, h.size, h.defers, ?_⟩
  · intro i b hb hlive
    by_cases hi : i = id
    · subst hi
      rw [hu1] at hb
      obtain rfl : (⟨ty, cells, m⟩ : Blk) = b := by injection hb with hb; injection hb
      refine ⟨⟨w.heap.size, 0, c⟩, vs, rest, by simp [β'], denL_mono hle _ hv, by simp, hm, fun hp => ?_⟩
      have := E.low _ hp
      simp only at this
      omega
    · rw [hu i hi] at hb
      obtain ⟨q, us, rs, h1, h2, h3, h4, h5⟩ := h.blk i b hb hlive
      refine ⟨q, us, rs, hle _ _ h1, denL_mono hle _ h2, ?_, h4, h5⟩
      have := heap_lt h3
      simp only [Array.getElem?_push]
      rw [if_neg (by omega)]; exact h3
  · intro i hi
    by_cases hne : i = id
    · subst hne; rw [hu1] at hi; cases hi
    · rw [hu i hne] at hi
      simp [β', hne, h.fresh i hi]
  · intro i j b c' q r h1 h2 h3 h4 h5 h6 h7
    by_cases hi : i = id
    · by_cases hj : j = id
      · rw [hi, hj]
      · rw [hu j hj] at h3
        obtain ⟨q', us, rs, g1, g2, g3, g4, g5⟩ := h.blk j c' h3 h4
        simp only [β', hj, if_false] at h6
        rw [g1] at h6; injection h6 with h6; subst h6
        simp only [β', hi, if_true, Option.some.injEq] at h5
        subst h5
        have := heap_lt g3
        simp only at h7
        omega
    · rw [hu i hi] at h1
      by_cases hj : j = id
      · obtain ⟨q', us, rs, g1, g2, g3, g4, g5⟩ := h.blk i b h1 h2
        simp only [β', hi, if_false] at h5
        rw [g1] at h5; injection h5 with h5; subst h5
        simp only [β', hj, if_true, Option.some.injEq] at h6
        subst h6
        have := heap_lt g3
        simp only at h7
        omega
      · rw [hu j hj] at h3
        simp only [β', hi, hj, if_false] at h5 h6
        exact h.inj i j b c' q r h1 h2 h3 h4 h5 h6 h7
  · refine ⟨h.keep.os, h.keep.tape, h.keep.output, by simp; omega, fun p hp => ?_⟩
    have h1 := E.low p hp
    simp only [Array.getElem?_push]
    rw [if_neg (by omega)]
    exact h.keep.block p hp
  · intro i p hp; exact hle _ _ (h.anc i p hp)
  · intro u y hy
    have : upd σ [(Key.blk id, Dn.blk ⟨ty, cells, m⟩)] (.tmp u) = σ (.tmp u) := by simp [upd, look]
    rw [this] at hy
    obtain ⟨h1, h2⟩ := h.tmp u y hy
    exact ⟨h1, fun hun => SV.den_mono hle _ (h2 hun)⟩

/-- An own block is written. -/
theorem Rl.setBlk {E : Env} {σ : Sg} {β : Ren} {a : Act} {w : World} (h : Rl E σ β a w) {id : Nat} {q : Bd} {b : Blk} (hid : σ (.blk id) = some (.blk b)) (hlive : b.m.live = true) (hp : β id = some q) {cells : List SV} {vs rest : List Value}
    (hv : denL β cells = some vs) (hm : b.m.fits q.c (vs ++ rest).length rest) :
    Rl E (upd σ [(.blk id, .blk ⟨b.ty, cells, b.m⟩)]) β a { w with heap := w.heap.setIfInBounds q.p (.cells (vs ++ rest).toArray b.ty) } := by
  obtain ⟨q', us, rs, g1, g2, g3, g4, g5⟩ := h.blk id b hid hlive
  rw [hp] at g1; injection g1 with g1; subst g1
  have hplt := heap_lt g3
  have hu : ∀ i, i ≠ id → upd σ [(Key.blk id, Dn.blk ⟨b.ty, cells, b.m⟩)] (.blk i) = σ (.blk i) := by intro i hi; simp [upd, look, Ne.symm hi]
  have hu1 : upd σ [(Key.blk id, Dn.blk ⟨b.ty, cells, b.m⟩)] (.blk id) = some (.blk ⟨b.ty, cells, b.m⟩) := by simp [upd, look]
  refine ⟨⟨?_, ?_, ?_, ?_, h.anc⟩, h.size, h.defers, ?_⟩
  · intro i c hc hl
    by_cases hi : i = id
    · subst hi
      rw [hu1] at hc
      obtain rfl : (⟨b.ty, cells, b.m⟩ : Blk) = c := by injection hc with hc; injection hc
      exact ⟨q, vs, rest, hp, hv, by simp [hplt], hm, g5⟩
    · rw [hu i hi] at hc
      obtain ⟨r, us', rs', h1, h2, h3, h4, h5⟩ := h.blk i c hc hl
      refine ⟨r, us', rs', h1, h2, ?_, h4, h5⟩
      have hne : q.p ≠ r.p := fun e => hi (h.inj i id c b r q hc hl hid hlive h1 hp e.symm)
      simp [Array.getElem?_setIfInBounds, hne, h3]
  · intro i hi
    by_cases hne : i = id
    · subst hne; rw [hu1] at hi; cases hi
    · rw [hu i hne] at hi
      exact h.fresh i hi
  · intro i j c c' r r' h1 h2 h3 h4 h5 h6 h7
    have key : ∀ k c, upd σ [(Key.blk id, Dn.blk ⟨b.ty, cells, b.m⟩)] (.blk k) = some (.blk c) → c.m.live = true → ∃ c2, σ (.blk k) = some (.blk c2) ∧ c2.m.live = true := by
      intro k c hk hl
      by_cases hi : k = id
      · subst hi; exact ⟨b, hid, hlive⟩
      · rw [hu k hi] at hk; exact ⟨c, hk, hl⟩
    obtain ⟨c1, k1, k2⟩ := key i c h1 h2
    obtain ⟨c2, k3, k4⟩ := key j c' h3 h4
    exact h.inj i j c1 c2 r r' k1 k2 k3 k4 h5 h6 h7
  · refine ⟨h.keep.os, h.keep.tape, h.keep.output, by simpa using h.keep.size, fun p hpp => ?_⟩
    have hne : q.p ≠ p := fun e => by rw [← e] at hpp; exact g5 hpp
    simp only [Array.getElem?_setIfInBounds, hne, if_false]
    exact h.keep.block p hpp
  · intro u y hy
    have : upd σ [(Key.blk id, Dn.blk ⟨b.ty, cells, b.m⟩)] (.tmp u) = σ (.tmp u) := by simp [upd, look]
    rw [this] at hy
    exact h.tmp u y hy

/-- Nothing is known of a block any more; or a number is spent. -/
theorem Rl.kill {E : Env} {σ : Sg} {β : Ren} {a : Act} {w : World} (h : Rl E σ β a w) (id : Nat) (b : Blk) (hb : b.m.live = false) (bd : Bd) :
    Rl E (upd σ [(.blk id, .blk b)]) (fun i => if i = id ∧ β id = none then some bd else β i) a w := by
  have hle : Le β (fun i => if i = id ∧ β id = none then some bd else β i) := by
    intro i p hp
    simp only
    rw [if_neg (by rintro ⟨rfl, h2⟩; rw [h2] at hp; cases hp)]; exact hp
  have hu : ∀ i, i ≠ id → upd σ [(Key.blk id, Dn.blk b)] (.blk i) = σ (.blk i) := by intro i hi; simp [upd, look, Ne.symm hi]
  have hu1 : upd σ [(Key.blk id, Dn.blk b)] (.blk id) = some (.blk b) := by simp [upd, look]
  refine ⟨⟨?_, ?_, ?_, h.keep, fun i p hp => hle _ _ (h.anc i p hp)⟩, h.size, h.defers, ?_⟩
  · intro i c hc hl
    by_cases hi : i = id
    · subst hi; rw [hu1] at hc; injection hc with hc; injection hc with hc; subst hc; rw [hb] at hl; cases hl
    · rw [hu i hi] at hc
      obtain ⟨q, us, rs, h1, h2, h3⟩ := h.blk i c hc hl
      exact ⟨q, us, rs, hle _ _ h1, denL_mono hle _ h2, h3⟩
  · intro i hi
    by_cases hne : i = id
    · subst hne; rw [hu1] at hi; cases hi
    · rw [hu i hne] at hi
      rw [if_neg (by rintro ⟨rfl, _⟩; exact hne rfl)]; exact h.fresh i hi
  · intro i j c c' r r' h1 h2 h3 h4 h5 h6 h7
    by_cases hi : i = id
    · subst hi; rw [hu1] at h1; injection h1 with h1; injection h1 with h1; subst h1; rw [hb] at h2; cases h2
    · by_cases hj : j = id
      · subst hj; rw [hu1] at h3; injection h3 with h3; injection h3 with h3; subst h3; rw [hb] at h4; cases h4
      · rw [hu i hi] at h1
        rw [hu j hj] at h3
        rw [if_neg (by rintro ⟨rfl, _⟩; exact hi rfl)] at h5
        rw [if_neg (by rintro ⟨rfl, _⟩; exact hj rfl)] at h6
        exact h.inj i j c c' r r' h1 h2 h3 h4 h5 h6 h7
  · intro u y hy
    have : upd σ [(Key.blk id, Dn.blk b)] (.tmp u) = σ (.tmp u) := by simp [upd, look]
    rw [this] at hy
    obtain ⟨h1, h2⟩ := h.tmp u y hy
    exact ⟨h1, fun hun => SV.den_mono hle _ (h2 hun)⟩

theorem denL_length {β : Ren} : ∀ {l : List SV} {vs : List Value}, denL β l = some vs → vs.length = l.length
  | [], vs, e => by simp [denL] at e; subst e; rfl
  | x :: r, vs, e => by
    simp only [denL, Option.bind_eq_some_iff, Option.map_eq_some_iff] at e
    obtain ⟨v, hv, us, hus, rfl⟩ := e
    simp [denL_length hus]

theorem denL_nth {β : Ren} : ∀ {l : List SV} {vs : List Value} {n : Nat} {x : SV}, denL β l = some vs → nth l n = some x → ∃ v, vs[n]? = some v ∧ x.den β = some v
  | [], _, _, _, _, h => by simp [nth_nil, nth_zero, nth_succ] at h
  | x :: r, vs, 0, y, e, h => by
    simp only [denL, Option.bind_eq_some_iff, Option.map_eq_some_iff] at e
    obtain ⟨v, hv, us, hus, rfl⟩ := e
    simp only [nth_nil, nth_zero, nth_succ, Option.some.injEq] at h
    subst h
    exact ⟨v, by simp, hv⟩
  | x :: r, vs, n + 1, y, e, h => by
    simp only [denL, Option.bind_eq_some_iff, Option.map_eq_some_iff] at e
    obtain ⟨v, hv, us, hus, rfl⟩ := e
    simp only [nth_nil, nth_zero, nth_succ] at h
    obtain ⟨u, h1, h2⟩ := denL_nth hus h
    exact ⟨u, by simpa using h1, h2⟩

theorem denL_drop {β : Ren} : ∀ {l : List SV} {vs : List Value} (n : Nat), denL β l = some vs → denL β (l.drop n) = some (vs.drop n)
  | l, vs, 0, e => by simpa using e
  | [], vs, n + 1, e => by simp [denL] at e; subst e; simp [denL]
  | x :: r, vs, n + 1, e => by
    simp only [denL, Option.bind_eq_some_iff, Option.map_eq_some_iff] at e
    obtain ⟨v, hv, us, hus, rfl⟩ := e
    simpa using denL_drop n hus
theorem denL_take {β : Ren} : ∀ {l : List SV} {vs : List Value} (n : Nat), denL β l = some vs → denL β (l.take n) = some (vs.take n)
  | l, vs, 0, e => by simp [denL]
  | [], vs, n + 1, e => by simp [denL] at e; subst e; simp [denL]
  | x :: r, vs, n + 1, e => by
    simp only [denL, Option.bind_eq_some_iff, Option.map_eq_some_iff] at e
    obtain ⟨v, hv, us, hus, rfl⟩ := e
    simp only [List.take_succ_cons, denL, Option.bind_eq_some_iff, Option.map_eq_some_iff]
    exact ⟨v, hv, _, denL_take n hus, rfl⟩
theorem denL_set {β : Ren} : ∀ {l : List SV} {vs : List Value} (n : Nat) {x : SV} {v : Value}, denL β l = some vs → x.den β = some v → denL β (setN l n x) = some (vs.set n v)
  | [], vs, _, _, _, e, _ => by simp [denL] at e; subst e; simp [denL, setN]
  | x :: r, vs, 0, y, u, e, h => by
    simp only [denL, Option.bind_eq_some_iff, Option.map_eq_some_iff] at e
    obtain ⟨v, hv, us, hus, rfl⟩ := e
    simp only [setN, denL, Option.bind_eq_some_iff, Option.map_eq_some_iff]
    exact ⟨u, h, us, hus, by simp⟩
  | x :: r, vs, n + 1, y, u, e, h => by
    simp only [denL, Option.bind_eq_some_iff, Option.map_eq_some_iff] at e
    obtain ⟨v, hv, us, hus, rfl⟩ := e
    simp only [setN, denL, Option.bind_eq_some_iff, Option.map_eq_some_iff]
    exact ⟨v, hv, _, denL_set n hus h, by simp⟩

theorem den_ofC1 (β : Ren) (x : Value) : (ofC1 x).den β = some x := by cases x <;> simp [ofC1, SV.den]
theorem denL_ofC1 (β : Ren) : ∀ (l : List Value), denL β (l.map ofC1) = some l
  | [] => by simp [denL]
  | x :: r => by simp [denL, den_ofC1, denL_ofC1 β r]
theorem den_ofC (β : Ren) (x : Value) : (ofC x).den β = some x := by
  cases x <;> simp [ofC, SV.den, denL_ofC1]

theorem cellsOf_den {β : Ren} {x : SV} {l : List SV} {v : Value} (h : cellsOf x = some l) (hx : x.den β = some v) : denL β l = some v.cells.toList := by
  cases x with
  | lit k n => simp only [cellsOf, Option.some.injEq] at h; subst h; simp only [SV.den, Option.some.injEq] at hx; subst hx; simp [denL, SV.den, Value.cells]
  | bl b => simp only [cellsOf, Option.some.injEq] at h; subst h; simp only [SV.den, Option.some.injEq] at hx; subst hx; simp [denL, SV.den, Value.cells]
  | agg l' => simp only [cellsOf, Option.some.injEq] at h; subst h; simp only [SV.den, Option.map_eq_some_iff] at hx; obtain ⟨vs, hvs, rfl⟩ := hx; simpa [Value.cells] using hvs
  | tup l' => simp [cellsOf] at h
  | un => simp [cellsOf] at h
  | v y =>
    simp only [SV.den, Option.some.injEq] at hx
    subst hx
    cases y <;> simp only [cellsOf, Option.some.injEq, reduceCtorEq] at h <;> subst h <;> simp [denL, SV.den, Value.cells, denL_ofC1]
  | ptr a b => simp only [cellsOf, Option.some.injEq] at h; subst h; simp only [SV.den, Option.map_eq_some_iff] at hx; obtain ⟨q, hq, rfl⟩ := hx; simp [denL, SV.den, Value.cells, hq]
  | px a b => simp only [cellsOf, Option.some.injEq] at h; subst h; simp only [SV.den, Option.map_eq_some_iff] at hx; obtain ⟨q, hq, rfl⟩ := hx; simp [denL, SV.den, Value.cells, hq]
  | sl a b c d => simp only [cellsOf, Option.some.injEq] at h; subst h; simp only [SV.den, Option.map_eq_some_iff] at hx; obtain ⟨q, hq, rfl⟩ := hx; simp [denL, SV.den, Value.cells, hq]
  | row a b c d => simp only [cellsOf, Option.some.injEq] at h; subst h; simp only [SV.den, Option.map_eq_some_iff] at hx; obtain ⟨q, hq, rfl⟩ := hx; simp [denL, SV.den, Value.cells, hq]
  | emp a => simp only [cellsOf, Option.some.injEq] at h; subst h; simp only [SV.den, Option.map_eq_some_iff] at hx; obtain ⟨q, hq, rfl⟩ := hx; simp [denL, SV.den, Value.cells, hq]
  | clo a b => simp only [cellsOf, Option.some.injEq] at h; subst h; simp only [SV.den, Option.map_eq_some_iff] at hx; obtain ⟨q, hq, rfl⟩ := hx; simp [denL, SV.den, Value.cells, hq]
  | ifc a b => simp only [cellsOf, Option.some.injEq] at h; subst h; simp only [SV.den, Option.map_eq_some_iff] at hx; obtain ⟨q, hq, rfl⟩ := hx; simp [denL, SV.den, Value.cells, hq]

end

variable {nm : Md}
noncomputable section

theorem tinf_ok {P : Program} {tt : TT} (h : TTok P tt) {t : TypeId} {i : TI} (e : tinf tt t = some i) : TIok P t i := h t i e
theorem lookT_ok {P : Program} : ∀ {l : List (TypeId × TI)}, (∀ p ∈ l, TIok P p.1 p.2) → TTok P (lookT l)
  | [], _ => by intro t i e; simp [lookT] at e
  | (u, x) :: r, h => by
    intro t i e
    simp only [lookT, sel_eq] at e
    cases hb : Nat.beq u t with
    | true =>
      obtain rfl := Nat.eq_of_beq_eq_true hb
      rw [hb] at e
      simp only [cond_true, Option.some.injEq] at e
      subst e
      exact h (u, x) List.mem_cons_self
    | false =>
      rw [hb] at e
      exact lookT_ok (fun p hp => h p (List.mem_cons_of_mem _ hp)) t i e

def tyRow (P : Program) (p : TypeId × TI) : TypeId × Option (Nat × Nat × Option (List Value)) × Option TK × Bool :=
  (p.1, (P.info? p.1).map (fun x => (x.size, x.bytes, x.zero.map (·.cells.toList))), (P.underlying p.1).map kindOf, eqOkP P p.1)
def tyWant (p : TypeId × TI) : TypeId × Option (Nat × Nat × Option (List Value)) × Option TK × Bool :=
  (p.1, some (p.2.size, p.2.bytes, some p.2.zero), some p.2.kind, p.2.eqok)
theorem tyIn_ok {P : Program} : ∀ {l : List (TypeId × TI)}, l.map (tyRow P) = l.map tyWant → ∀ {t i}, (t, i) ∈ l → TIok P t i
  | [], _, _, _, h => by cases h
  | p :: r, e, t, i, h => by
    simp only [List.map_cons, List.cons.injEq] at e
    rcases List.mem_cons.1 h with rfl | h
    · have := e.1
      simp only [tyRow, tyWant, Prod.mk.injEq, true_and] at this
      exact ⟨this.1, this.2.1, this.2.2⟩
    · exact tyIn_ok e.2 h

theorem tyLeaf {l : List (TypeId × TI)} {t k n : Nat} {x : TI} (h : l[n]? = some (k, x)) : ∀ i, sel (Nat.beq t k) (fun _ => some x) (fun _ => none) = some i → (t, i) ∈ l := by
  intro i e
  rw [sel_eq] at e
  cases hb : Nat.beq t k with
  | true =>
    obtain rfl := Nat.eq_of_beq_eq_true hb
    rw [hb] at e
    simp only [cond_true, Option.some.injEq] at e
    subst e
    exact List.mem_of_getElem? h
  | false => rw [hb] at e; cases e
theorem tyBr {l : List (TypeId × TI)} {t : Nat} {b : Bool} {x y : Option TI} (hx : ∀ i, x = some i → (t, i) ∈ l) (hy : ∀ i, y = some i → (t, i) ∈ l) : ∀ i, sel b (fun _ => x) (fun _ => y) = some i → (t, i) ∈ l := by
  intro i e
  rw [sel_eq] at e
  cases b with
  | true => exact hx i e
  | false => exact hy i e

theorem TIok.parts {P : Program} {t : TypeId} {i : TI} (h : TIok P t i) :
    ∃ x z d, P.info? t = some x ∧ x.size = i.size ∧ x.bytes = i.bytes ∧ x.zero = some z ∧ z.cells.toList = i.zero ∧ P.underlying t = some d ∧ kindOf d = i.kind := by
  obtain ⟨h1, h2, -⟩ := h
  rw [Option.map_eq_some_iff] at h1 h2
  obtain ⟨x, hx, e⟩ := h1
  obtain ⟨d, hd, e2⟩ := h2
  injection e with e3 e4
  injection e4 with e5 e6
  cases hz : x.zero with
  | none => rw [hz] at e6; simp at e6
  | some z => rw [hz] at e6; simp at e6; exact ⟨x, z, d, hx, e3, e5, hz, by simpa using e6, hd, e2⟩

section
variable {P : Program} {t : TypeId} {i : TI} (w : World)
theorem run_underlying' {d : TypeDesc} (h : P.underlying t = some d) : (underlying t).run P w = .ok d w := by simp [underlying, h]
theorem run_typeInfo' {x : TypeInfo} (h : P.info? t = some x) : (typeInfo t).run P w = .ok x w := by simp [typeInfo, h]
theorem run_sizeOf' (h : TIok P t i) : (sizeOf t).run P w = .ok i.size w := by
  obtain ⟨x, z, d, h1, h2, h3, h4, h5, h6, h7⟩ := h.parts
  simp [sizeOf, run_typeInfo' w h1, h2]
theorem run_isAgg' (h : TIok P t i) : (isAgg t).run P w = .ok (isAg i) w := by
  obtain ⟨x, z, d, h1, h2, h3, h4, h5, h6, h7⟩ := h.parts
  simp only [isAgg, Sem.run_bind, run_underlying' w h6, Result.andThen_ok, isAg, ← h7]
  cases d <;> rfl
theorem run_zeroValue' (h : TIok P t i) : ∃ z, (zeroValue t).run P w = .ok z w ∧ z.cells.toList = i.zero := by
  obtain ⟨x, z, d, h1, h2, h3, h4, h5, h6, h7⟩ := h.parts
  exact ⟨z, by simp [zeroValue, run_typeInfo' w h1, h4], h5⟩
end

theorem Addr.add_eq (b o n : Nat) : (⟨b, o, none⟩ : Addr).add n = ⟨b, o + n, none⟩ := by
  unfold Addr.add; split
  · rename_i h; simp [h]
  · rfl

theorem cell_of {w : World} {p : Nat} {c : Array Value} {ty : TypeId} {fz : Nat × Nat} (h : w.heap[p]? = some (.cells c ty fz)) (o : Nat) : w.cell? ⟨p, o, none⟩ = c[o]? := by
  simp [World.cell?, h]

theorem loadCellsFrom_ok {P : Program} {w : World} {p off : Nat} {c : Array Value} {ty : TypeId} {fz : Nat × Nat} (h : w.heap[p]? = some (.cells c ty fz)) :
    ∀ (n i : Nat) (acc : Array Value), off + i + n ≤ c.size → (loadCellsFrom ⟨p, off, none⟩ i n acc).run P w = .ok (acc ++ (c.toList.drop (off + i)).take n) w
  | 0, i, acc, _ => by simp [loadCellsFrom]
  | n + 1, i, acc, hle => by
    have hlt : off + i < c.size := by omega
    simp only [loadCellsFrom, Sem.run_bind, run_load, Addr.add_eq, cell_of h, hlt, Array.getElem?_eq_getElem, Result.andThen_ok]
    rw [loadCellsFrom_ok h n (i + 1) _ (by omega)]
    congr 1
    apply Array.ext'
    have hl : off + i < c.toList.length := by simpa using hlt
    simp only [Array.toList_appendList, Array.toList_push, List.append_assoc]
    rw [List.drop_eq_getElem_cons hl]
    simp [List.take_succ_cons, Nat.add_assoc]

/-- What is read of an own block. -/
theorem run_loadVar' {P : Program} {w : World} {β : Ren} {t : TypeId} {i : TI} (hi : TIok P t i) {p off : Nat} {cells : List SV} {vs : List Value} (rest : List Value) {ty : TypeId} {fz : Nat × Nat}
    (h : w.heap[p]? = some (.cells (vs ++ rest).toArray ty fz)) (hd : denL β cells = some vs) {r : SV} (hr : partOf i cells off = some r) :
    ∃ v, (loadVar t ⟨p, off, none⟩).run P w = .ok v w ∧ r.den β = some v := by
  simp only [loadVar, Sem.run_bind, run_isAgg' w hi, Result.andThen_ok]
  unfold partOf at hr
  (try simp only [sel_eq] at hr)
  cases hag : isAg i with
  | true =>
    rw [hag] at hr
    simp only [cond_true] at hr
    cases hlen : Nat.beq ((cells.drop off).take i.size).length i.size with
    | false => rw [hlen] at hr; simp at hr
    | true =>
      rw [hlen] at hr
      simp only [cond_true, Option.some.injEq] at hr
      subst hr
      have hl := Nat.eq_of_beq_eq_true hlen
      have hvl := denL_length hd
      simp only [List.length_take, List.length_drop] at hl
      simp only [if_true, Sem.run_bind, run_sizeOf' w hi, Result.andThen_ok, loadCells]
      by_cases hz : i.size = 0
      · simp only [hz, loadCellsFrom, Sem.run_pure, Result.andThen_ok]
        refine ⟨_, rfl, ?_⟩
        simp [SV.den, denL]
      · rw [loadCellsFrom_ok h i.size 0 #[] (by simp; omega)]
        simp only [Result.andThen_ok, Sem.run_pure]
        refine ⟨_, rfl, ?_⟩
        simp only [SV.den, denL_take i.size (denL_drop off hd), Option.map_some, Nat.add_zero]
        congr 1
        congr 1
        apply Array.ext'
        have : ((vs ++ rest).drop off).take i.size = (vs.drop off).take i.size := by
          rw [List.drop_append_of_le_length (by omega), List.take_append_of_le_length (by simp; omega)]
        simp [this]
  | false =>
    rw [hag] at hr
    simp only [cond_false] at hr
    obtain ⟨v, h1, h2⟩ := denL_nth hd hr
    refine ⟨v, ?_, h2⟩
    have hlt := (List.getElem?_eq_some_iff.1 h1).1
    have : w.cell? ⟨p, off, none⟩ = some v := by rw [cell_of h]; simp [List.getElem?_append_left hlt, h1]
    simp [this]

/-- What is read of a value's cells. -/
theorem run_part' {P : Program} {w : World} {β : Ren} {t : TypeId} {i : TI} (hi : TIok P t i) {off : Nat} {cells : List SV} {vs : Array Value}
    (hd : denL β cells = some vs.toList) {r : SV} (hr : partOf i cells off = some r) :
    ∃ v, (part t vs off).run P w = .ok v w ∧ r.den β = some v := by
  simp only [part, Sem.run_bind, run_isAgg' w hi, Result.andThen_ok]
  unfold partOf at hr
  (try simp only [sel_eq] at hr)
  cases hag : isAg i with
  | true =>
    rw [hag] at hr
    simp only [cond_true] at hr
    cases hlen : Nat.beq ((cells.drop off).take i.size).length i.size with
    | false => rw [hlen] at hr; simp at hr
    | true =>
      rw [hlen] at hr
      simp only [cond_true, Option.some.injEq] at hr
      subst hr
      simp only [if_true, Sem.run_bind, run_sizeOf' w hi, Result.andThen_ok, Sem.run_pure]
      refine ⟨_, rfl, ?_⟩
      simp only [SV.den, denL_take i.size (denL_drop off hd), Option.map_some]
      congr 1
      congr 1
      apply Array.ext'
      simp [List.take_drop, Nat.add_sub_cancel_left]
  | false =>
    rw [hag] at hr
    simp only [cond_false] at hr
    obtain ⟨v, h1, h2⟩ := denL_nth hd hr
    refine ⟨v, ?_, h2⟩
    have : vs[off]? = some v := by simpa using h1
    simp [this]

theorem denL_splice {β : Ren} : ∀ (l : List SV) (us : List Value) (cells : List SV) (vs : List Value) (off : Nat), denL β l = some us → denL β cells = some vs →
    denL β (splice cells off l) = some (us.zipIdx.foldl (fun cs (c, j) => cs.set (off + j) c) vs)
  | [], us, cells, vs, off, h, hc => by simp [denL] at h; subst h; simpa [splice] using hc
  | x :: r, us, cells, vs, off, h, hc => by
    simp only [denL, Option.bind_eq_some_iff, Option.map_eq_some_iff] at h
    obtain ⟨v, hv, us', hus, rfl⟩ := h
    simp only [splice]
    rw [denL_splice r us' _ _ (off + 1) hus (denL_set off hc hv)]
    simp only [List.zipIdx_cons, List.foldl_cons, Nat.add_zero, Nat.zero_add]
    congr 1
    rw [List.zipIdx_succ, List.foldl_map]
    have : (fun (cs : List Value) (y : Value × Nat) => cs.set (off + 1 + y.2) y.1) = fun cs y => cs.set (off + (y.2 + 1)) y.1 := by
      funext cs y; rw [show off + 1 + y.2 = off + (y.2 + 1) by omega]
    simp only [this]

def spl (vs : List Value) (off : Nat) : List Value → List Value
  | [] => vs
  | u :: r => spl (vs.set off u) (off + 1) r
theorem spl_append : ∀ (us vs rest : List Value) (off : Nat), off + us.length ≤ vs.length → spl (vs ++ rest) off us = spl vs off us ++ rest
  | [], _, _, _, _ => rfl
  | u :: r, vs, rest, off, h => by
    simp only [List.length_cons] at h
    simp only [spl]
    rw [List.set_append_left off u (by omega), spl_append r (vs.set off u) rest (off + 1) (by simp; omega)]
theorem spl_length : ∀ (us vs : List Value) (off : Nat), (spl vs off us).length = vs.length
  | [], _, _ => rfl
  | u :: r, vs, off => by simp [spl, spl_length r]
theorem denL_spl {β : Ren} : ∀ (l : List SV) (us : List Value) (cells : List SV) (vs : List Value) (off : Nat), denL β l = some us → denL β cells = some vs → denL β (splice cells off l) = some (spl vs off us)
  | [], us, cells, vs, off, h, hc => by simp [denL] at h; subst h; simpa [splice, spl] using hc
  | x :: r, us, cells, vs, off, h, hc => by
    simp only [denL, Option.bind_eq_some_iff, Option.map_eq_some_iff] at h
    obtain ⟨v, hv, us', hus, rfl⟩ := h
    simp only [splice, spl]
    exact denL_spl r us' _ _ (off + 1) hus (denL_set off hc hv)

theorem plainC_one {β : Ren} {x : SV} {v : Value} (h : plainC x = true) (hx : x.den β = some v) : v.oneCell' = true := by
  cases x with
  | lit k n => simp only [SV.den, Option.some.injEq] at hx; subst hx; rfl
  | bl b => simp only [SV.den, Option.some.injEq] at hx; subst hx; rfl
  | agg l' => simp [plainC] at h
  | tup l' => simp [plainC] at h
  | un => simp [plainC] at h
  | v y =>
    simp only [SV.den, Option.some.injEq] at hx
    subst hx
    cases y <;> first | rfl | simp [plainC] at h
  | ptr a b => simp only [SV.den, Option.map_eq_some_iff] at hx; obtain ⟨q, hq, rfl⟩ := hx; rfl
  | px a b => simp only [SV.den, Option.map_eq_some_iff] at hx; obtain ⟨q, hq, rfl⟩ := hx; rfl
  | sl a b c d => simp only [SV.den, Option.map_eq_some_iff] at hx; obtain ⟨q, hq, rfl⟩ := hx; rfl
  | row a b c d => simp only [SV.den, Option.map_eq_some_iff] at hx; obtain ⟨q, hq, rfl⟩ := hx; rfl
  | emp a => simp only [SV.den, Option.map_eq_some_iff] at hx; obtain ⟨q, hq, rfl⟩ := hx; rfl
  | clo a b => simp only [SV.den, Option.map_eq_some_iff] at hx; obtain ⟨q, hq, rfl⟩ := hx; rfl
  | ifc a b => simp only [SV.den, Option.map_eq_some_iff] at hx; obtain ⟨q, hq, rfl⟩ := hx; rfl

theorem plain_all {β : Ren} : ∀ {l : List SV} {us : List Value}, l.all plainC = true → denL β l = some us → ∀ u ∈ us, u.oneCell' = true
  | [], us, _, e => by simp [denL] at e; subst e; simp
  | x :: r, us, h, e => by
    simp only [denL, Option.bind_eq_some_iff, Option.map_eq_some_iff] at e
    obtain ⟨v, hv, us', hus, rfl⟩ := e
    simp only [List.all_cons, Bool.and_eq_true] at h
    intro u hu
    rcases List.mem_cons.1 hu with rfl | hu
    · exact plainC_one h.1 hv
    · exact plain_all h.2 hus u hu

theorem set_same {α : Type} {h : Array α} {p : Nat} {x : α} (e : h[p]? = some x) : h.setIfInBounds p x = h := by
  apply Array.ext_getElem?
  intro i
  rw [Array.getElem?_setIfInBounds]
  split
  · rename_i e'; subst e'
    split
    · exact e.symm
    · rename_i hn; rw [Array.getElem?_eq_none (by omega)] at e; cases e
  · rfl
theorem set_set' {α : Type} (h : Array α) (p : Nat) (x y : α) : (h.setIfInBounds p x).setIfInBounds p y = h.setIfInBounds p y := by
  apply Array.ext_getElem?
  intro i
  simp only [Array.getElem?_setIfInBounds, Array.size_setIfInBounds]
  split <;> rfl
theorem modify_eq {α : Type} {h : Array α} {p : Nat} {x : α} {f : α → α} (e : h[p]? = some x) : h.modify p f = h.setIfInBounds p (f x) := by
  apply Array.ext_getElem?
  intro i
  rw [Array.getElem?_setIfInBounds, Array.getElem?_modify]
  split
  · rename_i e'; subst e'
    rw [e]
    have hlt : p < h.size := by
      rcases Nat.lt_or_ge p h.size with hh | hh
      · exact hh
      · rw [Array.getElem?_eq_none hh] at e; cases e
    simp [hlt]
  · rfl

theorem setCell_blk {w : World} {p off : Nat} {vs : List Value} {ty : TypeId} (h : w.heap[p]? = some (.cells vs.toArray ty (0, 0))) (u : Value) :
    w.setCell ⟨p, off, none⟩ u = { w with heap := w.heap.setIfInBounds p (.cells (vs.set off u).toArray ty (0, 0)) } := by
  unfold World.setCell
  rw [modify_eq h]
  simp

theorem storeCells_ok {P : Program} {p : Nat} {ty : TypeId} : ∀ (us : List Value) (w : World) (vs : List Value) (off i : Nat), w.heap[p]? = some (.cells vs.toArray ty (0, 0)) → off + i + us.length ≤ vs.length → (∀ u ∈ us, u.oneCell' = true) →
    (storeCells ⟨p, off, none⟩ us i).run P w = .ok () { w with heap := w.heap.setIfInBounds p (.cells (spl vs (off + i) us).toArray ty (0, 0)) }
  | [], w, vs, off, i, h, _, _ => by
    simp only [storeCells, Sem.run_pure, spl]
    rw [set_same h]
  | u :: r, w, vs, off, i, h, hle, hone => by
    simp only [List.length_cons] at hle
    have hp : p < w.heap.size := by
      rcases Nat.lt_or_ge p w.heap.size with hh | hh
      · exact hh
      · rw [Array.getElem?_eq_none hh] at h; cases h
    have hlt : off + i < vs.length := by omega
    have hcell : w.cell? ⟨p, off + i, none⟩ = some vs[off + i] := by rw [cell_of h]; simp [hlt]
    have hfr : w.frozen? ⟨p, off + i, none⟩ = false := by simp [World.frozen?, h]
    simp only [storeCells, Sem.run_bind, Addr.add_eq]
    rw [run_store P w _ u _ (hone u List.mem_cons_self), hcell]
    simp only [hfr, Bool.false_eq_true, if_false, Result.andThen_ok]
    rw [setCell_blk h]
    have h' : ({ w with heap := w.heap.setIfInBounds p (.cells (vs.set (off + i) u).toArray ty (0, 0)) } : World).heap[p]? = some (.cells (vs.set (off + i) u).toArray ty (0, 0)) := by simp [hp]
    rw [storeCells_ok r _ (vs.set (off + i) u) off (i + 1) h' (by simp; omega) (fun x hx => hone x (List.mem_cons_of_mem _ hx))]
    simp only [spl, set_set', Nat.add_assoc]

/-- What is written into an own block. -/
theorem run_storeVar' {P : Program} {w : World} {t : TypeId} {i : TI} (hi : TIok P t i) {p off : Nat} {vs : List Value} {ty : TypeId} (h : w.heap[p]? = some (.cells vs.toArray ty (0, 0))) {v : Value}
    (hs : v.cells.size = i.size) (hle : off + i.size ≤ vs.length) (hone : ∀ u ∈ v.cells.toList, u.oneCell' = true) :
    (storeVar t ⟨p, off, none⟩ v).run P w = .ok () { w with heap := w.heap.setIfInBounds p (.cells (spl vs off v.cells.toList).toArray ty (0, 0)) } := by
  simp only [storeVar, Sem.run_bind, run_sizeOf' w hi, Result.andThen_ok, hs, ne_eq, not_true_eq_false, if_false]
  simpa using storeCells_ok v.cells.toList w vs off 0 h (by simp [hs]; omega) hone

theorem kEq_iff {a b : IntKind} (h : kEq a b = true) : a = b := by cases a <;> cases b <;> first | rfl | cases h

theorem litOp_ok {P : Program} {op : BinOp} {k : IntKind} {a b : Int} {r : SV} (h : litOp op k a b = some r) (t : TypeId) (β : Ren) : ∃ v, (∀ w, (binOp op t (.int k a) (.int k b)).run P w = .ok v w) ∧ r.den β = some v := by
  cases op <;> simp only [litOp, Option.some.injEq, reduceCtorEq] at h <;> subst h <;> exact ⟨_, by intro w; simp [binOp, Op.intArith, Op.intCmp], rfl⟩

theorem nz_ok {y : SV} {kb : IntKind} {b : Int} {p : Prop} (hy : asI y = some (kb, b)) (h : nz y b p) : b ≠ 0 ∧ p := by
  cases y with
  | lit k n =>
    simp only [asI, Option.some.injEq, Prod.mk.injEq] at hy
    obtain ⟨rfl, rfl⟩ := hy
    simp only [sel_eq, nz] at h
    cases hn : (n == 0) with
    | true => rw [hn] at h; exact h.elim
    | false => rw [hn] at h; exact ⟨by simpa using hn, h⟩
  | _ => exact ⟨h.1.out, h.2⟩
theorem nneg_ok {y : SV} {kb : IntKind} {b : Int} {p : Prop} (hy : asI y = some (kb, b)) (h : nneg y b p) : 0 ≤ b ∧ p := by
  cases y with
  | lit k n =>
    simp only [asI, Option.some.injEq, Prod.mk.injEq] at hy
    obtain ⟨rfl, rfl⟩ := hy
    simp only [sel_eq, nneg] at h
    cases hn : decide (0 ≤ n) with
    | true => rw [hn] at h; exact ⟨by simpa using hn, h⟩
    | false => rw [hn] at h; exact h.elim
  | _ => exact ⟨h.1.out, h.2⟩

theorem asI_den {β : Ren} {x : SV} {k : IntKind} {n : Int} (h : asI x = some (k, n)) : x.den β = some (.int k n) := by
  cases x with
  | lit k n => simp only [asI, Option.some.injEq, Prod.mk.injEq] at h; obtain ⟨rfl, rfl⟩ := h; rfl
  | v y => cases y <;> simp only [asI, Option.some.injEq, Prod.mk.injEq, reduceCtorEq] at h; obtain ⟨rfl, rfl⟩ := h; rfl
  | _ => simp [asI] at h
theorem asB_den {β : Ren} {x : SV} {b : Bool} (h : asB x = some b) : x.den β = some (.bool b) := by
  cases x with
  | bl b => simp only [asB, Option.some.injEq] at h; subst h; rfl
  | v y => cases y <;> simp only [asB, Option.some.injEq, reduceCtorEq] at h; subst h; rfl
  | _ => simp [asB] at h

theorem nmd_ok {b : Md} {k : IntKind} {e : Int} {c : SV → Prop} (h : nmd (std b) k e c) : ∃ r, c r ∧ ∀ β, r.den β = some (.int k e) := by
  cases b with
  | na => exact ⟨_, h e rfl, fun _ => rfl⟩
  | pl => exact ⟨_, h, fun _ => rfl⟩
  | cl => exact ⟨_, h, fun _ => rfl⟩
theorem mkB_den {b : Md} {e : Bool} (β : Ren) : (mkB (std b) e).den β = some (.bool e) := by cases b <;> rfl
theorem mkI_den {b : Md} {k : IntKind} {e : Int} (β : Ren) : (mkI (std b) k e).den β = some (.int k e) := by cases b <;> rfl
theorem must_ok {b : Md} {p : Unit → Prop} {c : Unit → Bool} {q : Prop} (hc : c () = true → p ()) (h : must (std b) p c q) : p () ∧ q := by
  cases b with
  | na => exact ⟨h.1.out, h.2⟩
  | pl => exact ⟨h.1.out, h.2⟩
  | cl =>
    simp only [must, std, sel_eq] at h
    cases hh : c () with
    | true => rw [hh] at h; exact ⟨hc hh, h⟩
    | false => rw [hh] at h; exact h.elim

theorem sxInt_ok {P : Program} {op : BinOp} {y : SV} {ka kb : IntKind} {a b : Int} {k : SV → Prop} (hy : asI y = some (kb, b)) (h : sxInt (std nm) op y ka a kb b k) (t : TypeId) :
    ∃ r v, k r ∧ (∀ β, r.den β = some v) ∧ ∀ w, (binOp op t (.int ka a) (.int kb b)).run P w = .ok v w := by
  unfold sxInt at h
  cases op
  case shl => obtain ⟨h1, h2⟩ := nneg_ok hy h; obtain ⟨r, h3, h4⟩ := nmd_ok h2; exact ⟨r, _, h3, h4, by intro w; simp [binOp, Op.shift, Int.not_lt.2 h1, std]⟩
  case shr => obtain ⟨h1, h2⟩ := nneg_ok hy h; obtain ⟨r, h3, h4⟩ := nmd_ok h2; exact ⟨r, _, h3, h4, by intro w; simp [binOp, Op.shift, Int.not_lt.2 h1, std]⟩
  case quo | rem =>
    simp only at h
    cases hk : kEq ka kb with
    | false => rw [hk] at h; exact h.elim
    | true =>
      rw [hk] at h
      obtain rfl := kEq_iff hk
      obtain ⟨h1, h2⟩ := nz_ok hy h; obtain ⟨r, h3, h4⟩ := nmd_ok h2; exact ⟨r, _, h3, h4, by intro w; simp [binOp, Op.intDiv, h1, std]⟩
  case add | sub | mul | and | or | xor | andNot =>
    simp only at h
    cases hk : kEq ka kb with
    | false => rw [hk] at h; exact h.elim
    | true =>
      rw [hk] at h
      obtain rfl := kEq_iff hk
      obtain ⟨r, h3, h4⟩ := nmd_ok h; exact ⟨r, _, h3, h4, by intro w; simp [binOp, Op.intArith, Op.intCmp, Op.intBits, std, bitsI, bne]⟩
  all_goals
    simp only at h
    cases hk : kEq ka kb with
    | false => rw [hk] at h; exact h.elim
    | true =>
      rw [hk] at h
      obtain rfl := kEq_iff hk
      simp only [iB] at h
      first
      | exact h.elim
      | exact ⟨_, _, h, mkB_den, by intro w; simp [binOp, Op.intArith, Op.intCmp, Op.intBits, std, bitsI, bne]⟩

end

variable {nm : Md}
noncomputable section

def Agree (ops : Array Oper) (o : Oper) (s : St) (r : List Nat) (σ : Sg) : Prop :=
  (∀ t ∈ o.looksAt ops, σ (.tmp t) = s.sg (.tmp t)) ∧ ∀ id ∈ r, σ (.blk id) = s.sg (.blk id)
def EvRun (E : Env) (ops : Array Oper) (o : Oper) (s : St) (r : List Nat) (W : List (Key × Dn)) : Prop :=
  ∀ (Q : Exit → Act → World → Prop) (K : Act → World → Prop) (σ : Sg) (β : Ren) (a : Act) (w : World), Agree ops o s r σ → Rl E σ β a w →
    (∀ β' a' w', Rl E (upd σ W) β' a' w' → K a' w') → o.wp E.P a w K Q
def PostR (E : Env) (ops : Array Oper) (o : Oper) (s : St) (k : St → List Nat → List Nat → Prop) : Prop :=
  ∃ s' r u W, k s' r u ∧ s'.sg = upd s.sg W ∧ (∀ n, Sz n s → Sz n s') ∧
    (∀ key d, look W key = some d → (∃ t, key = .tmp t ∧ o.dst = some t) ∨ ∃ id, key = .blk id ∧ id ∈ u) ∧ (∀ id ∈ u, id ∈ r) ∧ EvRun E ops o s r W

section
variable {E : Env} {ops : Array Oper} {o : Oper} {s : St} {k : St → List Nat → List Nat → Prop}

theorem known_ok {x : Option SV} {y : SV} (h : known? x = some y) : x = some y ∧ y.isUn = false := by
  unfold known? at h
  split at h
  · cases h
  · rename_i hne
    refine ⟨h, ?_⟩
    cases y <;> first | rfl | exact absurd h hne

theorem ev_ok {r : List Nat} {σ : Sg} {β : Ren} {a : Act} {w : World} (hag : Agree ops o s r σ) (hr : Rl E σ β a w) {x : Operand} {y : SV} (hx : x ∈ o.op.operands.toList) (he : evO s x = some y) :
    y.den β = some (a.eval x) := by
  cases x with
  | tmp t =>
    simp only [evO] at he
    obtain ⟨he, hun⟩ := known_ok he
    have hm : t ∈ o.looksAt ops := by
      unfold Oper.looksAt
      refine List.mem_append_left _ ?_
      rw [List.mem_filterMap]
      exact ⟨.tmp t, hx, rfl⟩
    have hs : σ (.tmp t) = some (.val y) := by rw [hag.1 t hm]; simp [St.sg, he]
    exact (hr.tmp t y hs).2 hun
  | const v => simp only [evO, Option.some.injEq] at he; subst he; exact den_ofC β v
  | global g => simp [evO] at he
  | func f => simp only [evO, Option.some.injEq] at he; subst he; simp [SV.den, denL, Act.eval]

theorem look_putW {d : Option Nat} {x : SV} {key : Key} {y : Dn} (h : look (putW d x) key = some y) : ∃ t, key = .tmp t ∧ d = some t := by
  cases d with
  | none => simp [putW, look] at h
  | some t =>
    simp only [putW, look] at h
    split at h
    · rename_i e; exact ⟨t, e.symm, rfl⟩
    · cases h

theorem post_val {r : List Nat} {x : SV} (hk : k (s.put o x) r []) (hl : Sz E.nt s) (hd : ∀ t, o.dst = some t → t < E.nt)
    (hrun : ∀ σ β a w, Agree ops o s r σ → Rl E σ β a w → ∃ v, (execOp a.eval o).run E.P w = .ok (.value v) w ∧ x.den β = some v) : PostR E ops o s k := by
  refine ⟨s.put o x, r, [], putW o.dst x, hk, sg_put (fun t ht => (hl t).2 (hd t ht)), len_put, ?_, by simp, ?_⟩
  · intro key d h
    obtain ⟨t, h1, h2⟩ := look_putW h
    exact .inl ⟨t, h1, h2⟩
  · intro Q K σ β a w hag hr hK
    obtain ⟨v, h1, h2⟩ := hrun σ β a w hag hr
    unfold Oper.wp
    rw [h1, Oper.upon_value]
    exact hK β _ w (hr.put h2 hd)

def WB : List (Nat × Blk) → List (Key × Dn)
  | [] => []
  | (i, b) :: r => WB r ++ [(.blk i, .blk b)]
theorem look_app : ∀ (l m : List (Key × Dn)) (k : Key), look (l ++ m) k = match look l k with | some d => some d | none => look m k
  | [], _, _ => rfl
  | (k', d) :: l, m, k => by
    simp only [List.cons_append, look]
    split
    · rfl
    · exact look_app l m k
theorem look_WB_tmp : ∀ (W : List (Nat × Blk)) (t : Nat), look (WB W) (.tmp t) = none
  | [], _ => rfl
  | (i, b) :: r, t => by simp [WB, look_app, look_WB_tmp r t, look]
theorem look_WB_mem : ∀ {W : List (Nat × Blk)} {i : Nat} {d : Dn}, look (WB W) (.blk i) = some d → ∃ b, (i, b) ∈ W ∧ d = .blk b
  | [], _, _, h => by cases h
  | (i', b) :: r, i, d, h => by
    simp only [WB, look_app] at h
    split at h
    · rename_i d' hd
      injection h with h
      subst h
      obtain ⟨b', h1, h2⟩ := look_WB_mem hd
      exact ⟨b', List.mem_cons_of_mem _ h1, h2⟩
    · simp only [look] at h
      split at h
      · rename_i e; injection e with e; subst e; injection h with h; exact ⟨b, List.mem_cons_self, h.symm⟩
      · cases h
theorem getB_setBs : ∀ (W h : List (Nat × Blk)) (i : Nat), (getB (setBs h W) i).map Dn.blk = match look (WB W) (.blk i) with | some d => some d | none => (getB h i).map Dn.blk
  | [], h, i => by simp [setBs, WB, look]
  | (j, b) :: r, h, i => by
    simp only [setBs, WB, look_app]
    rw [getB_setBs r]
    cases hl : look (WB r) (.blk i) with
    | some d => rfl
    | none =>
      simp only [getB_setB, look]
      by_cases e : i = j
      · subst e; simp
      · simp [e, Ne.symm e]
theorem sg_setBs (s : St) (W : List (Nat × Blk)) : ({ s with blks := setBs s.blks W } : St).sg = upd s.sg (WB W) := by
  funext key
  cases key with
  | tmp t => simp [upd, look_WB_tmp, St.sg]
  | blk i => simp only [upd, St.sg]; exact getB_setBs W s.blks i
theorem upd_app (σ : Sg) (l m : List (Key × Dn)) : upd σ (l ++ m) = upd (upd σ m) l := by
  funext k
  simp only [upd, look_app]
  cases look l k <;> rfl

/-- An operation that changes blocks and gives a value. -/
theorem post_gen {x : SV} {r u : List Nat} {W : List (Nat × Blk)} (hk : k (({ s with blks := setBs s.blks W } : St).put o x) r u) (hl : Sz E.nt s) (hd : ∀ t, o.dst = some t → t < E.nt)
    (hu : ∀ p ∈ W, p.1 ∈ u) (hur : ∀ id ∈ u, id ∈ r)
    (hrun : ∀ (Q : Exit → Act → World → Prop) (K : Act → World → Prop) σ β a w, Agree ops o s r σ → Rl E σ β a w →
      (∀ β' v w', Rl E (upd σ (WB W)) β' a w' → x.den β' = some v → K (a.put o.dst v) w') → o.wp E.P a w K Q) : PostR E ops o s k := by
  refine ⟨_, r, u, putW o.dst x ++ WB W, hk, ?_, fun n h => len_put n h, ?_, hur, ?_⟩
  · rw [sg_put (s := { s with blks := setBs s.blks W }) (fun t ht => (hl t).2 (hd t ht)), sg_setBs, upd_app]
  · intro key d h
    rw [look_app] at h
    split at h
    · rename_i d' hd'
      obtain ⟨t, h1, h2⟩ := look_putW hd'
      exact .inl ⟨t, h1, h2⟩
    · cases key with
      | tmp t => rw [look_WB_tmp] at h; cases h
      | blk i =>
        obtain ⟨b, h1, -⟩ := look_WB_mem h
        exact .inr ⟨i, rfl, hu _ h1⟩
  · intro Q K σ β a w hag hr hK
    refine hrun Q K σ β a w hag hr fun β' v w' hr' hx => ?_
    refine hK β' _ _ ?_
    rw [upd_app]
    exact hr'.put hx hd

theorem setB_eq (s : St) (id : Nat) (b : Blk) : s.setB id b = { s with blks := setBs s.blks [(id, b)] } := rfl
theorem WB1 (id : Nat) (b : Blk) : WB [(id, b)] = [(.blk id, .blk b)] := rfl
theorem getL_some {l : List (Nat × Blk)} {id : Nat} {b : Blk} (h : getL l id = some b) : getB l id = some b ∧ b.m.live = true := by
  unfold getL at h
  split at h
  · rename_i c hc
    split at h
    · cases h
    · rename_i hm
      injection h with h
      subst h
      exact ⟨hc, by cases hh : c.m <;> simp_all [BM.live]⟩
  · cases h

theorem post_skipB {id : Nat} {b : Blk} {cells : List SV} (hk : k ((s.setB id ⟨b.ty, cells, b.m⟩).put o (.v undef)) [id] [id]) (hl : Sz E.nt s) (hd : ∀ t, o.dst = some t → t < E.nt)
    (hb : getL s.blks id = some b)
    (hrun : ∀ σ β a w q vs rest, Agree ops o s [id] σ → Rl E σ β a w → β id = some q → denL β b.cells = some vs → w.heap[q.p]? = some (.cells (vs ++ rest).toArray b.ty (0, 0)) →
      ∃ us, (execOp a.eval o).run E.P w = .ok .skip { w with heap := w.heap.setIfInBounds q.p (.cells (us ++ rest).toArray b.ty (0, 0)) } ∧ denL β cells = some us ∧ us.length = vs.length) : PostR E ops o s k := by
  obtain ⟨hb, hlive⟩ := getL_some hb
  rw [setB_eq] at hk
  refine post_gen hk hl hd (by simp) (by simp) ?_
  intro Q K σ β a w hag hr hK
  have hs : σ (.blk id) = some (.blk b) := by rw [hag.2 id (by simp)]; simp [St.sg, hb]
  obtain ⟨q, vs, rest, h1, h2, h3, h6, -⟩ := hr.blk id b hs hlive
  obtain ⟨us, h4, h5, h7⟩ := hrun σ β a w q vs rest hag hr h1 h2 h3
  unfold Oper.wp
  rw [h4, Oper.upon_skip]
  refine hK β undef _ (hr.setBlk hs hlive h1 h5 ?_) rfl
  have : (us ++ rest).length = (vs ++ rest).length := by simp [h7]
  rw [this]; exact h6

theorem post_alloc {id : Nat} {ty : TypeId} {cells : List SV} {x : SV} (hk : k ((s.setB id ⟨ty, cells, .ex⟩).put o x) [id] [id]) (hl : Sz E.nt s) (hd : ∀ t, o.dst = some t → t < E.nt)
    (hb : getB s.blks id = none)
    (hrun : ∀ σ β a w, Agree ops o s [id] σ → Rl E σ β a w →
      ∃ us v, (execOp a.eval o).run E.P w = .ok (.value v) { w with heap := w.heap.push (.cells us.toArray ty) } ∧ denL β cells = some us ∧ ∀ β' : Ren, β' id = some ⟨w.heap.size, 0, 0⟩ → x.den β' = some v) : PostR E ops o s k := by
  rw [setB_eq] at hk
  refine post_gen hk hl hd (by simp) (by simp) ?_
  intro Q K σ β a w hag hr hK
  have hs : σ (.blk id) = none := by rw [hag.2 id (by simp)]; simp [St.sg, hb]
  obtain ⟨us, v, h4, h5, h6⟩ := hrun σ β a w hag hr
  unfold Oper.wp
  rw [h4, Oper.upon_value]
  obtain ⟨hle, hr1⟩ := hr.alloc hs (ty := ty) [] .ex 0 rfl h5
  rw [List.append_nil] at hr1
  exact hK _ v _ hr1 (h6 _ (by simp))

theorem run_value {ρ : Operand → Value} {P : Program} {w w' : World} {x : Sem Value} {v : Value} (h : x.run P w = .ok v w') : (do pure (Next.value (← x)) : Sem Next).run P w = .ok (.value v) w' := by simp [h]

theorem evL_ok {r : List Nat} {σ : Sg} {β : Ren} {a : Act} {w : World} (hag : Agree ops o s r σ) (hr : Rl E σ β a w) : ∀ (xs : List Operand) (ys : List SV), (∀ x ∈ xs, x ∈ o.op.operands.toList) → evL s xs = some ys → denL β ys = some (xs.map a.eval)
  | [], ys, _, h => by simp only [evL, Option.some.injEq] at h; subst h; simp [denL]
  | x :: xs, ys, hm, h => by
    simp only [evL] at h
    cases h1 : evO s x with
    | none => rw [h1] at h; cases h
    | some y =>
      rw [h1] at h
      cases h2 : evL s xs with
      | none => rw [h2] at h; cases h
      | some l =>
        rw [h2] at h
        simp only [Option.some.injEq] at h
        subst h
        simp only [denL, ev_ok hag hr (hm x List.mem_cons_self) h1, Option.bind_some, evL_ok hag hr xs l (fun x hx => hm x (List.mem_cons_of_mem _ hx)) h2, Option.map_some, List.map_cons]

theorem oB_some {α : Type} {x : Option α} {f : α → Prop} (h : oB x f) : ∃ a, x = some a ∧ f a := by
  cases x with
  | none => exact h.elim
  | some a => exact ⟨a, rfl, h⟩
theorem cond_pq {b : Bool} {p q : Prop} (h : cond b p q) : (b = true ∧ p) ∨ (b = false ∧ q) := by cases b <;> simp_all

theorem fieldOf_ok {P : Program} {tt : TT} (ht : TTok P tt) {i : TI} {f : Nat} {ft : TI} {off : Nat} (h : fieldOf tt i f = some (ft, off)) {d : TypeDesc} (hd : kindOf d = i.kind) :
    ∃ fs fld, d = .struct fs ∧ fs[f]? = some fld ∧ fld.offset = off ∧ TIok P fld.type ft := by
  unfold fieldOf at h
  split at h
  · rename_i l hk
    rw [hk] at hd
    cases d with
    | struct fs =>
      simp only [kindOf, TK.strct.injEq] at hd
      subst hd
      split at h
      · rename_i t off' hn
        split at h
        · rename_i ft' hti
          simp only [Option.some.injEq, Prod.mk.injEq] at h
          obtain ⟨rfl, rfl⟩ := h
          rw [nth_eq, List.getElem?_map, Option.map_eq_some_iff] at hn
          obtain ⟨fld, hf, he⟩ := hn
          simp only [Prod.mk.injEq] at he
          obtain ⟨rfl, rfl⟩ := he
          exact ⟨fs, fld, rfl, by simpa using hf, rfl, tinf_ok ht hti⟩
        · cases h
      · cases h
    | _ => simp [kindOf] at hd
  · cases h

theorem kindOf_arr {d : TypeDesc} {n e : Nat} (h : kindOf d = .arr n e) : d = .array n e := by
  cases d <;> simp [kindOf] at h; obtain ⟨rfl, rfl⟩ := h; rfl
theorem kindOf_slice {d : TypeDesc} {e : Nat} (h : kindOf d = .slice e) : d = .slice e := by
  cases d <;> simp [kindOf] at h; subst h; rfl
theorem kindOf_int {d : TypeDesc} {k : IntKind} (h : kindOf d = .int k) : d = .int k := by
  cases d <;> simp [kindOf] at h; subst h; rfl
theorem kindOf_str {d : TypeDesc} (h : kindOf d = .str) : d = .string := by
  cases d <;> simp [kindOf] at h; rfl

end

end

variable {nm : Md}
noncomputable section

def mkV (i : TI) (vs : List Value) : Value := if isAg i then .agg vs.toArray else vs.headD undef

theorem subC_ok {β : Ren} {cells l : List SV} {vs : List Value} {off n : Nat} (h : subC cells off n = some l) (hd : denL β cells = some vs) : denL β l = some ((vs.drop off).take n) ∧ l.length = n ∧ off + n ≤ vs.length ∨ (n = 0 ∧ l = []) := by
  unfold subC at h
  (try simp only [sel_eq] at h)
  (try simp only at h)
  cases hb : Nat.beq ((cells.drop off).take n).length n with
  | false => rw [hb] at h; cases h
  | true =>
    rw [hb] at h
    simp only [cond_true, Option.some.injEq] at h
    subst h
    have := Nat.eq_of_beq_eq_true hb
    have hl := denL_length hd
    by_cases hn : n = 0
    · right; subst hn; simp
    · left
      refine ⟨denL_take n (denL_drop off hd), this, ?_⟩
      simp only [List.length_take, List.length_drop] at this
      omega

theorem part_mkV {P : Program} {w : World} {t : TypeId} {i : TI} (hi : TIok P t i) {vs : List Value} {off : Nat} (hs : isAg i = false → off < vs.length ∧ i.size ≠ 0) :
    (part t vs.toArray off).run P w = .ok (mkV i ((vs.drop off).take i.size)) w := by
  simp only [part, Sem.run_bind, run_isAgg' w hi, Result.andThen_ok, mkV]
  cases hag : isAg i with
  | true =>
    simp only [if_true, Sem.run_bind, run_sizeOf' w hi, Result.andThen_ok, Sem.run_pure]
    congr 2
    apply Array.ext'
    simp [List.take_drop]
  | false =>
    obtain ⟨h1, h2⟩ := hs hag
    have : vs.toArray[off]? = some vs[off] := by simp [h1]
    simp only [this, Bool.false_eq_true, if_false, Sem.run_pure]
    congr 1
    obtain ⟨m, hm⟩ := Nat.exists_eq_succ_of_ne_zero h2
    rw [hm]; simp [List.head?_take, List.head?_drop, h1]

theorem eqOk_struct {P : Program} {t : TypeId} {fs : Array Field} (h : eqOkP P t = true) (hu : P.underlying t = some (.struct fs)) : P.stoodInHeld t = false ∧ ∀ f ∈ fs.toList, f.name ≠ "_" := by
  unfold eqOkP at h
  rw [hu] at h
  simp only [Bool.and_eq_true, Bool.not_eq_true', Array.all_eq_true_iff_forall_mem, bne_iff_ne, ne_eq] at h
  exact ⟨h.2.1, fun f hf => h.2.2 f (by simpa using hf)⟩

section
variable {P : Program} {tt : TT} {β : Ren}

/-- What 'go' shows of one part. -/
def GoOk (P : Program) (β : Ren) (d : Nat) (t : TypeId) (i : TI) (go : List SV → List SV → Option Bool) : Prop :=
  ∀ xs ys e, go xs ys = some e → ∀ vx vy w, denL β xs = some vx → denL β ys = some vy → (Op.equalIn d t (mkV i vx) (mkV i vy)).run P w = .ok e w

theorem eqFs_ok (ht : TTok P tt) {d : Nat} {go : TI → List SV → List SV → Option Bool} (hgo : ∀ t i, TIok P t i → GoOk P β d t i (go i)) (hne : ∀ i x y e, go i x y = some e → isAg i = false → x.length ≠ 0)
    {xs ys : List SV} {vx vy : List Value} (hx : denL β xs = some vx) (hy : denL β ys = some vy) : ∀ (fs : List Field) (e : Bool), (∀ f ∈ fs, f.name ≠ "_") →
    eqAt.eqFs (std nm) tt (fs.map fun f => (f.type, f.offset)) xs ys go = some e → ∀ w, (Op.eqFields d vx.toArray vy.toArray fs).run P w = .ok e w
  | [], e, _, h, w => by simp only [List.map_nil, eqAt.eqFs, Option.some.injEq] at h; subst h; simp [Op.eqFields]
  | f :: fs, e, hn, h, w => by
    simp only [List.map_cons, eqAt.eqFs] at h
    split at h
    · rename_i j hj
      have hti := tinf_ok ht hj
      split at h
      · rename_i x y hsx hsy
        split at h
        · rename_i a b ha hb
          simp only [Option.some.injEq] at h
          subst h
          have hrest := eqFs_ok ht hgo hne hx hy fs b (fun g hg => hn g (List.mem_cons_of_mem _ hg)) hb w
          have ag1 : isAg j = false → f.offset < vx.length ∧ j.size ≠ 0 := by
            intro hag
            have := hne j x y a ha hag
            rcases subC_ok hsx hx with ⟨_, h2, h3⟩ | ⟨h1, h2⟩
            · omega
            · subst h2; simp at this
          have ag2 : isAg j = false → f.offset < vy.length ∧ j.size ≠ 0 := by
            intro hag
            have := ag1 hag
            rcases subC_ok hsy hy with ⟨_, h2, h3⟩ | ⟨h1, h2⟩
            · omega
            · omega
          have dx : denL β x = some ((vx.drop f.offset).take j.size) := by
            rcases subC_ok hsx hx with ⟨h1, _⟩ | ⟨h1, h2⟩
            · exact h1
            · rw [h2, h1]; simp [denL]
          have dy : denL β y = some ((vy.drop f.offset).take j.size) := by
            rcases subC_ok hsy hy with ⟨h1, _⟩ | ⟨h1, h2⟩
            · exact h1
            · rw [h2, h1]; simp [denL]
          have := hgo f.type j hti x y a ha _ _ w dx dy
          simp only [Op.eqFields, hn f List.mem_cons_self, ne_eq, not_false_eq_true, if_true, Sem.run_bind, part_mkV hti ag1, part_mkV hti ag2, Result.andThen_ok, this]
          cases a
          · simp [std]
          · simpa [std] using hrest
        · cases h
      · cases h
    · cases h

theorem eqIs_ok {d : Nat} {t : TypeId} {j : TI} {go : List SV → List SV → Option Bool} (hti : TIok P t j) (hgo : GoOk P β d t j go) (hne : ∀ x y e, go x y = some e → isAg j = false → x.length ≠ 0)
    {xs ys : List SV} {vx vy : List Value} (hx : denL β xs = some vx) (hy : denL β ys = some vy) : ∀ (n k : Nat) (e : Bool),
    eqAt.eqIs (std nm) n k j xs ys go = some e → ∀ w, (Op.eqItems d t j.size vx.toArray vy.toArray (List.range' k n)).run P w = .ok e w
  | 0, k, e, h, w => by simp only [eqAt.eqIs, Option.some.injEq] at h; subst h; simp [Op.eqItems]
  | n + 1, k, e, h, w => by
    simp only [eqAt.eqIs] at h
    split at h
    · rename_i x y hsx hsy
      split at h
      · rename_i a b ha hb
        simp only [Option.some.injEq] at h
        subst h
        have hrest := eqIs_ok hti hgo hne hx hy n (k + 1) b hb w
        have ag1 : isAg j = false → k * j.size < vx.length ∧ j.size ≠ 0 := by
          intro hag
          have := hne x y a ha hag
          rcases subC_ok hsx hx with ⟨_, h2, h3⟩ | ⟨h1, h2⟩
          · omega
          · subst h2; simp at this
        have ag2 : isAg j = false → k * j.size < vy.length ∧ j.size ≠ 0 := by
          intro hag
          have := ag1 hag
          rcases subC_ok hsy hy with ⟨_, h2, h3⟩ | ⟨h1, h2⟩
          · omega
          · omega
        have dx : denL β x = some ((vx.drop (k * j.size)).take j.size) := by
          rcases subC_ok hsx hx with ⟨h1, _⟩ | ⟨h1, h2⟩
          · exact h1
          · rw [h2, h1]; simp [denL]
        have dy : denL β y = some ((vy.drop (k * j.size)).take j.size) := by
          rcases subC_ok hsy hy with ⟨h1, _⟩ | ⟨h1, h2⟩
          · exact h1
          · rw [h2, h1]; simp [denL]
        have := hgo x y a ha _ _ w dx dy
        simp only [List.range'_succ, Op.eqItems, Sem.run_bind, part_mkV hti ag1, part_mkV hti ag2, Result.andThen_ok, this]
        cases a
        · simp [std]
        · simpa [std] using hrest
      · cases h
    · cases h

theorem eqAt_len : ∀ (f : Nat) (i : TI) (x y : List SV) (e : Bool), eqAt (std nm) tt f i x y = some e → isAg i = false → x.length ≠ 0
  | 0, _, _, _, _, h, _ => by simp [eqAt] at h
  | f + 1, i, x, y, e, h, hag => by
    unfold eqAt at h
    (try simp only [sel_eq] at h)
    unfold isAg at hag
    split at h
    · split at h
      · simp
      · cases h
    · split at h
      · simp
      · cases h
    · rename_i hk; rw [hk] at hag; cases hag
    · rename_i hk; rw [hk] at hag; cases hag
    · cases h

theorem eqAt_ok (ht : TTok P tt) : ∀ (f d : Nat) (t : TypeId) (i : TI), f ≤ d → TIok P t i → GoOk P β d t i (eqAt (std nm) tt f i)
  | 0, _, _, _, _, _ => by intro xs ys e h; simp [eqAt] at h
  | f + 1, 0, _, _, hd, _ => by omega
  | f + 1, d + 1, t, i, hd, hi => by
    intro xs ys e h vx vy w hx hy
    obtain ⟨_, _, de, _, _, _, _, _, hu, hk⟩ := hi.parts
    have hq := hi.2.2
    unfold eqAt at h
    (try simp only [sel_eq] at h)
    split at h
    · rename_i k hkind
      rw [hkind] at hk
      obtain rfl := kindOf_int hk
      split at h
      · rename_i x y
        split at h
        · rename_i ka a kb b hxa hyb
          cases hkk : kEq ka kb with
          | false => rw [hkk] at h; cases h
          | true =>
            rw [hkk] at h
            obtain rfl := kEq_iff hkk
            simp only [cond_true, Option.some.injEq] at h
            subst h
            simp only [denL, asI_den hxa, asI_den hyb, Option.bind_some, Option.map_some, Option.some.injEq] at hx hy
            subst hx; subst hy
            have hag : isAg i = false := by simp [isAg, hkind]
            simp only [mkV, hag, Bool.false_eq_true, if_false, List.headD_cons]
            simp only [Op.equalIn, Sem.run_bind, run_underlying' w hu, Result.andThen_ok, if_true, Sem.run_pure]
            rfl
        · cases h
      · cases h
    · rename_i hkind
      rw [hkind] at hk
      have hde : de = .bool := by cases de <;> simp [kindOf] at hk; rfl
      subst hde
      split at h
      · rename_i x y
        split at h
        · rename_i a b hxa hyb
          simp only [Option.some.injEq] at h
          subst h
          simp only [denL, asB_den hxa, asB_den hyb, Option.bind_some, Option.map_some, Option.some.injEq] at hx hy
          subst hx; subst hy
          have hag : isAg i = false := by simp [isAg, hkind]
          simp only [mkV, hag, Bool.false_eq_true, if_false, List.headD_cons]
          simp only [Op.equalIn, Sem.run_bind, run_underlying' w hu, Result.andThen_ok, if_true, Sem.run_pure]
          rfl
        · cases h
      · cases h
    · rename_i fs hkind
      have hag : isAg i = true := by simp [isAg, hkind]
      rw [hkind] at hk
      cases de with
      | struct fl =>
        simp only [kindOf, TK.strct.injEq] at hk
        subst hk
        cases hqq : i.eqok with
        | false => rw [hqq] at h; cases h
        | true =>
          rw [hqq] at h hq
          simp only [cond_true] at h
          obtain ⟨g1, g2⟩ := eqOk_struct hq hu
          have hf : P.fieldsOf t = fl := by simp [Program.fieldsOf, hu]
          simp only [mkV, hag, if_true]
          rw [run_equalIn_struct w d t vx.toArray vy.toArray (by rw [hf]; exact hu) g1, hf]
          exact eqFs_ok ht (fun t' i' hi' => eqAt_ok ht f d t' i' (by omega) hi') (fun i' x y e he ha => eqAt_len f i' x y e he ha) hx hy fl.toList e g2 h w
      | _ => simp [kindOf] at hk
    · rename_i n el hkind
      have hag : isAg i = true := by simp [isAg, hkind]
      rw [hkind] at hk
      obtain rfl := kindOf_arr hk
      split at h
      · rename_i j hj
        have hti := tinf_ok ht hj
        obtain ⟨x', _, _, hi1, hs1, _⟩ := hti.parts
        simp only [mkV, hag, if_true]
        rw [run_equalIn_array w d vx.toArray vy.toArray hu hi1]
        have hc : P.cellsOf el = j.size := by simp [Program.cellsOf, hi1, hs1]
        rw [hc, List.range_eq_range']
        exact eqIs_ok hti (eqAt_ok ht f d el j (by omega) hti) (fun x y e he ha => eqAt_len f j x y e he ha) hx hy n 0 e h w
      · cases h
    · cases h
end

end

variable {nm : Md}
noncomputable section

section
variable {E : Env} {ops : Array Oper} {o : Oper} {s : St} {k : St → List Nat → List Nat → Prop} {tt : TT}

theorem guard_int {op : BinOp} {t : TypeId} {xo yo : Operand} {ka kb : IntKind} {a b : Int} (w : World) : (eqGuard op t xo yo (.int ka a) (.int kb b)).run E.P w = .ok () w := by
  simp only [eqGuard]; split <;> rfl
theorem guard_bool {op : BinOp} {t : TypeId} {xo yo : Operand} {a b : Bool} (w : World) : (eqGuard op t xo yo (.bool a) (.bool b)).run E.P w = .ok () w := by
  simp only [eqGuard]; split <;> rfl
theorem guard_str {op : BinOp} {t : TypeId} {xo yo : Operand} {a b : ByteArray} (w : World) : (eqGuard op t xo yo (.string a) (.string b)).run E.P w = .ok () w := by
  simp only [eqGuard]; split <;> rfl
theorem guard_agg {op : BinOp} {t : TypeId} {xo yo : Operand} {a b : Array Value} (w : World) (h : E.P.eqGuardType E.P.depth t = false) : (eqGuard op t xo yo (.agg a) (.agg b)).run E.P w = .ok () w := by
  simp only [eqGuard]; split <;> simp [h]

theorem aggOf_den {β : Ren} {x : SV} {l : List SV} {v : Value} (h : aggOf x = some l) (hx : x.den β = some v) : ∃ vs, v = .agg vs.toArray ∧ denL β l = some vs := by
  cases x with
  | agg l' => simp only [aggOf, Option.some.injEq] at h; subst h; simp only [SV.den, Option.map_eq_some_iff] at hx; obtain ⟨vs, hvs, rfl⟩ := hx; exact ⟨vs, rfl, hvs⟩
  | v y =>
    simp only [SV.den, Option.some.injEq] at hx
    subst hx
    cases y <;> simp only [aggOf, Option.some.injEq, reduceCtorEq] at h
    subst h
    rename_i cs
    exact ⟨cs.toList, by simp, denL_ofC1 β cs.toList⟩
  | _ => simp [aggOf] at h

/-- What a binary operation shows. -/
def BinRes (E : Env) (op : BinOp) (t : TypeId) (xo yo : Operand) (x y r : SV) : Prop :=
  ∀ β a b w, x.den β = some a → y.den β = some b → ∃ v, (do eqGuard op t xo yo a b; binOp op t a b : Sem Value).run E.P w = .ok v w ∧ r.den β = some v

theorem binres_int {op : BinOp} {x y : SV} {k : SV → Prop} {ka kb : IntKind} {a b : Int} (hx : asI x = some (ka, a)) (hy : asI y = some (kb, b)) (h : sxInt (std nm) op y ka a kb b k) (t : TypeId) (xo yo : Operand) :
    ∃ r, k r ∧ BinRes E op t xo yo x y r := by
  obtain ⟨r, v, h1, hrd, h2⟩ := sxInt_ok (P := E.P) hy h t
  refine ⟨r, h1, ?_⟩
  intro β a' b' w hxa hyb
  rw [asI_den hx] at hxa
  rw [asI_den hy] at hyb
  injection hxa with hxa; subst hxa
  injection hyb with hyb; subst hyb
  exact ⟨v, by simp only [Sem.run_bind, guard_int, Result.andThen_ok, h2], hrd β⟩

theorem binOp_eql_bool {t : TypeId} {a b : Bool} {w : World} (hu : E.P.underlying t = some .bool) : (binOp .eql t (.bool a) (.bool b)).run E.P w = .ok (.bool (a == b)) w := by
  have : (Op.equal t (.bool a) (.bool b)).run E.P w = .ok (a == b) w := by
    show (Op.equalIn (9999 + 1) t (.bool a) (.bool b)).run E.P w = _
    rw [Op.equalIn]
    simp only [Sem.run_bind, run_underlying' w hu, Result.andThen_ok, Sem.run_pure]
  show (do pure (Value.bool (← Op.equal t (.bool a) (.bool b))) : Sem Value).run E.P w = _
  simp only [Sem.run_bind, this, Result.andThen_ok, Sem.run_pure]
theorem binOp_neq_bool {t : TypeId} {a b : Bool} {w : World} (hu : E.P.underlying t = some .bool) : (binOp .neq t (.bool a) (.bool b)).run E.P w = .ok (.bool (!(a == b))) w := by
  have : (Op.equal t (.bool a) (.bool b)).run E.P w = .ok (a == b) w := by
    show (Op.equalIn (9999 + 1) t (.bool a) (.bool b)).run E.P w = _
    rw [Op.equalIn]
    simp only [Sem.run_bind, run_underlying' w hu, Result.andThen_ok, Sem.run_pure]
  show (do pure (Value.bool (!(← Op.equal t (.bool a) (.bool b)))) : Sem Value).run E.P w = _
  simp only [Sem.run_bind, this, Result.andThen_ok, Sem.run_pure]

theorem sxBin_gen (ht : TTok E.P tt) {op : BinOp} {x y : SV} {k : SV → Prop} {t : TypeId} (xo yo : Operand) (h : match asI x, asI y with
    | some (ka, a), some (kb, b) => sxInt (std nm) op y ka a kb b k
    | _, _ => match x, y with
      | .v (.string a), .v (.string b) => match op with
        | .eql => k (mkB (std nm) ((std nm).seq a b))
        | .neq => k (mkB (std nm) ((std nm).bnot ((std nm).seq a b)))
        | .add => must (std nm) (fun _ => ((a.size + b.size : Nat) : Int) ≤ 9223372036854775807) (fun _ => decide (((a.size + b.size : Nat) : Int) ≤ 9223372036854775807)) (k (.v (.string (a ++ b))))
        | _ => False
      | _, _ => oB (tinf tt t) fun i => match asB x, asB y with
        | some a, some b => match op, i.kind with
          | .eql, .bool => k (mkB (std nm) ((std nm).beq a b))
          | .neq, .bool => k (mkB (std nm) ((std nm).bnot ((std nm).beq a b)))
          | _, _ => False
        | _, _ => oB (aggOf x) fun xs => oB (aggOf y) fun ys => iB (isAg i && i.eqok) <| oB (eqAt (std nm) tt 6 i xs ys) fun e => match op with
          | .eql => k (mkB (std nm) e)
          | .neq => k (mkB (std nm) ((std nm).bnot e))
          | _ => False) : ∃ r, k r ∧ BinRes E op t xo yo x y r := by
    split at h
    · rename_i ka a kb b hx hy
      exact binres_int hx hy h t xo yo
    · split at h
      · rename_i a b _ _ _
        split at h
        · refine ⟨_, h, ?_⟩
          intro β a' b' w hxa hyb
          simp only [SV.den, Option.some.injEq] at hxa hyb
          subst hxa; subst hyb
          refine ⟨_, ?_, by first | exact mkB_den β | rfl⟩
          simp only [Sem.run_bind, guard_str, Result.andThen_ok, binOp, Op.stringOp, Sem.run_pure, std]
        · refine ⟨_, h, ?_⟩
          intro β a' b' w hxa hyb
          simp only [SV.den, Option.some.injEq] at hxa hyb
          subst hxa; subst hyb
          refine ⟨_, ?_, by first | exact mkB_den β | rfl⟩
          simp only [Sem.run_bind, guard_str, Result.andThen_ok, binOp, Op.stringOp, Sem.run_pure, std]
        · replace h := must_ok (fun hh => of_decide_eq_true hh) h
          refine ⟨_, h.2, ?_⟩
          intro β a' b' w hxa hyb
          simp only [SV.den, Option.some.injEq] at hxa hyb
          subst hxa; subst hyb
          refine ⟨_, ?_, by first | exact mkB_den β | rfl⟩
          have hb := h.1
          have e : IntKind.i64.max = 9223372036854775807 := by decide
          simp only [Sem.run_bind, guard_str, Result.andThen_ok, binOp, Op.stringOp, e]
          rw [if_neg (by omega)]
          rfl
        · exact h.elim
      · obtain ⟨i, hi, h⟩ := oB_some h
        have hti := tinf_ok ht hi
        obtain ⟨_, _, d, _, _, _, _, _, hu, hd⟩ := hti.parts
        split at h
        · rename_i a b hx hy
          split at h
          · have hk : i.kind = .bool := by assumption
            have hd' : d = .bool := by rw [hk] at hd; cases d <;> simp [kindOf] at hd; rfl
            subst hd'
            refine ⟨_, h, ?_⟩
            intro β a' b' w hxa hyb
            rw [asB_den hx] at hxa
            rw [asB_den hy] at hyb
            injection hxa with hxa; subst hxa
            injection hyb with hyb; subst hyb
            refine ⟨_, ?_, by first | exact mkB_den β | rfl⟩
            simp only [Sem.run_bind, guard_bool, Result.andThen_ok, binOp_eql_bool hu, std]
          · have hk : i.kind = .bool := by assumption
            have hd' : d = .bool := by rw [hk] at hd; cases d <;> simp [kindOf] at hd; rfl
            subst hd'
            refine ⟨_, h, ?_⟩
            intro β a' b' w hxa hyb
            rw [asB_den hx] at hxa
            rw [asB_den hy] at hyb
            injection hxa with hxa; subst hxa
            injection hyb with hyb; subst hyb
            refine ⟨_, ?_, by first | exact mkB_den β | rfl⟩
            simp only [Sem.run_bind, guard_bool, Result.andThen_ok, binOp_neq_bool hu, std]
          · exact h.elim
        · obtain ⟨xs, hxs, h⟩ := oB_some h
          obtain ⟨ys, hys, h⟩ := oB_some h
          cases hag : (isAg i && i.eqok) with
          | false => rw [hag] at h; exact h.elim
          | true =>
            rw [hag] at h
            simp only [Bool.and_eq_true] at hag
            obtain ⟨hag, hok⟩ := hag
            obtain ⟨e, he, h⟩ := oB_some h
            have hq := hti.2.2
            have hg : E.P.eqGuardType E.P.depth t = false := by
              rw [hok] at hq
              unfold eqOkP at hq
              simp only [Bool.and_eq_true, Bool.not_eq_true'] at hq
              exact hq.1
            have key : ∀ (β : Ren) (a b : Value) (w : World), x.den β = some a → y.den β = some b → ∃ ca cb, a = .agg ca ∧ b = .agg cb ∧ (Op.equal t a b).run E.P w = .ok e w := by
              intro β a b w ha hb
              obtain ⟨va, rfl, hva⟩ := aggOf_den hxs ha
              obtain ⟨vb, rfl, hvb⟩ := aggOf_den hys hb
              refine ⟨_, _, rfl, rfl, ?_⟩
              have := eqAt_ok (β := β) ht 6 10000 t i (by omega) hti xs ys e he va vb w hva hvb
              simp only [mkV, hag, if_true] at this
              exact this
            split at h
            · refine ⟨_, h, ?_⟩
              intro β a b w ha hb
              obtain ⟨ca, cb, rfl, rfl, hr⟩ := key β a b w ha hb
              refine ⟨_, ?_, by first | exact mkB_den β | rfl⟩
              show (do eqGuard .eql t xo yo (.agg ca) (.agg cb); (do pure (Value.bool (← Op.equal t (.agg ca) (.agg cb)))) : Sem Value).run E.P w = _
              simp only [Sem.run_bind, guard_agg w hg, Result.andThen_ok, hr, Sem.run_pure]
            · refine ⟨_, h, ?_⟩
              intro β a b w ha hb
              obtain ⟨ca, cb, rfl, rfl, hr⟩ := key β a b w ha hb
              refine ⟨_, ?_, by first | exact mkB_den β | rfl⟩
              show (do eqGuard .neq t xo yo (.agg ca) (.agg cb); (do pure (Value.bool (!(← Op.equal t (.agg ca) (.agg cb))))) : Sem Value).run E.P w = _
              simp only [Sem.run_bind, guard_agg w hg, Result.andThen_ok, hr, Sem.run_pure, std]
            · exact h.elim

theorem sxBin_ok (ht : TTok E.P tt) {op : BinOp} {x y : SV} {k : SV → Prop} {t : TypeId} (h : sxBin (std nm) tt (tinf tt t) op x y k) (xo yo : Operand) :
    ∃ r, k r ∧ BinRes E op t xo yo x y r := by
  cases x with
  | lit ka a => cases y with
    | lit kb b =>
      simp only [sxBin] at h
      cases hk : kEq ka kb with
      | false => rw [hk] at h; exact binres_int rfl rfl h t xo yo
      | true =>
        cases hl : litOp op ka a b with
        | none => rw [hl, hk] at h; exact binres_int rfl rfl h t xo yo
        | some r =>
          rw [hl, hk] at h
          obtain rfl := kEq_iff hk
          refine ⟨r, h, ?_⟩
          intro β a' b' w hxa hyb
          simp only [SV.den, Option.some.injEq] at hxa hyb
          subst hxa; subst hyb
          obtain ⟨v, h1, h2⟩ := litOp_ok (P := E.P) hl t β
          exact ⟨v, by simp only [Sem.run_bind, guard_int, Result.andThen_ok, h1], h2⟩
    | _ => exact sxBin_gen ht xo yo h
  | _ => exact sxBin_gen ht xo yo h

end

end

variable {nm : Md}
noncomputable section

section
variable {E : Env} {ops : Array Oper} {o : Oper} {s : St} {k : St → List Nat → List Nat → Prop} {tt : TT} {base j : Nat}

theorem opMem {x : Operand} {l : Array Operand} (h : o.op.operands = l) (hx : x ∈ l.toList) : x ∈ o.op.operands.toList := by rw [h]; exact hx

theorem Hl.below {E : Env} {σ : Sg} {β : Ren} {w w' : World} (hr : Hl E σ β w) (hb : Below w.heap.size w w') : Hl E σ β w' := by
  refine ⟨?_, hr.fresh, hr.inj, ?_, hr.anc⟩
  · intro id b hbk hlv
    obtain ⟨q, us, rs, h1, h2, h3, h4, h5⟩ := hr.blk id b hbk hlv
    exact ⟨q, us, rs, h1, h2, by rw [hb.block q.p (heap_lt h3)]; exact h3, h4, h5⟩
  · refine ⟨hb.os.trans hr.keep.os, hb.tape.trans hr.keep.tape, hb.output.trans hr.keep.output, Nat.le_trans hr.keep.size hb.size, fun p hp => ?_⟩
    rw [hb.block p (Nat.lt_of_lt_of_le (E.low p hp) hr.keep.size)]
    exact hr.keep.block p hp
theorem Rl.below {E : Env} {σ : Sg} {β : Ren} {a : Act} {w w' : World} (hr : Rl E σ β a w) (hb : Below w.heap.size w w') : Rl E σ β a w' := ⟨hr.toHl.below hb, hr.size, hr.defers, hr.tmp⟩

/-- A call of a function that takes and gives values. -/
theorem post_callV {c : Call} {f : FuncId} {l : List SV} {x : SV} (hop : o.op = .call c) (hc : c.callee = .value (.func f)) (hl' : evL s c.args.toList = some l) (hcall : CallV E f l x)
    (hk : k (s.put o x) [] []) (hl : Sz E.nt s) (hd : ∀ t, o.dst = some t → t < E.nt) : PostR E ops o s k := by
  refine ⟨s.put o x, [], [], putW o.dst x, hk, sg_put (fun t ht => (hl t).2 (hd t ht)), len_put, ?_, by simp, ?_⟩
  · intro key d h
    obtain ⟨t, h1, h2⟩ := look_putW h
    exact .inl ⟨t, h1, h2⟩
  · intro Q K σ β a w hag hr hK
    obtain ⟨⟨fn, hf1, hf2, hf3⟩, vs, V, hvs, hV, hcalls⟩ := hcall.out
    have hops : ∀ y ∈ c.args.toList, y ∈ o.op.operands.toList := by
      intro y hy; rw [hop]; simp only [Op.operands, Call.operands, hc]; simp; exact .inr (by simpa using hy)
    have hargs := evL_ok hag hr c.args.toList l hops hl'
    rw [hvs β] at hargs
    injection hargs with hargs
    have hrun : (execOp a.eval o).run E.P w = .ok (.enter f vs.toArray) w := by
      have e1 : c.args.map a.eval = vs.toArray := by rw [hargs]; apply Array.ext'; simp
      simp only [execOp, hop, resolve, hc, Act.eval, Deferred.ofValue, Sem.run_bind, Sem.run_pure, Result.andThen_ok, invoke, callFunc, run_program, hf1]
      have hb : fn.body.isNone = false := by simpa using hf3
      simp only [hf2, Bool.false_eq_true, if_false, hb, Sem.run_pure, e1]
      simp
    unfold Oper.wp
    rw [hrun, Oper.upon_enter]
    refine (hcalls w).mono ?_
    rintro e w' ⟨rfl, hb⟩
    exact hK β _ _ (Rl.put (v := V) (hr.below hb) (hV β) hd)

theorem evP_ok {r : List Nat} {σ : Sg} {β : Ren} {a : Act} {w : World} (hag : Agree ops o s r σ) (hr : Rl E σ β a w) : ∀ (ps : List (Nat × Operand)) (ys : List (Nat × SV)), (∀ p ∈ ps, p.2 ∈ o.op.operands.toList) → evP s ps = some ys →
    ∃ vs : List Value, ys.map (·.1) = ps.map (·.1) ∧ denL β (ys.map (·.2)) = some vs ∧ vs = ps.map fun p => a.eval p.2
  | [], ys, _, h => by simp only [evP, Option.some.injEq] at h; subst h; exact ⟨[], by simp, by simp [denL], by simp⟩
  | (i, x) :: ps, ys, hm, h => by
    simp only [evP] at h
    split at h
    · rename_i y l h1 h2
      simp only [Option.some.injEq] at h
      subst h
      obtain ⟨vs, e1, e2, e3⟩ := evP_ok hag hr ps l (fun p hp => hm p (List.mem_cons_of_mem _ hp)) h2
      refine ⟨a.eval x :: vs, by simp [e1], ?_, by simp [e3]⟩
      simp only [List.map_cons, denL, ev_ok hag hr (hm (i, x) List.mem_cons_self) h1, Option.bind_some, e2, Option.map_some]
    · cases h

theorem foldl_splice (off : Nat) : ∀ (us : List Value) (cs : Array Value) (j : Nat), ((us.zipIdx j).foldl (fun cs (c, i) => cs.setIfInBounds (off + i) c) cs).toList = spl cs.toList (off + j) us
  | [], cs, j => by simp [spl]
  | u :: us, cs, j => by
    simp only [List.zipIdx_cons, List.foldl_cons, spl]
    rw [foldl_splice off us _ (j + 1)]
    simp [Nat.add_assoc]

theorem fill_ok {β : Ren} {place : Nat → Option (Nat × Nat)} : ∀ (l : List (Nat × SV)) (cells cs : List SV) (vs : List Value) (us : List Value), fillS place cells l = some cs → denL β cells = some vs → denL β (l.map (·.2)) = some us →
    ∃ ws : Array Value, Instr.fill place vs.toArray ((l.map (·.1)).zip us) = some ws ∧ denL β cs = some ws.toList
  | [], cells, cs, vs, us, h, hc, hu => by
    simp only [sel_eq, fillS, Option.some.injEq] at h
    subst h
    simp [denL] at hu; subst hu
    exact ⟨vs.toArray, by simp [Instr.fill], by simpa using hc⟩
  | (i, x) :: l, cells, cs, vs, us, h, hc, hu => by
    simp only [List.map_cons, denL, Option.bind_eq_some_iff, Option.map_eq_some_iff] at hu
    obtain ⟨v, hv, us', hus, rfl⟩ := hu
    simp only [sel_eq, fillS] at h
    split at h
    · rename_i off size cl hp hcl
      cases hb : (Nat.beq cl.length size && Nat.ble (off + size) cells.length) with
      | false => rw [hb] at h; cases h
      | true =>
        rw [hb] at h
        simp only [cond_true] at h
        simp only [Bool.and_eq_true] at hb
        have h1 := Nat.eq_of_beq_eq_true hb.1
        have h2 := Nat.le_of_ble_eq_true hb.2
        have hcv := cellsOf_den hcl hv
        have hlen := denL_length hcv
        have hlc := denL_length hc
        obtain ⟨ws, e1, e2⟩ := fill_ok l _ cs _ us' h (denL_spl cl _ cells vs off hcv hc) hus
        refine ⟨ws, ?_, e2⟩
        simp only [List.map_cons, List.zip_cons_cons, Instr.fill, hp]
        have c1 : v.cells.size = size := by have : v.cells.toList.length = v.cells.size := by simp
                                            omega
        have c2 : ¬ (off + v.cells.size > vs.toArray.size) := by simp; omega
        split
        · rename_i hh; simp [c1] at hh; simp at c2; omega
        rw [← e1]
        congr 1
        apply Array.ext'
        have := foldl_splice off v.cells.toList vs.toArray 0
        simp only [Nat.add_zero] at this
        rw [← this, ← Array.foldl_toList, Array.toList_zipIdx]
    · cases h

theorem zip_map_fst (ps : List (Nat × Operand)) (f : Operand → Value) : (ps.map (·.1)).zip (ps.map fun p => f p.2) = ps.map fun p => (p.1, f p.2) := by
  induction ps with
  | nil => rfl
  | cons p r ih => simp [ih]

theorem mapM_places {P : Program} {tt : TT} (ht : TTok P tt) {fs : Array Field} (w : World) (h : ∀ f ∈ fs.toList, ∃ j, TIok P f.type j) :
    ∃ pl : Array (Nat × Nat), (fs.mapM (fun (f : Field) => (do pure (f.offset, ← sizeOf f.type) : Sem (Nat × Nat)))).run P w = .ok pl w ∧ pl.size = fs.size ∧ ∀ (i : Nat) (f : Field), fs[i]? = some f → pl[i]? = some (f.offset, P.cellsOf f.type) := by
  have key : ∀ (l : List Field), (∀ f ∈ l, ∃ j, TIok P f.type j) → (l.mapM (fun (f : Field) => (do pure (f.offset, ← sizeOf f.type) : Sem (Nat × Nat)))).run P w = .ok (l.map fun f => (f.offset, P.cellsOf f.type)) w := by
    intro l
    induction l with
    | nil => intro _; rfl
    | cons f l ih =>
      intro hl
      obtain ⟨jj, hj⟩ := hl f List.mem_cons_self
      obtain ⟨x, _, _, h1, h2, _⟩ := hj.parts
      have hs : (sizeOf f.type).run P w = .ok (P.cellsOf f.type) w := by simp [sizeOf, run_typeInfo' w h1, Program.cellsOf, h1]
      rw [List.mapM_cons]
      simp only [Sem.run_bind, hs, Result.andThen_ok, Sem.run_pure, ih (fun g hg => hl g (List.mem_cons_of_mem _ hg)), List.map_cons]
  refine ⟨(fs.toList.map fun f => (f.offset, P.cellsOf f.type)).toArray, ?_, by simp, ?_⟩
  · rw [Array.mapM_eq_mapM_toList]
    simp only [Sem.run_map, key fs.toList h, Result.andThen_ok]
  · intro i f hf
    have : fs.toList[i]? = some f := by simpa using hf
    simp [this]

end

end

variable {nm : Md}
noncomputable section

section
variable {E : Env} {ops : Array Oper} {o : Oper} {s : St} {k : St → List Nat → List Nat → Prop} {tt : TT} {base j : Nat}

theorem execv {ρ : Operand → Value} {w : World} {x : Sem Value} {v : Value} (he : execOp ρ o = (do pure (.value (← x)))) (h : x.run E.P w = .ok v w) : (execOp ρ o).run E.P w = .ok (.value v) w := by
  rw [he]; simp only [Sem.run_bind, h, Result.andThen_ok, Sem.run_pure]
theorem execv' {ρ : Operand → Value} {w w' : World} {x : Sem Value} {v : Value} (he : execOp ρ o = (do pure (.value (← x)))) (h : x.run E.P w = .ok v w') : (execOp ρ o).run E.P w = .ok (.value v) w' := by
  rw [he]; simp only [Sem.run_bind, h, Result.andThen_ok, Sem.run_pure]

theorem s_build (ht : TTok E.P tt) {t : TypeId} {ps : Array (Nat × Operand)} (hop : o.op = .build t ps) (hl : Sz E.nt s) (hd : ∀ t, o.dst = some t → t < E.nt)
    (h : sxOp (std nm) E tt base j o s k) : PostR E ops o s k := by
  simp only [sxOp, hop, o_build] at h
  replace h := oB_some h; obtain ⟨i, hi, h⟩ := h
  have hkn : known tt i = true := by cases hh : known tt i with
    | true => rfl
    | false => rw [hh] at h; exact h.elim
  rw [hkn] at h
  replace h := oB_some h; obtain ⟨l, hle, h⟩ := h
  replace h := oB_some h; obtain ⟨cs, hcs, h⟩ := h
  have hti := tinf_ok ht hi
  obtain ⟨x, z, d, h1, h2, h3, h4, h5, h6, h7⟩ := hti.parts
  refine post_val h hl hd ?_
  intro σ β a w hag hr
  obtain ⟨vs, e1, e2, e3⟩ := evP_ok hag hr ps.toList l (fun p hp => by rw [hop]; simp only [Op.operands]; simp; exact ⟨p.1, by simpa using hp⟩) hle
  subst e3
  obtain ⟨ws, f1, f2⟩ := fill_ok l _ cs i.zero _ hcs (denL_ofC1 β i.zero) e2
  rw [e1, zip_map_fst] at f1
  have hz : (zeroValue t).run E.P w = .ok z w := by simp [zeroValue, run_typeInfo' w h1, h4]
  refine ⟨.agg ws, ?_, by simp [SV.den, f2]⟩
  refine execv (x := Instr.build t (ps.map fun (i, x) => (i, a.eval x))) (by simp only [execOp, hop]) ?_
  have hps : (ps.map fun x => (x.1, a.eval x.2)).toList = ps.toList.map fun p => (p.1, a.eval p.2) := by simp
  have hzz : z.cells = i.zero.toArray := by apply Array.ext'; simp [h5]
  cases hk : i.kind with
  | strct fs =>
    rw [hk] at h7
    cases d with
    | struct fl =>
      simp only [kindOf, TK.strct.injEq] at h7
      have hknown : ∀ f ∈ fl.toList, ∃ j, TIok E.P f.type j := by
        have : knownFs tt fs = true := by simpa [known, hk] using hkn
        rw [← h7] at this
        have gen : ∀ (m : List Field), knownFs tt (m.map fun f => (f.type, f.offset)) = true → ∀ f ∈ m, ∃ j, TIok E.P f.type j := by
          intro m
          induction m with
          | nil => intro _ f hf; cases hf
          | cons g m ih =>
            intro hg f hf
            simp only [List.map_cons, knownFs] at hg
            split at hg
            · rename_i jj hjj
              rcases List.mem_cons.1 hf with rfl | hf
              · exact ⟨jj, tinf_ok ht hjj⟩
              · exact ih hg f hf
            · cases hg
        exact gen fl.toList this
      obtain ⟨pl, p1, p2, p3⟩ := mapM_places ht w hknown
      have hplace : ∀ n off size, placeOf tt i n = some (off, size) → pl[n]? = some (off, size) := by
        intro n off size hpl
        simp only [placeOf, hk, Option.map_eq_some_iff] at hpl
        obtain ⟨⟨ft, off'⟩, hf, hp⟩ := hpl
        simp only [Prod.mk.injEq] at hp
        obtain ⟨rfl, rfl⟩ := hp
        have hf' := fieldOf_ok ht hf (d := .struct fl) (by rw [hk]; simp [kindOf, h7])
        obtain ⟨fs', fld, q1, q2, q3, q4⟩ := hf'
        injection q1 with q1
        subst q1
        rw [p3 n fld q2, q3]
        obtain ⟨y, _, _, y1, y2, _⟩ := q4.parts
        simp [Program.cellsOf, y1, y2]
      have hfill : ∀ (m : List (Nat × Value)) (c r : Array Value), Instr.fill (placeOf tt i) c m = some r → Instr.fill (pl[·]?) c m = some r := by
        intro m
        induction m with
        | nil => intro c r hh; exact hh
        | cons q m ih =>
          intro c r hh
          obtain ⟨n, v⟩ := q
          simp only [Instr.fill] at hh ⊢
          cases hpl : placeOf tt i n with
          | none => rw [hpl] at hh; cases hh
          | some os =>
            obtain ⟨off, size⟩ := os
            rw [hplace n off size hpl]
            rw [hpl] at hh
            simp only at hh ⊢
            split at hh
            · cases hh
            · rename_i hc
              rw [if_neg hc]
              exact ih _ _ hh
      simp only [Instr.build, Sem.run_bind, hz, Result.andThen_ok, run_underlying' w h6, p1]
      rw [hps, hzz]
      rw [hfill _ _ _ f1]
      rfl
    | _ => simp [kindOf] at h7
  | arr n e =>
    rw [hk] at h7
    obtain rfl := kindOf_arr h7
    simp only [known, hk] at hkn
    split at hkn
    · rename_i et het
      have hte := tinf_ok ht het
      have hfill : (placeOf tt i) = fun m => some (m * et.size, et.size) := by funext m; simp [placeOf, hk, het]
      rw [hfill] at f1
      simp only [Instr.build, Sem.run_bind, hz, Result.andThen_ok, run_underlying' w h6, run_sizeOf' w hte]
      rw [hps, hzz, f1]
      rfl
    · cases hkn
  | _ => rw [known, hk] at hkn; cases hkn

theorem s_load (ht : TTok E.P tt) {t : TypeId} {x : Operand} (hop : o.op = .load t x) (hl : Sz E.nt s) (hd : ∀ t, o.dst = some t → t < E.nt)
    (h : sxOp (std nm) E tt base j o s k) : PostR E ops o s k := by
  simp only [sel_eq, sxOp, hop, o_load] at h
  replace h := oB_some h; obtain ⟨y, hy, h⟩ := h
  replace h := oB_some h; obtain ⟨i, hi, h⟩ := h
  have hti := tinf_ok ht hi
  have hmem : x ∈ o.op.operands.toList := by rw [hop]; simp [Op.operands]
  have own : ∀ {id off : Nat} {b : Blk} {r : SV}, (∀ β v, y.den β = some v → ∃ q, β id = some q ∧ v = .pointer (some ⟨q.p, off, none⟩)) → getL s.blks id = some b → partOf i b.cells off = some r → k (s.put o r) [id] [] → PostR E ops o s k := by
    intro id off b r hden hb hp hk
    obtain ⟨hb, hlv⟩ := getL_some hb
    refine post_val hk hl hd ?_
    intro σ β a w hag hr
    have he := ev_ok hag hr hmem hy
    obtain ⟨p, hp1, hp2⟩ := hden β _ he
    have hs : σ (.blk id) = some (.blk b) := by rw [hag.2 id (by simp)]; simp [St.sg, hb]
    obtain ⟨p', vs, rest, q1, q2, q3, -⟩ := hr.blk id b hs hlv
    rw [hp1] at q1; injection q1 with q1; subst q1
    obtain ⟨v, r1, r2⟩ := run_loadVar' hti rest q3 q2 hp
    refine ⟨v, ?_, r2⟩
    refine execv (x := Instr.loadAt t (a.eval x)) (by simp only [execOp, hop]) ?_
    rw [hp2]
    simp only [Instr.loadAt, Instr.sureAddr, Sem.run_bind, Sem.run_pure, Result.andThen_ok, r1]
  split at h
  · rename_i id off
    replace h := oB_some h; obtain ⟨b, hb, h⟩ := h
    replace h := oB_some h; obtain ⟨r, hr, h⟩ := h
    exact own (fun β v hv => by simp only [SV.den, Option.map_eq_some_iff] at hv; obtain ⟨p, h1, h2⟩ := hv; exact ⟨p, h1, h2.symm⟩) hb hr h
  · rename_i id off
    replace h := oB_some h; obtain ⟨b, hb, h⟩ := h
    obtain ⟨r, hr, h⟩ := h
    exact own (fun β v hv => by simp only [SV.den, Option.map_eq_some_iff] at hv; obtain ⟨p, h1, h2⟩ := hv; exact ⟨p, h1, h2.symm⟩) hb hr h
  · rename_i p
    rcases cond_pq h with ⟨_, h⟩ | ⟨hag', r, hr1, hr2, hk⟩
    · exact h.elim
    · refine post_val hk hl hd ?_
      intro σ β a w hag hr
      have he := ev_ok hag hr hmem hy
      simp only [SV.den, Option.some.injEq] at he
      refine ⟨r, ?_, rfl⟩
      refine execv (x := Instr.loadAt t (a.eval x)) (by simp only [execOp, hop]) ?_
      rw [← he]
      have hcell : w.cell? p = some r := by
        rw [← hr1]
        unfold World.cell?
        rw [hr.keep.block p.block hr2]
      simp only [Instr.loadAt, Instr.sureAddr, Sem.run_bind, Sem.run_pure, Result.andThen_ok, loadVar, run_isAgg' w hti, hag', Bool.false_eq_true, if_false, run_load, hcell]
  · exact h.elim

theorem s_store (ht : TTok E.P tt) {t : TypeId} {x z : Operand} (hop : o.op = .store t x z) (hl : Sz E.nt s) (hd : ∀ t, o.dst = some t → t < E.nt)
    (h : sxOp (std nm) E tt base j o s k) : PostR E ops o s k := by
  simp only [sel_eq, sxOp, hop, o_store] at h
  replace h := oB_some h; obtain ⟨y, hy, h⟩ := h
  replace h := oB_some h; obtain ⟨c, hc, h⟩ := h
  replace h := oB_some h; obtain ⟨i, hi, h⟩ := h
  replace h := oB_some h; obtain ⟨l, hcl, h⟩ := h
  have hti := tinf_ok ht hi
  rcases cond_pq h with ⟨hcond, h⟩ | ⟨_, h⟩
  · simp only [Bool.and_eq_true] at hcond
    have hlen := Nat.eq_of_beq_eq_true hcond.1
    have hm1 : x ∈ o.op.operands.toList := by rw [hop]; simp [Op.operands]
    have hm2 : z ∈ o.op.operands.toList := by rw [hop]; simp [Op.operands]
    have own : ∀ {id off : Nat} {b : Blk}, (∀ β v, y.den β = some v → ∃ q, β id = some q ∧ v = .pointer (some ⟨q.p, off, none⟩)) → getL s.blks id = some b → off + i.size ≤ b.cells.length →
        k ((s.setB id ⟨b.ty, splice b.cells off l, b.m⟩).put o (.v undef)) [id] [id] → PostR E ops o s k := by
      intro id off b hden hb hle hk
      refine post_skipB hk hl hd hb ?_
      intro σ β a w q vs rest hag hr hp hv hw
      have e1 := ev_ok hag hr hm1 hy
      have e2 := ev_ok hag hr hm2 hc
      obtain ⟨p', hp1, hp2⟩ := hden β _ e1
      rw [hp] at hp1; injection hp1 with hp1; subst hp1
      have hcd := cellsOf_den hcl e2
      have hll := denL_length hcd
      have hvl := denL_length hv
      refine ⟨spl vs off (a.eval z).cells.toList, ?_, denL_spl l _ _ _ off hcd hv, by rw [spl_length]⟩
      have hsz : (a.eval z).cells.size = i.size := by have : (a.eval z).cells.toList.length = (a.eval z).cells.size := by simp
                                                      omega
      have := run_storeVar' (P := E.P) (off := off) hti hw hsz (by simp; omega) (plain_all hcond.2 hcd)
      rw [spl_append _ _ _ _ (by rw [Array.length_toList, hsz]; omega)] at this
      simp only [execOp, hop, Instr.storeAt, Instr.sureAddr, hp2, Sem.run_bind, Sem.run_pure, Result.andThen_ok, this]
    split at h
    · rename_i id off
      replace h := oB_some h; obtain ⟨b, hb, h⟩ := h
      rcases cond_pq h with ⟨hle, h⟩ | ⟨_, h⟩
      · exact own (fun β v hv => by simp only [SV.den, Option.map_eq_some_iff] at hv; obtain ⟨p, h1, h2⟩ := hv; exact ⟨p, h1, h2.symm⟩) hb (Nat.le_of_ble_eq_true hle) h
      · exact h.elim
    · rename_i id off
      replace h := oB_some h; obtain ⟨b, hb, h⟩ := h
      obtain ⟨⟨hle⟩, h⟩ := h
      exact own (fun β v hv => by simp only [SV.den, Option.map_eq_some_iff] at hv; obtain ⟨p, h1, h2⟩ := hv; exact ⟨p, h1, h2.symm⟩) hb hle h
    · exact h.elim
  · exact h.elim

end

end

variable {nm : Md}
noncomputable section

section
variable {E : Env} {ops : Array Oper} {o : Oper} {s : St} {k : St → List Nat → List Nat → Prop} {tt : TT} {base j : Nat}

theorem fieldPlace_ok {P : Program} {w : World} {fld : Field} {ft : TI} (h : TIok P fld.type ft) (hz : ft.size ≠ 0) (b o' : Nat) : (fieldPlace ⟨b, o', none⟩ fld).run P w = .ok ⟨b, o' + fld.offset, none⟩ w := by
  simp only [fieldPlace, Sem.run_bind, run_sizeOf' w h, Result.andThen_ok, hz, if_false, Sem.run_pure, Addr.add_eq]

theorem s_small (ht : TTok E.P tt) (hl : Sz E.nt s) (hd : ∀ t, o.dst = some t → t < E.nt)
    (h : sxOp (std nm) E tt base j o s k) : PostR E ops o s k := by
  cases hop : o.op with
  | move x =>
    simp only [sxOp, hop, o_move] at h
    replace h := oB_some h; obtain ⟨y, hy, h⟩ := h
    refine post_val h hl hd fun σ β a w hag hr => ⟨a.eval x, by simp only [execOp, hop, Sem.run_pure], ev_ok hag hr (by rw [hop]; simp [Op.operands]) hy⟩
  | assign x =>
    simp only [sxOp, hop, o_assign] at h
    replace h := oB_some h; obtain ⟨y, hy, h⟩ := h
    refine post_val h hl hd fun σ β a w hag hr => ⟨a.eval x, by simp only [execOp, hop, Sem.run_pure], ev_ok hag hr (by rw [hop]; simp [Op.operands]) hy⟩
  | pick c x z =>
    simp only [sel_eq, sxOp, hop, o_pick] at h
    replace h := oB_some h; obtain ⟨cv, hc, h⟩ := h
    replace h := oB_some h; obtain ⟨xv, hx, h⟩ := h
    replace h := oB_some h; obtain ⟨zv, hz, h⟩ := h
    have gen : ∀ t : Bool, (∀ β, cv.den β = some (.bool t)) → k (s.put o (if t then xv else zv)) [] [] → PostR E ops o s k := by
      intro t hden hk
      refine post_val hk hl hd fun σ β a w hag hr => ⟨if t then a.eval x else a.eval z, ?_, ?_⟩
      · have := ev_ok hag hr (by rw [hop]; simp [Op.operands]) hc
        rw [hden β] at this
        injection this with this
        simp only [execOp, hop, ← this, asBool, Sem.run_bind, Sem.run_pure, Result.andThen_ok]
      · cases t
        · exact ev_ok hag hr (by rw [hop]; simp [Op.operands]) hz
        · exact ev_ok hag hr (by rw [hop]; simp [Op.operands]) hx
    split at h
    · rename_i t
      exact gen t (fun β => rfl) (by cases t <;> exact h)
    · rename_i e
      cases e with
      | true => exact gen true (fun β => rfl) (h.1 rfl)
      | false => exact gen false (fun β => rfl) (h.2 rfl)
    · exact h.elim
  | alloc t =>
    simp only [sxOp, hop, o_alloc] at h
    replace h := oB_some h; obtain ⟨i, hi, h⟩ := h
    have hti := tinf_ok ht hi
    split at h
    · rename_i hb
      refine post_alloc h hl hd hb fun σ β a w hag hr => ?_
      obtain ⟨z, h1, h2⟩ := run_zeroValue' w hti
      refine ⟨i.zero, .pointer (some ⟨w.heap.size, 0, none⟩), ?_, denL_ofC1 β i.zero, fun β' hb' => by simp [SV.den, hb']⟩
      have hzz : z.cells = i.zero.toArray := by apply Array.ext'; simp [h2]
      refine execv' (x := Instr.alloc t true (.tuple #[])) (by simp only [execOp, hop]) ?_
      simp only [Instr.alloc, Sem.run_bind, h1, Result.andThen_ok, newVar, newRow, run_newObj, Sem.run_pure, hzz]
    · exact h.elim
  | box t x =>
    simp only [sxOp, hop, o_box] at h
    replace h := oB_some h; obtain ⟨y, hy, h⟩ := h
    replace h := oB_some h; obtain ⟨l, hl', h⟩ := h
    split at h
    · rename_i hb
      refine post_alloc h hl hd hb fun σ β a w hag hr => ?_
      have he := ev_ok hag hr (by rw [hop]; simp [Op.operands]) hy
      refine ⟨(a.eval x).cells.toList, .pointer (some ⟨w.heap.size, 0, none⟩), ?_, cellsOf_den hl' he, fun β' hb' => by simp [SV.den, hb']⟩
      refine execv' (x := Instr.box t (a.eval x)) (by simp only [execOp, hop]) ?_
      simp only [Instr.box, Sem.run_bind, Result.andThen_ok, newVar, newRow, run_newObj, Sem.run_pure]
    · exact h.elim
  | build t ps => exact s_build ht hop hl hd h
  | load t x => exact s_load ht hop hl hd h
  | store t x z => exact s_store ht hop hl hd h
  | nilCheck x =>
    simp only [sxOp, hop, o_nilCheck] at h
    replace h := oB_some h; obtain ⟨y, hy, h⟩ := h
    have gen : (∀ β v, y.den β = some v → ∃ p, v = .pointer (some p)) → k (s.put o y) [] [] → PostR E ops o s k := by
      intro hden hk
      refine post_val hk hl hd fun σ β a w hag hr => ?_
      have he := ev_ok hag hr (by rw [hop]; simp [Op.operands]) hy
      refine ⟨a.eval x, ?_, he⟩
      obtain ⟨p, hp⟩ := hden β _ he
      simp only [execOp, hop, hp, Sem.run_pure]
    split at h
    · exact gen (fun β v hv => by simp only [SV.den, Option.map_eq_some_iff] at hv; obtain ⟨p, h1, h2⟩ := hv; exact ⟨_, h2.symm⟩) h
    · exact gen (fun β v hv => by simp only [SV.den, Option.map_eq_some_iff] at hv; obtain ⟨p, h1, h2⟩ := hv; exact ⟨_, h2.symm⟩) h
    · exact gen (fun β v hv => by simp only [SV.den, Option.some.injEq] at hv; exact ⟨_, hv.symm⟩) h
    · exact h.elim
  | binOp op t x y u =>
    simp only [sxOp, hop, o_binOp] at h
    replace h := oB_some h; obtain ⟨a', ha, h⟩ := h
    replace h := oB_some h; obtain ⟨b', hb, h⟩ := h
    obtain ⟨r, hr', hres⟩ := sxBin_ok (E := E) ht h x y
    refine post_val hr' hl hd fun σ β a w hag hr => ?_
    have e1 := ev_ok hag hr (by rw [hop]; simp [Op.operands]) ha
    have e2 := ev_ok hag hr (by rw [hop]; simp [Op.operands]) hb
    obtain ⟨v, h1, h2⟩ := hres β _ _ w e1 e2
    exact ⟨v, execv (by simp only [execOp, hop]) h1, h2⟩
  | unOp op t x =>
    simp only [sxOp, hop, o_unOp] at h
    replace h := oB_some h; obtain ⟨y, hy, h⟩ := h
    split at h
    · replace h := oB_some h; obtain ⟨⟨kk, n⟩, hk, h⟩ := h
      obtain ⟨rr, h, hrr⟩ := nmd_ok h
      refine post_val h hl hd fun σ β a w hag hr => ⟨_, ?_, hrr β⟩
      have e1 := ev_ok hag hr (by rw [hop]; simp [Op.operands]) hy
      rw [asI_den hk] at e1
      injection e1 with e1
      refine execv (x := Op.unary .neg (a.eval x)) (by simp only [execOp, hop]) ?_
      rw [← e1]; rfl
    · replace h := oB_some h; obtain ⟨b, hk, h⟩ := h
      refine post_val h hl hd fun σ β a w hag hr => ⟨_, ?_, mkB_den β⟩
      have e1 := ev_ok hag hr (by rw [hop]; simp [Op.operands]) hy
      rw [asB_den hk] at e1
      injection e1 with e1
      refine execv (x := Op.unary .not (a.eval x)) (by simp only [execOp, hop]) ?_
      rw [← e1]; rfl
    · exact h.elim
  | convert src dst x =>
    simp only [sxOp, hop, o_convert] at h
    replace h := oB_some h; obtain ⟨y, hy, h⟩ := h
    replace h := oB_some h; obtain ⟨i0, hi0, h⟩ := h
    replace h := oB_some h; obtain ⟨i, hi, h⟩ := h
    obtain ⟨_, _, d0, _, _, _, _, _, hu0, _⟩ := (tinf_ok ht hi0).parts
    obtain ⟨_, _, d, _, _, _, _, _, hu, hdk⟩ := (tinf_ok ht hi).parts
    split at h
    · rename_i kk hk
      rw [hk] at hdk
      obtain rfl := kindOf_int hdk
      have run : ∀ (kx : IntKind) (n : Int) (w : World), (convert src dst (.int kx n)).run E.P w = .ok (.int kk (kk.wrap n)) w := by
        intro kx n w
        simp only [convert, Sem.run_bind, run_underlying' w hu0, run_underlying' w hu, Result.andThen_ok]
        rfl
      split at h
      · rename_i kx n
        refine post_val h hl hd fun σ β a w hag hr => ⟨.int kk (kk.wrap n), ?_, rfl⟩
        have e1 := ev_ok hag hr (by rw [hop]; simp [Op.operands]) hy
        simp only [SV.den, Option.some.injEq] at e1
        refine execv (x := convert src dst (a.eval x)) (by simp only [execOp, hop]) ?_
        rw [← e1]; exact run kx n w
      · replace h := oB_some h; obtain ⟨⟨kx, n⟩, hkx, h⟩ := h
        obtain ⟨rr, h, hrr⟩ := nmd_ok h
        refine post_val h hl hd fun σ β a w hag hr => ⟨.int kk (kk.wrap n), ?_, hrr β⟩
        have e1 := ev_ok hag hr (by rw [hop]; simp [Op.operands]) hy
        rw [asI_den hkx] at e1
        injection e1 with e1
        refine execv (x := convert src dst (a.eval x)) (by simp only [execOp, hop]) ?_
        rw [← e1]; exact run kx n w
    · exact h.elim
  | fieldAddr t x f =>
    simp only [sel_eq, sxOp, hop, o_fieldAddr] at h
    replace h := oB_some h; obtain ⟨y, hy, h⟩ := h
    replace h := oB_some h; obtain ⟨i, hi, h⟩ := h
    replace h := oB_some h; obtain ⟨⟨ft, off⟩, hf, h⟩ := h
    obtain ⟨_, _, d, _, _, _, _, _, hu, hdk⟩ := (tinf_ok ht hi).parts
    obtain ⟨fs, fld, rfl, h2, rfl, h4⟩ := fieldOf_ok ht hf hdk
    rcases cond_pq h with ⟨_, h⟩ | ⟨hz, h⟩
    · exact h.elim
    · have hz' : ft.size ≠ 0 := fun e => by rw [e] at hz; simp at hz
      have gen : ∀ {o' : Nat} {r : SV}, (∀ β v, y.den β = some v → ∃ b, v = .pointer (some ⟨b, o', none⟩) ∧ r.den β = some (.pointer (some ⟨b, o' + fld.offset, none⟩))) → k (s.put o r) [] [] → PostR E ops o s k := by
        intro o' r hden hk
        refine post_val hk hl hd fun σ β a w hag hr => ?_
        have e1 := ev_ok hag hr (by rw [hop]; simp [Op.operands]) hy
        obtain ⟨b, hb1, hb2⟩ := hden β _ e1
        refine ⟨_, ?_, hb2⟩
        refine execv (x := Instr.fieldAt t (a.eval x) f) (by simp only [execOp, hop]) ?_
        rw [hb1]
        simp only [Instr.fieldAt, Sem.run_bind, run_underlying' w hu, Result.andThen_ok, h2, Instr.sureAddr, Sem.run_pure, fieldPlace_ok h4 hz']
      split at h
      · exact gen (fun β v hv => by simp only [SV.den, Option.map_eq_some_iff] at hv ⊢; obtain ⟨p, h1, h2⟩ := hv; exact ⟨p.p, h2.symm, p, h1, rfl⟩) h
      · exact gen (fun β v hv => by simp only [SV.den, Option.map_eq_some_iff] at hv ⊢; obtain ⟨p, h1, h2⟩ := hv; exact ⟨p.p, h2.symm, p, h1, rfl⟩) h
      · exact gen (fun β v hv => by simp only [SV.den, Option.some.injEq] at hv ⊢; exact ⟨_, hv.symm, rfl⟩) h
      · exact h.elim
  | field t x f =>
    simp only [sxOp, hop, o_field] at h
    replace h := oB_some h; obtain ⟨y, hy, h⟩ := h
    replace h := oB_some h; obtain ⟨i, hi, h⟩ := h
    replace h := oB_some h; obtain ⟨⟨ft, off⟩, hf, h⟩ := h
    replace h := oB_some h; obtain ⟨l, hl', h⟩ := h
    replace h := oB_some h; obtain ⟨r, hr', h⟩ := h
    obtain ⟨_, _, d, _, _, _, _, _, hu, hdk⟩ := (tinf_ok ht hi).parts
    obtain ⟨fs, fld, rfl, h2, rfl, h4⟩ := fieldOf_ok ht hf hdk
    refine post_val h hl hd fun σ β a w hag hr => ?_
    have e1 := ev_ok hag hr (by rw [hop]; simp [Op.operands]) hy
    obtain ⟨vs, e2, e3⟩ := aggOf_den hl' e1
    obtain ⟨v, e4, e5⟩ := run_part' (P := E.P) (w := w) (vs := vs.toArray) h4 (by simpa using e3) hr'
    refine ⟨v, ?_, e5⟩
    refine execv (x := Instr.field t (a.eval x) f) (by simp only [execOp, hop]) ?_
    rw [e2]
    simp only [Instr.field, Sem.run_bind, run_underlying' w hu, Result.andThen_ok, h2, asAgg, Sem.run_pure, e4]
  | indexAddr t x ix =>
    simp only [sel_eq, sxOp, hop, o_indexAddr] at h
    replace h := oB_some h; obtain ⟨y, hy, h⟩ := h
    replace h := oB_some h; obtain ⟨iv, hiv, h⟩ := h
    replace h := oB_some h; obtain ⟨i, hi, h⟩ := h
    replace h := oB_some h; obtain ⟨⟨kk, n⟩, hn, h⟩ := h
    obtain ⟨_, _, d, _, _, _, _, _, hu, hdk⟩ := (tinf_ok ht hi).parts
    split at h
    · rename_i len e hk
      rw [hk] at hdk
      obtain rfl := kindOf_arr hdk
      replace h := oB_some h; obtain ⟨et, het, h⟩ := h
      have gen : ∀ {o' : Nat} {r : SV}, (0 ≤ n ∧ n < (len : Int)) → (∀ β v, y.den β = some v → ∃ b, v = .pointer (some ⟨b, o', none⟩) ∧ r.den β = some (.pointer (some ⟨b, o' + n.toNat * et.size, none⟩))) → k (s.put o r) [] [] → PostR E ops o s k := by
        intro o' r hb hden hk
        refine post_val hk hl hd fun σ β a w hag hr => ?_
        have e1 := ev_ok hag hr (by rw [hop]; simp [Op.operands]) hy
        have e2 := ev_ok hag hr (by rw [hop]; simp [Op.operands]) hiv
        rw [asI_den hn] at e2
        injection e2 with e2
        obtain ⟨b, hb1, hb2⟩ := hden β _ e1
        refine ⟨_, ?_, hb2⟩
        refine execv (x := Instr.indexAt t (a.eval x) (a.eval ix)) (by simp only [execOp, hop]) ?_
        rw [hb1, ← e2]
        simp only [Instr.indexAt, asIntOf, Sem.run_bind, run_underlying' w hu, Result.andThen_ok, Instr.sureAddr, Sem.run_pure]
        rw [if_pos hb]
        simp only [Sem.run_bind, run_sizeOf' w (tinf_ok ht het), Result.andThen_ok, Sem.run_pure, Addr.add_eq]
      split at h
      · rename_i id o' kx m
        simp only [asI, Option.some.injEq, Prod.mk.injEq] at hn
        obtain ⟨rfl, rfl⟩ := hn
        rcases cond_pq h with ⟨hc, h⟩ | ⟨_, h⟩
        · simp only [Bool.and_eq_true, decide_eq_true_eq] at hc
          exact gen hc (fun β v hv => by simp only [SV.den, Option.map_eq_some_iff] at hv ⊢; obtain ⟨p, h1, h2⟩ := hv; exact ⟨p.p, h2.symm, p, h1, rfl⟩) h
        · exact h.elim
      · exact gen h.1.out (fun β v hv => by simp only [SV.den, Option.map_eq_some_iff] at hv ⊢; obtain ⟨p, h1, h2⟩ := hv; exact ⟨p.p, h2.symm, p, h1, rfl⟩) h.2
      · exact gen h.1.out (fun β v hv => by simp only [SV.den, Option.map_eq_some_iff] at hv ⊢; obtain ⟨p, h1, h2⟩ := hv; exact ⟨p.p, h2.symm, p, h1, rfl⟩) h.2
      · exact h.elim
    · rename_i e hk
      rw [hk] at hdk
      obtain rfl := kindOf_slice hdk
      replace h := oB_some h; obtain ⟨et, het, h⟩ := h
      have gen : ∀ {o' len cap : Nat} {r : SV}, (0 ≤ n ∧ n < (len : Int)) → (∀ β v, y.den β = some v → ∃ b, v = .slice (some ⟨b, o', none⟩) len cap ∧ r.den β = some (.pointer (some ⟨b, o' + n.toNat * et.size, none⟩))) → k (s.put o r) [] [] → PostR E ops o s k := by
        intro o' len cap r hb hden hk
        refine post_val hk hl hd fun σ β a w hag hr => ?_
        have e1 := ev_ok hag hr (by rw [hop]; simp [Op.operands]) hy
        have e2 := ev_ok hag hr (by rw [hop]; simp [Op.operands]) hiv
        rw [asI_den hn] at e2
        injection e2 with e2
        obtain ⟨b, hb1, hb2⟩ := hden β _ e1
        refine ⟨_, ?_, hb2⟩
        refine execv (x := Instr.indexAt t (a.eval x) (a.eval ix)) (by simp only [execOp, hop]) ?_
        rw [hb1, ← e2]
        simp only [Instr.indexAt, asIntOf, Sem.run_bind, run_underlying' w hu, Result.andThen_ok, Instr.sureAddr, Sem.run_pure]
        rw [if_pos hb]
        simp only [Sem.run_bind, run_sizeOf' w (tinf_ok ht het), Result.andThen_ok, Sem.run_pure, Addr.add_eq]
      split at h
      · exact gen h.1.out (fun β v hv => by simp only [SV.den, Option.map_eq_some_iff] at hv ⊢; obtain ⟨p, h1, h2⟩ := hv; exact ⟨p.p, h2.symm, p, h1, rfl⟩) h.2
      · exact gen h.1.out (fun β v hv => by simp only [SV.den, Option.some.injEq] at hv ⊢; exact ⟨_, hv.symm, rfl⟩) h.2
      · exact h.elim
    · exact h.elim
  | index t x ix =>
    simp only [sel_eq, sxOp, hop, o_index] at h
    replace h := oB_some h; obtain ⟨y, hy, h⟩ := h
    replace h := oB_some h; obtain ⟨iv, hiv, h⟩ := h
    replace h := oB_some h; obtain ⟨i, hi, h⟩ := h
    replace h := oB_some h; obtain ⟨⟨kk, n⟩, hn, h⟩ := h
    obtain ⟨_, _, d, _, _, _, _, _, hu, hdk⟩ := (tinf_ok ht hi).parts
    split at h
    · rename_i len e hk
      rw [hk] at hdk
      obtain rfl := kindOf_arr hdk
      replace h := oB_some h; obtain ⟨et, het, h⟩ := h
      replace h := oB_some h; obtain ⟨l, hl', h⟩ := h
      have gen : ∀ {r : SV}, (0 ≤ n ∧ n < (len : Int)) → partOf et l (n.toNat * et.size) = some r → k (s.put o r) [] [] → PostR E ops o s k := by
        intro r hb hp hk
        refine post_val hk hl hd fun σ β a w hag hr => ?_
        have e1 := ev_ok hag hr (by rw [hop]; simp [Op.operands]) hy
        have e2 := ev_ok hag hr (by rw [hop]; simp [Op.operands]) hiv
        rw [asI_den hn] at e2
        injection e2 with e2
        obtain ⟨vs, e3, e4⟩ := aggOf_den hl' e1
        obtain ⟨v, e5, e6⟩ := run_part' (P := E.P) (w := w) (vs := vs.toArray) (tinf_ok ht het) (by simpa using e4) hp
        refine ⟨v, ?_, e6⟩
        refine execv (x := Instr.index t (a.eval x) (a.eval ix)) (by simp only [execOp, hop]) ?_
        rw [e3, ← e2]
        simp only [Instr.index, asIntOf, Sem.run_bind, run_underlying' w hu, Result.andThen_ok, Sem.run_pure]
        rw [if_pos hb]
        simp only [Sem.run_bind, run_sizeOf' w (tinf_ok ht het), Result.andThen_ok, e5]
      split at h
      · simp only [asI, Option.some.injEq, Prod.mk.injEq] at hn
        obtain ⟨rfl, rfl⟩ := hn
        rcases cond_pq h with ⟨hc, h⟩ | ⟨_, h⟩
        · simp only [Bool.and_eq_true, decide_eq_true_eq] at hc
          replace h := oB_some h; obtain ⟨r, hr', h⟩ := h
          exact gen hc hr' h
        · exact h.elim
      · obtain ⟨⟨hb⟩, r, hr', h⟩ := h
        exact gen hb hr' h
    · rename_i hk
      rw [hk] at hdk
      obtain rfl := kindOf_str hdk
      split at h
      · rename_i b
        obtain ⟨⟨hb⟩, h⟩ := h
        refine post_val h hl hd fun σ β a w hag hr => ⟨.int .u8 ((std nm).byte b n.toNat), ?_, rfl⟩
        have e1 := ev_ok hag hr (by rw [hop]; simp [Op.operands]) hy
        have e2 := ev_ok hag hr (by rw [hop]; simp [Op.operands]) hiv
        rw [asI_den hn] at e2
        injection e2 with e2
        simp only [SV.den, Option.some.injEq] at e1
        refine execv (x := Instr.index t (a.eval x) (a.eval ix)) (by simp only [execOp, hop]) ?_
        rw [← e1, ← e2]
        have hlt : n.toNat < b.size := by omega
        have hg : b[n.toNat]? = some b[n.toNat] := by simp [hlt]
        have hg2 : b.get! n.toNat = b[n.toNat] := by
          show b.data[n.toNat]! = b.data[n.toNat]
          exact getElem!_pos b.data n.toNat hlt
        simp only [Instr.index, asIntOf, Sem.run_bind, run_underlying' w hu, Result.andThen_ok, Sem.run_pure, if_pos hb.1, hg, std, hg2]
      · exact h.elim
    · exact h.elim
  | extract x ix =>
    simp only [sxOp, hop, o_extract] at h
    replace h := oB_some h; obtain ⟨y, hy, h⟩ := h
    split at h
    · rename_i l
      replace h := oB_some h; obtain ⟨r, hr', h⟩ := h
      refine post_val h hl hd fun σ β a w hag hr => ?_
      have e1 := ev_ok hag hr (by rw [hop]; simp [Op.operands]) hy
      simp only [SV.den, Option.map_eq_some_iff] at e1
      obtain ⟨vs, e2, e3⟩ := e1
      obtain ⟨v, e4, e5⟩ := denL_nth e2 hr'
      refine ⟨v, ?_, e5⟩
      refine execv (x := Instr.extract (a.eval x) ix) (by simp only [execOp, hop]) ?_
      rw [← e3]
      have : vs.toArray[ix]? = some v := by simpa using e4
      simp only [Instr.extract, this, Sem.run_pure]
    · exact h.elim
  | call c =>
    simp only [sxOp, hop, o_call] at h
    split at h
    · rename_i f hc
      replace h := oB_some h; obtain ⟨l, hle, h⟩ := h
      obtain ⟨r, hcall, h⟩ := h
      exact post_callV hop hc hle hcall h hl hd
    · rename_i hc
      split at h
      · rename_i x u us hx hu
        replace h := oB_some h; obtain ⟨y, hy, h⟩ := h
        replace h := oB_some h; obtain ⟨i, hi, h⟩ := h
        obtain ⟨_, _, d, _, _, _, _, _, hu', hdk⟩ := (tinf_ok ht hi).parts
        have hm : x ∈ o.op.operands.toList := by rw [hop]; simp only [Op.operands, Call.operands, hc]; simp [hx]
        have gen : ∀ {n : Nat}, (∀ β v w, y.den β = some v → (Builtin.len_ c.argTypes o.type #[v]).run E.P w = .ok (.int .i64 (n : Int)) w) → k (s.put o (.v (.int .i64 (n : Int)))) [] [] → PostR E ops o s k := by
          intro n hden hk
          refine post_val hk hl hd fun σ β a w hag hr => ⟨_, ?_, rfl⟩
          have e1 := ev_ok hag hr hm hy
          have ha : c.args.map a.eval = #[a.eval x] := by apply Array.ext'; simp [hx]
          simp only [execOp, hop, resolve, hc, Sem.run_bind, Sem.run_pure, Result.andThen_ok, invoke, builtin, ha, hden β _ w e1]
        have hat : c.argTypes[0]? = some u := by rw [← Array.getElem?_toList, hu]; rfl
        split at h
        · rename_i id off len cap hk
          rw [hk] at hdk
          obtain rfl := kindOf_slice hdk
          refine gen (fun β v w hv => ?_) h
          simp only [SV.den, Option.map_eq_some_iff] at hv
          obtain ⟨p, _, rfl⟩ := hv
          simp [Builtin.len_, hat, run_underlying' w hu', goInt]
        · rename_i a' len cap hk
          rw [hk] at hdk
          obtain rfl := kindOf_slice hdk
          refine gen (fun β v w hv => ?_) h
          simp only [SV.den, Option.some.injEq] at hv
          subst hv
          simp [Builtin.len_, hat, run_underlying' w hu', goInt]
        · rename_i b hk
          rw [hk] at hdk
          obtain rfl := kindOf_str hdk
          refine gen (fun β v w hv => ?_) h
          simp only [SV.den, Option.some.injEq] at hv
          subst hv
          simp [Builtin.len_, hat, run_underlying' w hu', goInt]
        · exact h.elim
      · exact h.elim
    · exact h.elim
  | _ => simp only [sxOp, hop] at h

end

end

variable {nm : Md}
noncomputable section

def Rof (ops : Array Oper) (o : Oper) (s : St) (r : List Nat) : List (Key × Option Dn) :=
  (o.looksAt ops).map (fun t => (Key.tmp t, s.sg (.tmp t))) ++ r.map fun id => (Key.blk id, s.sg (.blk id))

/-- What one step of a region shows. -/
def PostS (E : Env) (ops : Array Oper) (j : Nat) (o : Oper) (s : St) (k : St → List Nat → List Nat → Prop) : Prop :=
  ∃ s' r u W, k s' r u ∧ s'.sg = upd s.sg W ∧ (∀ n, Sz n s → Sz n s') ∧
    (∀ key d, look W key = some d → (∃ t, key = .tmp t ∧ o.dst = some t) ∨ ∃ id, key = .blk id ∧ id ∈ u) ∧ (∀ id ∈ u, id ∈ r) ∧ EvOk E ops j (Rof ops o s r) W

section
variable {E : Env} {ops : Array Oper} {o : Oper} {s : St} {k : St → List Nat → List Nat → Prop} {tt : TT} {base j : Nat}

theorem agree_of {r : List Nat} {σ : Sg} (h : ∀ p ∈ Rof ops o s r, σ p.1 = p.2) : Agree ops o s r σ :=
  ⟨fun t ht => h (.tmp t, _) (List.mem_append_left _ (List.mem_map.2 ⟨t, ht, rfl⟩)), fun id hid => h (.blk id, _) (List.mem_append_right _ (List.mem_map.2 ⟨id, hid, rfl⟩))⟩

theorem postS_of (h : PostR E ops o s k) (ho : ops[j]? = some o)
    (hw : ∀ σ β a w r, Agree ops o s r σ → Rl E σ β a w → Region.wanted o (yielded ops a.tmps) = true) : PostS E ops j o s k := by
  obtain ⟨s', r, u, W, h1, h2, h3, h4, h5, h6⟩ := h
  refine ⟨s', r, u, W, h1, h2, h3, h4, h5, ?_⟩
  intro Q K σ β a w hR hr hK
  have hag := agree_of hR
  unfold wpOp
  rw [ho]
  simp only [hw σ β a w r hag hr, if_true]
  exact .inl (h6 Q K σ β a w hag hr hK)

theorem postS_skip (hk : k (s.put o (.v undef)) [] []) (hl : Sz E.nt s) (hd : ∀ t, o.dst = some t → t < E.nt) (ho : ops[j]? = some o)
    (hw : ∀ σ β a w, Agree ops o s [] σ → Rl E σ β a w → Region.wanted o (yielded ops a.tmps) = false) : PostS E ops j o s k := by
  refine ⟨_, [], [], putW o.dst (.v undef), hk, sg_put (fun t ht => (hl t).2 (hd t ht)), len_put, ?_, by simp, ?_⟩
  · intro key d h
    obtain ⟨t, h1, h2⟩ := look_putW h
    exact .inl ⟨t, h1, h2⟩
  · intro Q K σ β a w hR hr hK
    have hag := agree_of hR
    unfold wpOp
    rw [ho]
    simp only [hw σ β a w hag hr, Bool.false_eq_true, if_false]
    exact hK β _ w (hr.put rfl hd)

theorem yield_of {r : List Nat} {σ : Sg} {β : Ren} {a : Act} {w : World} {g t : Nat} {want : Bool} {x : SV} (hg : o.guard = some (g, want)) (ht : (ops[g]?).bind (·.dst) = some t) (hx : s.tmps.get t = some x) (hun : x.isUn = false)
    (hag : Agree ops o s r σ) (hr : Rl E σ β a w) : ∃ v, x.den β = some v ∧ yielded ops a.tmps g = match v with | .bool b => some b | _ => none := by
  have hm : t ∈ o.looksAt ops := by
    unfold Oper.looksAt
    refine List.mem_append_right _ ?_
    rw [hg]; simp only [ht]; simp
  have hs : σ (.tmp t) = some (.val x) := by rw [hag.1 t hm]; simp [St.sg, hx]
  obtain ⟨h1, h2⟩ := hr.tmp t x hs
  refine ⟨_, h2 hun, ?_⟩
  unfold yielded
  rw [ht]
  have : a.tmps[t]? = some (a.tmps.getD t undef) := by
    have hlt : t < a.tmps.size := by rw [hr.size]; exact h1
    simp [Array.getD, hlt]
  simp only [Option.bind_some, this]
  cases a.tmps.getD t undef <;> rfl

theorem step_ok (ht : TTok E.P tt) {all : List Oper} (hall : ops.toList = all) (hl : Sz E.nt s) (ho : ops[j]? = some o) (hd : ∀ t, o.dst = some t → t < E.nt)
    (h : match o.guard with
    | none => sxOp (std nm) E tt base j o s k
    | some (g, want) => oB ((nth all g).bind (·.dst)) fun t => oB (s.tmps.get t) fun x => match x with
      | .bl b => cond (b == want) (sxOp (std nm) E tt base j o s k) (k (s.put o (.v undef)) [] [])
      | .v (.bool e) => (e = want → sxOp (std nm) E tt base j o s k) ∧ (e = !want → k (s.put o (.v undef)) [] [])
      | .v (.tuple _) => k (s.put o (.v undef)) [] []
      | _ => False) : PostS E ops j o s k := by
  cases hg : o.guard with
  | none =>
    rw [hg] at h
    exact postS_of (s_small ht hl hd h) ho (fun σ β a w r _ _ => by simp [Region.wanted, hg])
  | some gw =>
    obtain ⟨g, want⟩ := gw
    rw [hg] at h
    simp only at h
    replace h := oB_some h; obtain ⟨t, hdst, h⟩ := h
    replace h := oB_some h; obtain ⟨x, hx, h⟩ := h
    have hdst' : (ops[g]?).bind (·.dst) = some t := by rw [← hdst, nth_eq, ← hall]; simp
    have yes : x.isUn = false → ∀ b : Bool, (∀ β, x.den β = some (.bool b)) → b = want → sxOp (std nm) E tt base j o s k → PostS E ops j o s k := by
      intro hun b hden hbw hk
      refine postS_of (s_small ht hl hd hk) ho (fun σ β a w r hag hr => ?_)
      obtain ⟨v, h1, h2⟩ := yield_of hg hdst' hx hun hag hr
      rw [hden β] at h1
      injection h1 with h1
      subst h1
      simp [Region.wanted, hg, h2, hbw]
    have no : x.isUn = false → (∀ β, ∃ v, x.den β = some v ∧ v ≠ .bool want) → k (s.put o (.v undef)) [] [] → PostS E ops j o s k := by
      intro hun hden hk
      refine postS_skip hk hl hd ho (fun σ β a w hag hr => ?_)
      obtain ⟨v, h1, h2⟩ := yield_of hg hdst' hx hun hag hr
      obtain ⟨v', h3, h4⟩ := hden β
      rw [h3] at h1
      injection h1 with h1
      subst h1
      simp only [Region.wanted, hg, h2]
      cases v' <;> simp
      rename_i b
      cases b <;> cases want <;> simp_all
    split at h
    · rename_i b
      rcases cond_pq h with ⟨hb, h⟩ | ⟨hb, h⟩
      · exact yes rfl b (fun β => rfl) (by simpa using hb) h
      · exact no rfl (fun β => ⟨.bool b, rfl, by simpa using hb⟩) h
    · rename_i e
      by_cases he : e = want
      · exact yes rfl e (fun β => rfl) he (h.1 he)
      · exact no rfl (fun β => ⟨.bool e, rfl, by simpa using he⟩) (h.2 (by cases e <;> cases want <;> simp_all))
    · exact no rfl (fun β => ⟨_, rfl, by simp⟩) h
    · exact h.elim

end

structure Rec where
  r : List Nat
  u : List Nat
  W : List (Key × Dn)
  s : St

/-- A row of steps. -/
def Chn (E : Env) (ops : Array Oper) : Nat → St → List Rec → St → Prop
  | _, s, [], s' => s = s'
  | j, s, x :: l, s' => ∃ o s1, ops[j]? = some o ∧ x.s = s ∧ EvOk E ops j (Rof ops o s x.r) x.W ∧ s1.sg = upd s.sg x.W ∧ (∀ n, Sz n s → Sz n s1) ∧
      (∀ key d, look x.W key = some d → (∃ t, key = .tmp t ∧ o.dst = some t) ∨ ∃ id, key = .blk id ∧ id ∈ x.u) ∧ (∀ id ∈ x.u, id ∈ x.r) ∧ Chn E ops (j + 1) s1 l s'

def Fits (B : List Nat) (j : Nat) (r u : List Nat) (i : Nat) (ri ui : List Nat) : Prop :=
  ((nth B j).getD 0).testBit i = true ∨ ((∀ x ∈ ui, x ∉ r) ∧ ∀ x ∈ u, x ∉ ri)

theorem disj_ok : ∀ {l m : List Nat}, disj l m = true → ∀ x ∈ l, x ∉ m
  | [], _, _, x, hx => by cases hx
  | y :: l, m, h, x, hx => by
    simp only [disj, Bool.and_eq_true, Bool.not_eq_true', List.any_eq_false] at h
    rcases List.mem_cons.1 hx with rfl | hx
    · intro hm
      have := h.1 x hm
      simp at this
    · exact disj_ok h.2 x hx

theorem goes_ok {m : Nat} {r u : List Nat} : ∀ {T : List (Nat × List Nat × List Nat)}, goes m r u T = true → ∀ i ri ui, (i, ri, ui) ∈ T → m.testBit i = true ∨ ((∀ x ∈ ui, x ∉ r) ∧ ∀ x ∈ u, x ∉ ri)
  | [], _, _, _, _, h => by cases h
  | (i, ri, ui) :: T, h, i', ri', ui', hm => by
    simp only [goes, Bool.and_eq_true, Bool.or_eq_true] at h
    rcases List.mem_cons.1 hm with e | hm
    · injection e with e1 e2
      injection e2 with e2 e3
      subst e1; subst e2; subst e3
      rcases h.1 with h | ⟨h1, h2⟩
      · exact .inl h
      · exact .inr ⟨disj_ok h1, disj_ok h2⟩
    · exact goes_ok h.2 i' ri' ui' hm

/-- The order of the text. -/
theorem chn_ops {E : Env} {ops : Array Oper} {Q : Exit → Act → World → Prop} : ∀ (recs : List Rec) (j : Nat) (s s' : St), Chn E ops j s recs s' → (∀ β a w, Rl E s'.sg β a w → Q .normal a w) →
    ∀ β a w, Rl E s.sg β a w → wpOps E.P ops Q (List.range' j recs.length) a w
  | [], j, s, s', h, hQ, β, a, w, hr => by obtain rfl : s = s' := h; simpa [wpOps] using hQ β a w hr
  | x :: recs, j, s, s', h, hQ, β, a, w, hr => by
    obtain ⟨o, s1, ho, hs, hev, hsg, hlen, hkeys, hur, hrest⟩ := h
    simp only [List.length_cons, List.range'_succ]
    rw [wpOps_cons]
    refine hev Q _ s.sg β a w ?_ hr ?_
    · intro p hp
      unfold Rof at hp
      rcases List.mem_append.1 hp with hp | hp <;> (obtain ⟨t, _, rfl⟩ := List.mem_map.1 hp; rfl)
    · intro β' a' w' hr'
      rw [← hsg] at hr'
      exact chn_ops recs (j + 1) s1 s' hrest hQ β' a' w' hr'

end

variable {nm : Md}
noncomputable section

theorem mask1_ok (acc : List Nat) : ∀ (es : List Edge) (m i : Nat), (mask1 acc es m).testBit i = true → m.testBit i = true ∨ ∃ e ∈ es, Region.binds .any e = true ∧ (e.on = i ∨ ((nth acc e.on).getD 0).testBit i = true)
  | [], m, i, h => .inl h
  | e :: es, m, i, h => by
    simp only [mask1] at h
    rcases mask1_ok acc es _ i h with h | ⟨e', he', hb, hx⟩
    · cases hb : Region.binds .any e with
      | false => rw [hb] at h; exact .inl h
      | true =>
        rw [hb] at h
        simp only [cond_true, Nat.testBit_or, Bool.or_eq_true, Nat.testBit_two_pow, decide_eq_true_eq] at h
        rcases h with (h | h) | h
        · exact .inl h
        · exact .inr ⟨e, List.mem_cons_self, hb, .inl h⟩
        · exact .inr ⟨e, List.mem_cons_self, hb, .inr h⟩
    · exact .inr ⟨e', List.mem_cons_of_mem _ he', hb, hx⟩

theorem masks_ok {ops : Array Oper} : ∀ (l : List Oper) (acc : List Nat), ops.toList.drop acc.length = l → (∀ j i, ((nth acc j).getD 0).testBit i = true → Bef ops j i) →
    ∀ j i, ((nth (masks acc l) j).getD 0).testBit i = true → Bef ops j i
  | [], acc, _, h => by simpa [masks] using h
  | o :: l, acc, hd, h => by
    simp only [masks]
    have ho : ops[acc.length]? = some o := by
      have h0 : (ops.toList.drop acc.length)[0]? = some o := by rw [hd]; rfl
      simpa using h0
    refine masks_ok l _ (by simp only [List.length_append, List.length_cons, List.length_nil]; rw [← List.drop_drop, hd]; rfl) ?_
    intro j i hb
    rw [nth_eq] at hb
    by_cases hj : j < acc.length
    · rw [List.getElem?_append_left hj, ← nth_eq] at hb
      exact h j i hb
    · by_cases hj2 : j = acc.length
      · subst hj2
        simp only [List.getElem?_append_right (Nat.le_refl _), Nat.sub_self, List.getElem?_cons_zero, Option.getD_some] at hb
        rcases mask1_ok acc _ 0 i hb with h0 | ⟨e, he, hbi, hx⟩
        · simp at h0
        · rcases hx with hx | hx
          · exact .edge ho he hbi hx
          · exact .step ho he hbi (h _ _ hx)
      · rw [List.getElem?_eq_none (by simp; omega)] at hb
        simp at hb

def dstOk (nt : Nat) (ops : List Oper) : Bool := ops.all fun o => match o.dst with | some d => Nat.blt d nt | none => true
def lowOk : Nat → List Oper → Bool
  | _, [] => true
  | j, o :: l => (o.after.toList.all fun e => !(Region.binds .any e) || Nat.blt e.on j) && lowOk (j + 1) l
def pairsOk (ops : Array Oper) (B : List Nat) : Bool :=
  (List.range ops.size).all fun j => (List.range j).all fun i => ((nth B j).getD 0).testBit i || (match ops[i]?, ops[j]? with | some x, some y => x.apart ops y | _, _ => true)
def regOk (nt : Nat) (ops : Array Oper) (draw : Bool) : Bool := dstOk nt ops.toList && (!draw || (lowOk 0 ops.toList && pairsOk ops (masks [] ops.toList)))
def codeOk (nt : Nat) : Code → Bool
  | .region _ ops draw => regOk nt ops draw
  | .seq a b => codeOk nt a && codeOk nt b
  | .cond _ a b => codeOk nt a && codeOk nt b
  | .block _ a => codeOk nt a
  | .loop a => codeOk nt a
  | _ => true

theorem lowOk_ok {ops : Array Oper} : ∀ (l : List Oper) (j : Nat), ops.toList.drop j = l → lowOk j l = true → ∀ i o, j ≤ i → ops[i]? = some o → ∀ e ∈ o.after.toList, Region.binds .any e = true → e.on < i
  | [], j, hd, _, i, o, hji, ho, e, he, hb => by
    have h0 : (ops.toList.drop j)[i - j]? = some o := by rw [List.getElem?_drop]; rw [show j + (i - j) = i by omega]; simpa using ho
    rw [hd] at h0; cases h0
  | o' :: l, j, hd, h, i, o, hji, ho, e, he, hb => by
    simp only [lowOk, Bool.and_eq_true] at h
    by_cases hij : i = j
    · subst hij
      have h0 : (ops.toList.drop i)[0]? = some o := by rw [List.getElem?_drop]; simpa using ho
      rw [hd] at h0
      simp only [List.getElem?_cons_zero, Option.some.injEq] at h0
      subst h0
      have := List.all_eq_true.1 h.1 e he
      simp only [hb, Bool.not_true, Bool.false_or] at this
      simpa [Nat.blt_eq] using this
    · exact lowOk_ok l (j + 1) (by rw [← List.drop_drop, hd]; rfl) h.2 i o (by omega) ho e he hb

theorem chn_get {E : Env} {ops : Array Oper} : ∀ (recs : List Rec) (j : Nat) (s s' : St), Chn E ops j s recs s' →
    ∀ i x, recs[i]? = some x → ∃ o, ops[j + i]? = some o ∧ EvOk E ops (j + i) (Rof ops o x.s x.r) x.W ∧
      (∀ key d, look x.W key = some d → (∃ t, key = .tmp t ∧ o.dst = some t) ∨ ∃ id, key = .blk id ∧ id ∈ x.u) ∧ (∀ id ∈ x.u, id ∈ x.r)
  | [], _, _, _, _, i, x, hx => by simp at hx
  | y :: recs, j, s, s', h, i, x, hx => by
    obtain ⟨o, s1, ho, hs, hev, hsg, hlen, hkeys, hur, hrest⟩ := h
    cases i with
    | zero =>
      simp only [List.getElem?_cons_zero, Option.some.injEq] at hx
      subst hx
      exact ⟨o, ho, by rw [hs]; exact hev, hkeys, hur⟩
    | succ i =>
      simp only [List.getElem?_cons_succ] at hx
      have := chn_get recs (j + 1) s1 s' hrest i x hx
      rwa [show j + 1 + i = j + (i + 1) by omega] at this

theorem chn_sig {E : Env} {ops : Array Oper} {W : Nat → List (Key × Dn)} {σ0 : Sg} : ∀ (recs : List Rec) (j : Nat) (s s' : St), Chn E ops j s recs s' → (∀ i x, recs[i]? = some x → W (j + i) = x.W) →
    sig W σ0 (fun _ => true) j = s.sg → (∀ i x, recs[i]? = some x → sig W σ0 (fun _ => true) (j + i) = x.s.sg) ∧ sig W σ0 (fun _ => true) (j + recs.length) = s'.sg
  | [], j, s, s', h, _, h0 => by obtain rfl : s = s' := h; exact ⟨fun i x hx => by simp at hx, by simpa using h0⟩
  | y :: recs, j, s, s', h, hW, h0 => by
    obtain ⟨o, s1, ho, hs, hev, hsg, hlen, hkeys, hur, hrest⟩ := h
    have h1 : sig W σ0 (fun _ => true) (j + 1) = s1.sg := by
      have := hW 0 y rfl
      simp only [Nat.add_zero] at this
      simp only [sig, if_true, h0, this, hsg]
    obtain ⟨g1, g2⟩ := chn_sig recs (j + 1) s1 s' hrest (fun i x hx => by
      have := hW (i + 1) x (by simpa using hx)
      rwa [show j + (i + 1) = j + 1 + i by omega] at this) h1
    refine ⟨?_, by simp only [List.length_cons]; rw [show j + (recs.length + 1) = j + 1 + recs.length by omega]; exact g2⟩
    intro i x hx
    cases i with
    | zero => simp only [List.getElem?_cons_zero, Option.some.injEq] at hx; subst hx; rw [hs]; simpa using h0
    | succ i =>
      simp only [List.getElem?_cons_succ] at hx
      have := g1 i x hx
      rwa [show j + 1 + i = j + (i + 1) by omega] at this

end

variable {nm : Md}
noncomputable section

def sxRes (tt : TT) (s : St) : List ResultVar → Option (List SV)
  | [] => some []
  | .tmp t :: r => match known? (s.tmps.get t), sxRes tt s r with
    | some x, some l => some (x :: l)
    | _, _ => none
  | .cell a t :: r => match known? (s.tmps.get a), tinf tt t with
    | some (.ptr id off), some i => match getL s.blks id with
      | some b => match partOf i b.cells off, sxRes tt s r with
        | some x, some l => some (x :: l)
        | _, _ => none
      | none => none
    | _, _ => none
def resOf : List SV → SV
  | [x] => x
  | l => .tup l

def RetK (tt : TT) (rs : List ResultVar) (F : SV → St → Prop) : Ex → St → Prop
  | .normal, s => oB (sxRes tt s rs) fun l => F (resOf l) s
  | .ret, s => oB (sxRes tt s rs) fun l => F (resOf l) s
  | .exit _, _ => False

def resF (a : Act) : ResultVar → Sem Value
  | .tmp t => pure (a.tmps.getD t undef)
  | .cell b t => do loadVar t (← asAddr (a.tmps.getD b undef))

theorem res_list {E : Env} {tt : TT} (ht : TTok E.P tt) {s : St} {β : Ren} {a : Act} {w : World} (hr : Rl E s.sg β a w) : ∀ (rs : List ResultVar) (l : List SV), sxRes tt s rs = some l →
    ∃ vs, (rs.mapM (resF a)).run E.P w = .ok vs w ∧ denL β l = some vs
  | [], l, h => by simp only [sxRes, Option.some.injEq] at h; subst h; exact ⟨[], by simp, by simp [denL]⟩
  | .tmp t :: rs, l, h => by
    simp only [sxRes] at h
    split at h
    · rename_i x l' hx hl'
      simp only [Option.some.injEq] at h
      subst h
      obtain ⟨hx, hun⟩ := known_ok hx
      obtain ⟨vs, h1, h2⟩ := res_list ht hr rs l' hl'
      have := (hr.tmp t x (by simp [St.sg, hx])).2 hun
      refine ⟨a.tmps.getD t undef :: vs, ?_, by simp [denL, this, h2]⟩
      rw [List.mapM_cons]
      simp only [resF, Sem.run_bind, Sem.run_pure, Result.andThen_ok, h1]
    · cases h
  | .cell b t :: rs, l, h => by
    simp only [sxRes] at h
    split at h
    · rename_i id off i hb hi
      split at h
      · rename_i bk hbk
        split at h
        · rename_i x l' hx hl'
          simp only [Option.some.injEq] at h
          subst h
          obtain ⟨hb, hun⟩ := known_ok hb
          obtain ⟨vs, h1, h2⟩ := res_list ht hr rs l' hl'
          have hp := (hr.tmp b (.ptr id off) (by simp [St.sg, hb])).2 rfl
          obtain ⟨hbk, hlv⟩ := getL_some hbk
          obtain ⟨p, us, rest, g1, g2, g3, -⟩ := hr.blk id bk (by simp [St.sg, hbk]) hlv
          simp only [SV.den, g1, Option.map_some, Option.some.injEq] at hp
          obtain ⟨v, r1, r2⟩ := run_loadVar' (P := E.P) (tinf_ok ht hi) rest g3 g2 hx
          refine ⟨v :: vs, ?_, by simp [denL, r2, h2]⟩
          rw [List.mapM_cons]
          simp only [resF, Sem.run_bind, Sem.run_pure, Result.andThen_ok, ← hp, asAddr, r1, h1]
        · cases h
      · cases h
    · cases h

theorem results_ok {E : Env} {tt : TT} (ht : TTok E.P tt) {s : St} {β : Ren} {a : Act} {w : World} (hr : Rl E s.sg β a w) {fn : Func} {l : List SV} (h : sxRes tt s fn.results.toList = some l) :
    ∃ v, (results fn a.tmps).run E.P w = .ok v w ∧ (resOf l).den β = some v := by
  obtain ⟨vs, h1, h2⟩ := res_list ht hr fn.results.toList l h
  have hl := denL_length h2
  refine ⟨if h : vs.toArray.size = 1 then vs.toArray[0] else .tuple vs.toArray, ?_, ?_⟩
  · have e : results fn a.tmps = (do
        let vs ← fn.results.mapM (resF a)
        pure (if h : vs.size = 1 then vs[0] else .tuple vs)) := by
      unfold results
      congr 1
    rw [e, Array.mapM_eq_mapM_toList]
    simp only [Sem.run_bind, Sem.run_map, h1, Result.andThen_ok, Sem.run_pure]
  · match l, vs, hl, h2 with
    | [], [], _, h2 => simp [resOf, SV.den, denL]
    | [x], [v], _, h2 =>
      simp only [denL, Option.map_some, Option.bind_eq_some_iff] at h2
      obtain ⟨u, hu, e⟩ := h2
      simp only [Option.some.injEq, List.cons.injEq, and_true] at e
      subst e
      simpa [resOf] using hu
    | x :: y :: l, u :: v :: vs, _, h2 => simp [resOf, SV.den, h2]

theorem denL_append {β : Ren} : ∀ (l m : List SV) {vs us : List Value}, denL β l = some vs → denL β m = some us → denL β (l ++ m) = some (vs ++ us)
  | [], m, vs, us, h, h' => by simp [denL] at h; subst h; simpa using h'
  | x :: l, m, vs, us, h, h' => by
    simp only [denL, Option.bind_eq_some_iff, Option.map_eq_some_iff] at h
    obtain ⟨v, hv, ws, hws, rfl⟩ := h
    simp only [List.cons_append, denL, hv, Option.bind_some, denL_append l m hws h', Option.map_some]
theorem denL_rep {β : Ren} (n : Nat) : denL β (List.replicate n (.v undef)) = some (List.replicate n undef) := by
  induction n with
  | zero => simp [denL]
  | succ n ih => simp [List.replicate_succ, denL, ih, SV.den]

/-- The contract of a callee. -/
theorem callV {E : Env} {P : Program} (hP : E.P = P) {f : FuncId} (fn : Func) {args : List SV} {vs : Array Value} {r : SV} {V : Value} (hf : P.funcs[f]? = some fn) (hname : (fn.name == "runtime.NumGoroutine") = false) (hb : fn.body.isSome = true)
    (h : ∀ w, Calls P f vs w fun e w' => e = .returned V ∧ Below w.heap.size w w') (hargs : ∀ β, denL β args = some vs.toList) (hr : ∀ β, r.den β = some V) : CallV E f args r := by
  subst hP
  exact ⟨⟨fn, hf, hname, hb⟩, vs.toList, V, hargs, hr, by simpa using h⟩

/-- A state that says less. -/
def Sub (E : Env) (s s' : St) : Prop := Sz E.nt s' ∧ ∀ β a w, Rl E s.sg β a w → ∃ β', Rl E s'.sg β' a w

/-! ### A state that says less, checked -/

abbrev Rn := List (Nat × Nat)
def Rn.at (ρ : Rn) (i : Nat) : Nat := match ρ with
  | [] => i
  | (x, y) :: r => sel (Nat.beq x i) (fun _ => y) (fun _ => Rn.at r i)
mutual
def SV.ren (ρ : Rn) : SV → SV
  | .ptr id o => .ptr (ρ.at id) o
  | .px id o => .px (ρ.at id) o
  | .sl id o l c => .sl (ρ.at id) o l c
  | .row id a b c => .row (ρ.at id) a b c
  | .emp id => .emp (ρ.at id)
  | .agg l => .agg (renL ρ l)
  | .tup l => .tup (renL ρ l)
  | .clo f l => .clo f (renL ρ l)
  | .ifc t x => .ifc t (SV.ren ρ x)
  | x => x
def renL (ρ : Rn) : List SV → List SV
  | [] => []
  | x :: r => SV.ren ρ x :: renL ρ r
end
mutual
/-- Whether all numbers of blocks are among these. -/
def SV.ids (d : List Nat) : SV → Bool
  | .ptr id _ => d.any (Nat.beq id)
  | .px id _ => d.any (Nat.beq id)
  | .sl id _ _ _ => d.any (Nat.beq id)
  | .row id _ _ _ => d.any (Nat.beq id)
  | .emp id => d.any (Nat.beq id)
  | .agg l => idsL d l
  | .tup l => idsL d l
  | .clo _ l => idsL d l
  | .ifc _ x => SV.ids d x
  | _ => true
def idsL (d : List Nat) : List SV → Bool
  | [] => true
  | x :: r => SV.ids d x && idsL d r
end

/-- Two values that read alike. -/
def eqS (x y : SV) : Prop :=
  match x, y with
  | .lit k m, .v (.int k' e) => kEq k k' = true ∧ m = e
  | .bl b, .v (.bool e) => b = e
  | x, y => x = y
def eqSL : List SV → List SV → Prop
  | [], [] => True
  | x :: r, y :: t => eqS x y ∧ eqSL r t
  | _, _ => False

def subT (ρ : Rn) (a b : Br) : Nat → Prop
  | 0 => True
  | n + 1 => match a.get n, b.get n with
    | some .un, some _ => subT ρ a b n
    | some x', some x => eqS x (x'.ren ρ) ∧ subT ρ a b n
    | _, _ => False
def idsT (d : List Nat) (a : Br) : Nat → Bool
  | 0 => true
  | n + 1 => (match a.get n with
    | some x => x.ids d
    | none => true) && idsT d a n
def subBx (ρ : Rn) (bs : List (Nat × Blk)) : List (Nat × Blk) → Prop
  | [] => True
  | (id, b) :: r => (match getB bs (ρ.at id) with | some c => c.ty = b.ty ∧ c.m = b.m ∧ eqSL c.cells (renL ρ b.cells) | none => False) ∧ subBx ρ bs r

def nodupB : List Nat → Bool
  | [] => true
  | x :: r => !(r.any (Nat.beq x)) && nodupB r

def subOk (ρ : Rn) (s' : St) (n : Nat) : Bool :=
  let d := s'.blks.map (·.1)
  nodupB d && nodupB (d.map ρ.at) && idsT d s'.tmps n && s'.blks.all fun p => idsL d p.2.cells

theorem eqS_den {x y : SV} (h : eqS x y) (β : Ren) : x.den β = y.den β := by
  unfold eqS at h
  split at h
  · rw [kEq_iff h.1, h.2]; rfl
  · rw [h]; rfl
  · rw [h]
theorem eqS_un {x y : SV} (h : eqS x y) (hy : y.isUn = false) : x.isUn = false := by
  unfold eqS at h
  split at h
  · rfl
  · rfl
  · rw [h]; exact hy
theorem eqSL_den (β : Ren) : ∀ {x y : List SV}, eqSL x y → denL β x = denL β y
  | [], [], _ => rfl
  | [], _ :: _, h => h.elim
  | _ :: _, [], h => h.elim
  | x :: r, y :: t, h => by simp only [denL, eqS_den h.1 β, eqSL_den β h.2]

theorem mem_of_any {d : List Nat} {i : Nat} (h : d.any (Nat.beq i) = true) : i ∈ d := by
  rw [List.any_eq_true] at h
  obtain ⟨x, hx, e⟩ := h
  rw [Nat.eq_of_beq_eq_true e]; exact hx

mutual
theorem SV.den_ren {ρ : Rn} {β β' : Ren} {d : List Nat} (hb : ∀ i ∈ d, β' i = β (ρ.at i)) : ∀ (x : SV) {v : Value}, x.ids d = true → (x.ren ρ).den β = some v → x.den β' = some v
  | .lit _ _, v, _, e => by simpa [SV.ren, SV.den] using e
  | .bl _, v, _, e => by simpa [SV.ren, SV.den] using e
  | .v _, v, _, e => by simpa [SV.ren, SV.den] using e
  | .un, v, _, e => by simp [SV.ren, SV.den] at e
  | .ptr id o, v, h, e => by
    simp only [SV.ren, SV.den] at e ⊢
    rw [hb id (mem_of_any h)]; exact e
  | .px id o, v, h, e => by
    simp only [SV.ren, SV.den] at e ⊢
    rw [hb id (mem_of_any h)]; exact e
  | .sl id o l c, v, h, e => by
    simp only [SV.ren, SV.den] at e ⊢
    rw [hb id (mem_of_any h)]; exact e
  | .row id _ _ _, v, h, e => by
    simp only [SV.ren, SV.den] at e ⊢
    rw [hb id (mem_of_any h)]; exact e
  | .emp id, v, h, e => by
    simp only [SV.ren, SV.den] at e ⊢
    rw [hb id (mem_of_any h)]; exact e
  | .agg l, v, h, e => by
    simp only [SV.ren, SV.den, Option.map_eq_some_iff] at e ⊢
    obtain ⟨vs, h1, h2⟩ := e
    exact ⟨vs, denL_ren hb l h h1, h2⟩
  | .tup l, v, h, e => by
    simp only [SV.ren, SV.den, Option.map_eq_some_iff] at e ⊢
    obtain ⟨vs, h1, h2⟩ := e
    exact ⟨vs, denL_ren hb l h h1, h2⟩
  | .clo f l, v, h, e => by
    simp only [SV.ren, SV.den, Option.map_eq_some_iff] at e ⊢
    obtain ⟨vs, h1, h2⟩ := e
    exact ⟨vs, denL_ren hb l h h1, h2⟩
  | .ifc t x, v, h, e => by
    simp only [SV.ren, SV.den, Option.map_eq_some_iff] at e ⊢
    obtain ⟨u, h1, h2⟩ := e
    exact ⟨u, SV.den_ren hb x h h1, h2⟩
theorem denL_ren {ρ : Rn} {β β' : Ren} {d : List Nat} (hb : ∀ i ∈ d, β' i = β (ρ.at i)) : ∀ (l : List SV) {vs : List Value}, idsL d l = true → denL β (renL ρ l) = some vs → denL β' l = some vs
  | [], vs, _, e => by simpa [renL, denL] using e
  | x :: r, vs, h, e => by
    simp only [idsL, Bool.and_eq_true] at h
    simp only [renL, denL, Option.bind_eq_some_iff, Option.map_eq_some_iff] at e ⊢
    obtain ⟨v, h1, us, h2, h3⟩ := e
    exact ⟨v, SV.den_ren hb x h.1 h1, us, denL_ren hb r h.2 h2, h3⟩
end

theorem subT_get {ρ : Rn} {a b : Br} : ∀ (n : Nat), subT ρ a b n → ∀ t x', t < n → a.get t = some x' → x'.isUn = false → ∃ x, b.get t = some x ∧ eqS x (x'.ren ρ)
  | 0, _, t, x', h, _, _ => by omega
  | n + 1, h, t, x', ht, hx, hu => by
    simp only [subT] at h
    by_cases htn : t = n
    · subst htn
      split at h
      · rename_i h1 _; rw [h1] at hx; injection hx with hx; subst hx; simp [SV.isUn] at hu
      · rename_i y' y _ h1 h2; rw [h1] at hx; injection hx with hx; subst hx; exact ⟨y, h2, h.1⟩
      · exact h.elim
    · split at h
      · exact subT_get n h t x' (by omega) hx hu
      · exact subT_get n h.2 t x' (by omega) hx hu
      · exact h.elim
theorem idsT_get {d : List Nat} {a : Br} : ∀ (n : Nat), idsT d a n = true → ∀ t x, t < n → a.get t = some x → x.ids d = true
  | 0, _, t, x, h, _ => by omega
  | n + 1, h, t, x, ht, hx => by
    simp only [idsT, Bool.and_eq_true] at h
    by_cases htn : t = n
    · subst htn
      have := h.1
      rw [hx] at this
      exact this
    · exact idsT_get n h.2 t x (by omega) hx

theorem subBx_get {ρ : Rn} {bs : List (Nat × Blk)} : ∀ (l : List (Nat × Blk)), subBx ρ bs l → ∀ id b, getB l id = some b → ∃ c, getB bs (ρ.at id) = some c ∧ c.ty = b.ty ∧ c.m = b.m ∧ eqSL c.cells (renL ρ b.cells)
  | [], _, _, _, h => by simp [sel_eq, getB_nil, getB_cons] at h
  | (i, x) :: r, h, id, b, hb => by
    simp only [subBx] at h
    simp only [sel_eq, getB_nil, getB_cons] at hb
    cases hi : Nat.beq i id with
    | true =>
      obtain rfl := Nat.eq_of_beq_eq_true hi
      rw [hi] at hb
      simp only [cond_true, Option.some.injEq] at hb
      subst hb
      have h1 := h.1
      split at h1
      · rename_i c hc; exact ⟨c, hc, h1.1, h1.2.1, h1.2.2⟩
      · exact h1.elim
    | false => rw [hi] at hb; exact subBx_get r h.2 id b hb

theorem getB_mem : ∀ (l : List (Nat × Blk)) {id : Nat} {b : Blk}, getB l id = some b → (id, b) ∈ l
  | [], _, _, h => by simp [sel_eq, getB_nil, getB_cons] at h
  | (i, x) :: r, id, b, h => by
    simp only [sel_eq, getB_nil, getB_cons] at h
    cases hi : Nat.beq i id with
    | true =>
      obtain rfl := Nat.eq_of_beq_eq_true hi
      rw [hi] at h
      simp only [cond_true, Option.some.injEq] at h
      subst h; exact List.mem_cons_self
    | false => rw [hi] at h; exact List.mem_cons_of_mem _ (getB_mem r h)
theorem mem_getB : ∀ (l : List (Nat × Blk)) {id : Nat}, id ∈ l.map (·.1) → ∃ b, getB l id = some b
  | [], _, h => by simp at h
  | (i, x) :: r, id, h => by
    simp only [sel_eq, getB_nil, getB_cons]
    cases hi : Nat.beq i id with
    | true => exact ⟨x, rfl⟩
    | false =>
      simp only [List.map_cons, List.mem_cons] at h
      rcases h with h | h
      · subst h; simp at hi
      · exact mem_getB r h

theorem nodupB_inj {f : Nat → Nat} : ∀ (l : List Nat), nodupB (l.map f) = true → ∀ i ∈ l, ∀ j ∈ l, f i = f j → nodupB l = true → i = j
  | [], _, i, hi, _, _, _, _ => by cases hi
  | x :: r, h, i, hi, j, hj, e, hn => by
    simp only [List.map_cons, nodupB, Bool.and_eq_true, Bool.not_eq_true', List.any_eq_false] at h hn
    rcases List.mem_cons.1 hi with hi1 | hi1 <;> rcases List.mem_cons.1 hj with hj1 | hj1
    · rw [hi1, hj1]
    · have := h.1 (f j) (List.mem_map.2 ⟨j, hj1, rfl⟩)
      rw [← hi1, e] at this
      simp at this
    · have := h.1 (f i) (List.mem_map.2 ⟨i, hi1, rfl⟩)
      rw [← hj1, ← e] at this
      simp at this
    · exact nodupB_inj r h.2 i hi1 j hj1 e hn.2

theorem idsL_mem {d : List Nat} : ∀ (l : List SV), idsL d l = true → ∀ x ∈ l, x.ids d = true
  | [], _, _, h => by cases h
  | y :: r, h, x, hx => by
    simp only [idsL, Bool.and_eq_true] at h
    rcases List.mem_cons.1 hx with rfl | hx
    · exact h.1
    · exact idsL_mem r h.2 x hx

theorem sub_ok {E : Env} (hanc : E.anc = fun _ => none) {s s' : St} (ρ : Rn) (hl : Sz E.nt s') (h1 : subT ρ s'.tmps s.tmps E.nt) (h2 : subBx ρ s.blks s'.blks) (h3 : subOk ρ s' E.nt = true) : Sub E s s' := by
  refine ⟨hl, fun β a w hr => ?_⟩
  simp only [subOk, Bool.and_eq_true] at h3
  obtain ⟨⟨⟨h4, h5⟩, h6⟩, h7⟩ := h3
  let d := s'.blks.map (·.1)
  let β' : Ren := fun id => if id ∈ d then β (ρ.at id) else none
  have hb : ∀ i ∈ d, β' i = β (ρ.at i) := fun i hi => by simp [β', hi]
  refine ⟨β', ⟨?_, ?_, ?_, hr.keep, fun i p hp => by rw [hanc] at hp; cases hp⟩, hr.size, hr.defers, ?_⟩
  · intro id b hbk hlv
    simp only [St.sg, Option.map_eq_some_iff] at hbk
    obtain ⟨y, hy, e⟩ := hbk
    injection e with e
    subst e
    obtain ⟨c, g1, g2, g4, g3⟩ := subBx_get s'.blks h2 id y hy
    obtain ⟨p, vs, rest, q1, q2, q3, q4, q5⟩ := hr.blk (ρ.at id) c (by simp [St.sg, g1]) (by rw [g4]; exact hlv)
    have hm := getB_mem s'.blks hy
    have hid : id ∈ d := List.mem_map.2 ⟨_, hm, rfl⟩
    refine ⟨p, vs, rest, by rw [hb id hid]; exact q1, ?_, by rw [← g2]; exact q3, by rw [← g4]; exact q4, q5⟩
    rw [eqSL_den β g3] at q2
    exact denL_ren hb y.cells (List.all_eq_true.1 h7 (id, y) hm) q2
  · intro id hn
    have : id ∉ d := fun hm => by
      obtain ⟨b, hb'⟩ := mem_getB s'.blks hm
      simp [St.sg, hb'] at hn
    simp [β', this]
  · intro i j b c q r hi hil hj hjl hq hr' hqr
    have key : ∀ i b, s'.sg (.blk i) = some (.blk b) → b.m.live = true → i ∈ d ∧ ∃ c, s.sg (.blk (ρ.at i)) = some (.blk c) ∧ c.m.live = true := by
      intro i b hi hl
      simp only [St.sg, Option.map_eq_some_iff] at hi
      obtain ⟨y, hy, e⟩ := hi
      injection e with e
      subst e
      obtain ⟨c, g1, g2, g4, g3⟩ := subBx_get s'.blks h2 i y hy
      exact ⟨List.mem_map.2 ⟨_, getB_mem s'.blks hy, rfl⟩, c, by simp [St.sg, g1], by rw [g4]; exact hl⟩
    obtain ⟨hid, c1, k1, k2⟩ := key i b hi hil
    obtain ⟨hjd, c2, k3, k4⟩ := key j c hj hjl
    rw [hb i hid] at hq
    rw [hb j hjd] at hr'
    exact nodupB_inj d h5 i hid j hjd (hr.inj _ _ c1 c2 q r k1 k2 k3 k4 hq hr' hqr) h4
  · intro t x hx
    simp only [St.sg, Option.map_eq_some_iff] at hx
    obtain ⟨y, hy, e⟩ := hx
    injection e with e
    subst e
    have hlt : t < E.nt := (hl t).1 ⟨y, hy⟩
    refine ⟨hlt, fun hu => ?_⟩
    obtain ⟨z, hz, he⟩ := subT_get E.nt h1 t y hlt hy hu
    have := (hr.tmp t z (by simp [St.sg, hz])).2 (eqS_un he (by cases y <;> first | rfl | exact hu))
    rw [eqS_den he β] at this
    exact SV.den_ren hb y (idsT_get E.nt h6 t y hlt hy) this

theorem sz_ofL (l : List SV) (bs : List (Nat × Blk)) : Sz l.length ⟨Br.ofL l, bs⟩ := by
  intro t
  simp only [Br.get_ofL, nth_eq]
  constructor
  · rintro ⟨x, hx⟩
    rcases Nat.lt_or_ge t l.length with h | h
    · exact h
    · rw [List.getElem?_eq_none h] at hx; cases hx
  · intro h; exact ⟨l[t], by simp [h]⟩

/-- A state of a family says less. -/
theorem sub_L {E : Env} (hanc : E.anc = fun _ => none) {n : Nat} (hn : E.nt = n) {s : St} {l : List SV} {bs : List (Nat × Blk)} (ρ : Rn) (hl : l.length = n) (h : subT ρ (Br.ofL l) s.tmps n ∧ subBx ρ s.blks bs) (h3 : subOk ρ ⟨Br.ofL l, bs⟩ n = true) : Sub E s ⟨Br.ofL l, bs⟩ := by
  refine sub_ok hanc ρ (by rw [hn, ← hl]; exact sz_ofL l bs) (by rw [hn]; exact h.1) h.2 (by rw [hn]; exact h3)

end

variable {nm : Md}
noncomputable section

/-- Code, its parts not yet looked at. -/
inductive SC where
  | skip
  | reg (draw : Bool) (B : List Nat) (ops : List Oper)
  | seq (a b : Unit → SC)
  | cond (c : Operand) (a b : Unit → SC)
  | block (id : Nat) (a : Unit → SC)
  | loop (a : Unit → SC)
  | exit (id : Nat)
  | ret

/-- An operation without its place and edges; its guard names the slot. -/
def stripG (all : List Oper) (o : Oper) : Oper :=
  match o.guard with
  | none => ⟨o.dst, o.op, 0, "", #[], none⟩
  | some (g, w) => match (nth all g).bind (·.dst) with
    | some t => ⟨o.dst, o.op, 0, "", #[], some (t, w)⟩
    | none => ⟨o.dst, .panic (.const undef), 0, "", #[], none⟩

def ofCode (nt : Nat) : Code → Option SC
  | .skip => some .skip
  | .label _ => some .skip
  | .region _ ops draw => match regOk nt ops draw with
    | true => some (.reg draw (cond draw (masks [] ops.toList) []) (ops.toList.map (stripG ops.toList)))
    | false => none
  | .seq a b => match ofCode nt a, ofCode nt b with
    | some x, some y => some (.seq (fun _ => x) fun _ => y)
    | _, _ => none
  | .cond c a b => match ofCode nt a, ofCode nt b with
    | some x, some y => some (.cond c (fun _ => x) fun _ => y)
    | _, _ => none
  | .block id a => match ofCode nt a with
    | some x => some (.block id fun _ => x)
    | none => none
  | .loop a => match ofCode nt a with
    | some x => some (.loop fun _ => x)
    | none => none
  | .exit id => some (.exit id)
  | .ret => some .ret
  | _ => none

theorem ofCode_ok {nt : Nat} : ∀ (c : Code) (x : SC), ofCode nt c = some x → codeOk nt c = true
  | .skip, _, _ => rfl
  | .label _, _, _ => rfl
  | .region _ ops draw, x, h => by
    simp only [ofCode] at h
    split at h
    · assumption
    · cases h
  | .seq a b, x, h => by
    simp only [ofCode] at h
    split at h
    · rename_i u v hu hv
      simp only [codeOk, ofCode_ok a u hu, ofCode_ok b v hv, Bool.and_self]
    · cases h
  | .cond c a b, x, h => by
    simp only [ofCode] at h
    split at h
    · rename_i u v hu hv
      simp only [codeOk, ofCode_ok a u hu, ofCode_ok b v hv, Bool.and_self]
    · cases h
  | .block id a, x, h => by
    simp only [ofCode] at h
    split at h
    · rename_i u hu; simp only [codeOk, ofCode_ok a u hu]
    · cases h
  | .loop a, x, h => by
    simp only [ofCode] at h
    split at h
    · rename_i u hu; simp only [codeOk, ofCode_ok a u hu]
    · cases h
  | .exit _, _, _ => rfl
  | .ret, _, _ => rfl
  | .rangeFunc .., x, h => by simp [ofCode] at h
  | .scope _, x, h => by simp [ofCode] at h
  | .goto _, x, h => by simp [ofCode] at h
  | .refuse _, x, h => by simp [ofCode] at h

def kGo (draw : Bool) (B : List Nat) (j : Nat) (T : List (Nat × List Nat × List Nat)) (f : List (Nat × List Nat × List Nat) → St → Prop) (s' : St) (r w : List Nat) : Prop :=
  match r with
  | [] => f T s'
  | _ => iB (!draw || goes ((nth B j).getD 0) r w T) (f ((j, r, w) :: T) s')
def kGuard (x : SV) (want : Bool) (p q : Unit → Prop) : Prop :=
  match x with
  | .bl b => match b == want with
    | true => p ()
    | false => q ()
  | .v (.bool e) => (e = want → p ()) ∧ (e = !want → q ())
  | .v (.tuple _) => q ()
  | _ => False

def sxOpsS (I : Ar) (E : Env) (tt : TT) (base : Nat) (B : List Nat) (draw : Bool) : List Oper → Nat → List (Nat × List Nat × List Nat) → St → (St → Prop) → Prop
  | [], _, _, s, k => k s
  | o :: l, j, T, s, k =>
    match o.guard with
    | none => sxOp I E tt base j o s (kGo draw B j T fun T' s' => sxOpsS I E tt base B draw l (j + 1) T' s' k)
    | some (t, want) => oB (s.tmps.get t) fun x => kGuard x want
        (fun _ => sxOp I E tt base j o s (kGo draw B j T fun T' s' => sxOpsS I E tt base B draw l (j + 1) T' s' k))
        (fun _ => sxOpsS I E tt base B draw l (j + 1) T (s.put o (.v undef)) k)

structure LoopS (E : Env) (b : Unit → SC) (s : St) (K : Ex → St → Prop) : Prop where
  out : ∀ body, ofCode E.nt body = some (b ()) → LoopP E body s K

def kThen (f : St → (Ex → St → Prop) → Prop) (K : Ex → St → Prop) (e : Ex) (s : St) : Prop :=
  match e with
  | .normal => f s K
  | e => K e s
def kBlock (id : Nat) (K : Ex → St → Prop) (e : Ex) (s : St) : Prop :=
  match e with
  | .exit i => match Nat.beq i id with
    | true => K .normal s
    | false => K (.exit i) s
  | e => K e s

def sxC (I : Ar) (E : Env) (tt : TT) : SC → St → (Ex → St → Prop) → Prop
  | .skip, s, K => K .normal s
  | .reg draw B ops, s, K => sxOpsS I E tt (nextB s.blks) B draw ops 0 [] s (K .normal)
  | .seq a b, s, K => sxC I E tt (a ()) s (kThen (fun s' K' => sxC I E tt (b ()) s' K') K)
  | .cond c a b, s, K => oB (evO s c) fun x => match x with
    | .bl t => match t with
      | true => sxC I E tt (a ()) s K
      | false => sxC I E tt (b ()) s K
    | .v (.bool t) => (t = true → sxC I E tt (a ()) s K) ∧ (t = false → sxC I E tt (b ()) s K)
    | _ => False
  | .block id a, s, K => sxC I E tt (a ()) s (kBlock id K)
  | .loop a, s, K => LoopS E a s K
  | .exit id, s, K => K (.exit id) s
  | .ret, s, K => K .ret s

theorem sxOp_strip {I : Ar} {E : Env} {tt : TT} {base j : Nat} {o o' : Oper} {s : St} {k : St → List Nat → List Nat → Prop} (h1 : o'.op = o.op) (h2 : o'.dst = o.dst) (h : sxOp I E tt base j o' s k) : sxOp I E tt base j o s k := by
  obtain ⟨d, op, ty, pos, af, g⟩ := o
  obtain ⟨d', op', ty', pos', af', g'⟩ := o'
  simp only at h1 h2
  subst h1; subst h2
  exact h

theorem step_okS {E : Env} {ops : Array Oper} {o : Oper} {s : St} {k : St → List Nat → List Nat → Prop} {tt : TT} {base j : Nat} {q : Prop} (ht : TTok E.P tt) (hl : Sz E.nt s) (ho : ops[j]? = some o) (hd : ∀ t, o.dst = some t → t < E.nt)
    (hq : ∀ s0, s0 = s.put o (.v undef) → q → k s0 [] [])
    (h : match (stripG ops.toList o).guard with
    | none => sxOp (std nm) E tt base j (stripG ops.toList o) s k
    | some (t, want) => oB (s.tmps.get t) fun x => kGuard x want (fun _ => sxOp (std nm) E tt base j (stripG ops.toList o) s k) (fun _ => q)) : PostS E ops j o s k := by
  refine step_ok (nm := nm) (tt := tt) (base := base) ht rfl hl ho hd ?_
  obtain ⟨d, op, ty, pos, af, g⟩ := o
  cases g with
  | none => exact h
  | some gw =>
    obtain ⟨g, w⟩ := gw
    simp only [stripG] at h ⊢
    cases hb : (nth ops.toList g).bind (·.dst) with
    | none => rw [hb] at h; exact h.elim
    | some t =>
      rw [hb] at h
      simp only at h
      replace h := oB_some h
      obtain ⟨x, hx, h⟩ := h
      show oB (s.tmps.get t) _
      rw [hx]
      simp only [oB]
      unfold kGuard at h
      split at h
      · rename_i b
        (try simp only)
        split at h
        · rename_i hb; rw [hb]; exact h
        · rename_i hb; rw [hb]; exact hq _ rfl h
      · exact ⟨fun e => h.1 e, fun e => hq _ rfl (h.2 e)⟩
      · exact hq _ rfl h
      · exact h.elim

/-- A row of steps, each of which shows what the next one begins with. -/
theorem chain_gen {E : Env} {ops : Array Oper} {B : List Nat} {draw : Bool} {k : St → Prop} (P : List Oper → Nat → List (Nat × List Nat × List Nat) → St → Prop) (h0 : ∀ j T s, P [] j T s → k s)
    (hs : ∀ o l j T s, ops.toList.drop j = o :: l → ops[j]? = some o → o ∈ ops.toList → Sz E.nt s → P (o :: l) j T s → PostS E ops j o s (kGo draw B j T fun T' s' => P l (j + 1) T' s')) :
    ∀ (l : List Oper) (j : Nat) (T : List (Nat × List Nat × List Nat)) (s : St), ops.toList.drop j = l → Sz E.nt s → P l j T s →
    ∃ recs s', recs.length = l.length ∧ Chn E ops j s recs s' ∧ Sz E.nt s' ∧ k s' ∧
      (draw = true → ∀ (b : Nat) (x : Rec), recs[b]? = some x → x.r ≠ [] → (∀ i ri ui, (i, ri, ui) ∈ T → Fits B (j + b) x.r x.u i ri ui) ∧ ∀ (a : Nat) (y : Rec), a < b → recs[a]? = some y → y.r ≠ [] → Fits B (j + b) x.r x.u (j + a) y.r y.u)
  | [], j, T, s, _, hl, h => ⟨[], s, rfl, rfl, hl, h0 _ _ _ h, fun _ b x hx => by simp at hx⟩
  | o :: l, j, T, s, hdrop, hl, h => by
    have ho : ops[j]? = some o := by
      have : ops.toList[j]? = some o := by
        have h0 : (ops.toList.drop j)[0]? = some o := by rw [hdrop]; rfl
        simpa using h0
      simpa using this
    have hmem : o ∈ ops.toList := by
      have h0 : o ∈ ops.toList.drop j := by rw [hdrop]; exact List.mem_cons_self
      exact List.mem_of_mem_drop h0
    have hdrop' : ops.toList.drop (j + 1) = l := by rw [← List.drop_drop, hdrop]; rfl
    have hp := hs o l j T s hdrop ho hmem hl h
    obtain ⟨s1, r, u, W, hk, hsg, hlen, hkeys, hur, hev⟩ := hp
    cases hr : r with
    | nil =>
      rw [hr] at hk
      simp only [kGo] at hk
      obtain ⟨recs, s', g1, g2, g3, g4, g5⟩ := chain_gen P h0 hs l (j + 1) T s1 hdrop' (hlen _ hl) hk
      refine ⟨⟨r, u, W, s⟩ :: recs, s', by simp [g1], ⟨o, s1, ho, rfl, hev, hsg, hlen, hkeys, hur, g2⟩, g3, g4, ?_⟩
      intro hdr b x hx hxr
      cases b with
      | zero => simp only [List.getElem?_cons_zero, Option.some.injEq] at hx; subst hx; exact absurd hr hxr
      | succ b =>
        simp only [List.getElem?_cons_succ] at hx
        obtain ⟨q1, q2⟩ := g5 hdr b x hx hxr
        refine ⟨fun i ri ui hm => by have := q1 i ri ui hm; rwa [show j + 1 + b = j + (b + 1) by omega] at this, ?_⟩
        intro a y ha hy hyr
        cases a with
        | zero => simp only [List.getElem?_cons_zero, Option.some.injEq] at hy; subst hy; exact absurd hr hyr
        | succ a =>
          simp only [List.getElem?_cons_succ] at hy
          have := q2 a y (by omega) hy hyr
          rwa [show j + 1 + b = j + (b + 1) by omega, show j + 1 + a = j + (a + 1) by omega] at this
    | cons r0 rs =>
      rw [hr] at hk
      simp only [kGo] at hk
      have hgo : (!draw || goes ((nth B j).getD 0) (r0 :: rs) u T) = true := by
        cases hh : (!draw || goes ((nth B j).getD 0) (r0 :: rs) u T) with
        | true => rfl
        | false => rw [hh] at hk; exact hk.elim
      rw [hgo] at hk
      simp only [iB] at hk
      obtain ⟨recs, s', g1, g2, g3, g4, g5⟩ := chain_gen P h0 hs l (j + 1) ((j, r0 :: rs, u) :: T) s1 hdrop' (hlen _ hl) hk
      refine ⟨⟨r, u, W, s⟩ :: recs, s', by simp [g1], ⟨o, s1, ho, rfl, hev, hsg, hlen, hkeys, hur, g2⟩, g3, g4, ?_⟩
      intro hdr b x hx hxr
      cases b with
      | zero =>
        simp only [List.getElem?_cons_zero, Option.some.injEq] at hx
        subst hx
        refine ⟨fun i ri ui hm => ?_, fun a y ha => by omega⟩
        rw [hdr] at hgo
        simp only [Bool.not_true, Bool.false_or] at hgo
        have := goes_ok hgo i ri ui hm
        simp only [Fits, Nat.add_zero, hr]
        exact this
      | succ b =>
        simp only [List.getElem?_cons_succ] at hx
        obtain ⟨q1, q2⟩ := g5 hdr b x hx hxr
        refine ⟨fun i ri ui hm => by have := q1 i ri ui (List.mem_cons_of_mem _ hm); rwa [show j + 1 + b = j + (b + 1) by omega] at this, ?_⟩
        intro a y ha hy hyr
        cases a with
        | zero =>
          simp only [List.getElem?_cons_zero, Option.some.injEq] at hy
          subst hy
          have := q1 j (r0 :: rs) u List.mem_cons_self
          rw [show j + 1 + b = j + (b + 1) by omega] at this
          simpa only [Nat.add_zero, hr] using this
        | succ a =>
          simp only [List.getElem?_cons_succ] at hy
          have := q2 a y (by omega) hy hyr
          rwa [show j + 1 + b = j + (b + 1) by omega, show j + 1 + a = j + (a + 1) by omega] at this

theorem sxOpsS_chain {E : Env} {tt : TT} (ht : TTok E.P tt) {base : Nat} {ops : Array Oper} {B : List Nat} {draw : Bool} {k : St → Prop} (hd : ∀ o ∈ ops.toList, ∀ t, o.dst = some t → t < E.nt)
    (o : Oper) (l : List Oper) (j : Nat) (T : List (Nat × List Nat × List Nat)) (s : St) (ho : ops[j]? = some o) (hmem : o ∈ ops.toList) (hl : Sz E.nt s)
    (h : sxOpsS (std nm) E tt base B draw ((o :: l).map (stripG ops.toList)) j T s k) : PostS E ops j o s (kGo draw B j T fun T' s' => sxOpsS (std nm) E tt base B draw (l.map (stripG ops.toList)) (j + 1) T' s' k) := by
  have hput : s.put (stripG ops.toList o) (.v undef) = s.put o (.v undef) := by
    have : (stripG ops.toList o).dst = o.dst := by
      unfold stripG
      split
      · rfl
      · split <;> rfl
    simp only [St.put, this]
  refine step_okS (nm := nm) (base := base) (q := sxOpsS (std nm) E tt base B draw (l.map (stripG ops.toList)) (j + 1) T (s.put (stripG ops.toList o) (.v undef)) k) ht hl ho (hd o hmem) (fun s0 e hq => ?_) ?_
  · subst e; rw [hput] at hq; exact hq
  · rw [List.map_cons, sxOpsS] at h
    exact h

theorem region_gen {E : Env} (hm : E.P.follows .mixedOrders = true) {id : Nat} {ops : Array Oper} {draw : Bool} {s : St} {k : St → Prop} (hok : regOk E.nt ops draw = true)
    (hl : Sz E.nt s) (P : List Oper → Nat → List (Nat × List Nat × List Nat) → St → Prop) (h0 : ∀ j T s, P [] j T s → k s)
    (hs : (∀ o ∈ ops.toList, ∀ t, o.dst = some t → t < E.nt) → ∀ o l j T s, ops.toList.drop j = o :: l → ops[j]? = some o → o ∈ ops.toList → Sz E.nt s → P (o :: l) j T s → PostS E ops j o s (kGo draw (cond draw (masks [] ops.toList) []) j T fun T' s' => P l (j + 1) T' s'))
    (h : P ops.toList 0 [] s) {Q : Exit → Act → World → Prop}
    (hQ : ∀ s' β a w, Sz E.nt s' → Rl E s'.sg β a w → k s' → Q .normal a w) : ∀ β a w, Rl E s.sg β a w → (Code.region id ops draw).wp E.P Q a w := by
  intro β a w hr
  simp only [regOk, Bool.and_eq_true] at hok
  obtain ⟨hdst, hok⟩ := hok
  have hd : ∀ o ∈ ops.toList, ∀ t, o.dst = some t → t < E.nt := by
    intro o ho t ht'
    have := List.all_eq_true.1 hdst o ho
    rw [ht'] at this
    simpa [Nat.blt_eq] using this
  obtain ⟨recs, s', g1, g2, g3, g4, g5⟩ := chain_gen P h0 (hs hd) ops.toList 0 [] s rfl hl h
  cases draw with
  | false =>
    refine wp_region ?_
    have := chn_ops (Q := Q) recs 0 s s' g2 (fun β a w hr' => hQ s' β a w g3 hr' g4) β a w hr
    rw [g1] at this
    simpa [List.range_eq_range'] using this
  | true =>
    simp only [Bool.not_true, Bool.false_or, Bool.and_eq_true] at hok
    obtain ⟨hlow, hpairs⟩ := hok
    have hlen : recs.length = ops.size := by simpa using g1
    let R : Nat → List (Key × Option Dn) := fun j => match recs[j]?, ops[j]? with | some x, some o => Rof ops o x.s x.r | _, _ => []
    let W : Nat → List (Key × Dn) := fun j => match recs[j]? with | some x => x.W | none => []
    have hget := chn_get recs 0 s s' g2
    have hsig := chn_sig (W := W) (σ0 := s.sg) recs 0 s s' g2 (fun i x hx => by simp only [W, Nat.zero_add, hx]) rfl
    simp only [Nat.zero_add] at hget hsig
    have hex : ∀ j, j < ops.size → ∃ x, recs[j]? = some x := fun j hj => ⟨recs[j], by simp [hlen, hj]⟩
    refine region_any (R := R) (W := W) (σ0 := s.sg) hm ?_ ?_ ?_ hr ?_ ?_
    · intro j hj p hp
      obtain ⟨x, hx⟩ := hex j hj
      obtain ⟨o, ho, _⟩ := hget j x hx
      simp only [R, hx, ho] at hp
      rw [hsig.1 j x hx]
      unfold Rof at hp
      rcases List.mem_append.1 hp with hp | hp <;> (obtain ⟨t, _, rfl⟩ := List.mem_map.1 hp; rfl)
    · intro j hj
      obtain ⟨x, hx⟩ := hex j hj
      obtain ⟨o, ho, hev, _⟩ := hget j x hx
      simp only [R, W, hx, ho]
      exact hev
    · intro i j hij hj
      obtain ⟨x, hx⟩ := hex i (by omega)
      obtain ⟨y, hy⟩ := hex j hj
      obtain ⟨ox, hox, _, hkx, hux⟩ := hget i x hx
      obtain ⟨oy, hoy, _, hky, huy⟩ := hget j y hy
      cases hbit : ((nth (masks [] ops.toList) j).getD 0).testBit i with
      | true => exact .inl (masks_ok ops.toList [] rfl (fun j i h => by simp [nth_nil, nth_zero, nth_succ] at h) j i hbit)
      | false =>
        right
        have hp := List.all_eq_true.1 (List.all_eq_true.1 hpairs j (List.mem_range.2 hj)) i (List.mem_range.2 hij)
        simp only [hbit, hox, hoy, Bool.false_or] at hp
        obtain ⟨ap1, ap2, ap3⟩ := Oper.apart_spec hp
        have hfit : ∀ id, (id ∈ x.u → id ∉ y.r) ∧ (id ∈ y.u → id ∉ x.r) := by
          intro id
          by_cases hyr : y.r = []
          · exact ⟨fun _ => by rw [hyr]; simp, fun h => by have := huy id h; rw [hyr] at this; simp at this⟩
          · by_cases hxr : x.r = []
            · exact ⟨fun h => by have := hux id h; rw [hxr] at this; simp at this, fun _ => by rw [hxr]; simp⟩
            · have := (g5 rfl j y hy hyr).2 i x hij hx hxr
              simp only [Nat.zero_add, Fits, cond_true] at this
              rcases this with h | ⟨h1, h2⟩
              · rw [hbit] at h; cases h
              · exact ⟨h1 id, h2 id⟩
        have Rtmp : ∀ {z : Rec} {oz : Oper} {n : Nat}, R n = Rof ops oz z.s z.r → ∀ p ∈ R n, (∃ t, p.1 = .tmp t ∧ t ∈ oz.looksAt ops) ∨ ∃ id, p.1 = .blk id ∧ id ∈ z.r := by
          intro z oz n hRn p hp
          rw [hRn] at hp
          unfold Rof at hp
          rcases List.mem_append.1 hp with hp | hp
          · obtain ⟨t, ht, rfl⟩ := List.mem_map.1 hp; exact .inl ⟨t, rfl, ht⟩
          · obtain ⟨t, ht, rfl⟩ := List.mem_map.1 hp; exact .inr ⟨t, rfl, ht⟩
        have hRi : R i = Rof ops ox x.s x.r := by simp only [R, hx, hox]
        have hRj : R j = Rof ops oy y.s y.r := by simp only [R, hy, hoy]
        have hWi : W i = x.W := by simp only [W, hx]
        have hWj : W j = y.W := by simp only [W, hy]
        refine ⟨?_, ?_⟩
        · intro key hk
          rw [hWi] at hk
          obtain ⟨d, hd'⟩ := Option.ne_none_iff_exists'.1 hk
          rcases hkx key d hd' with ⟨t, rfl, h2⟩ | ⟨id, rfl, h2⟩
          · refine ⟨?_, ?_⟩
            · rw [hWj]
              cases hh : look y.W (.tmp t) with
              | none => rfl
              | some d' =>
                rcases hky _ d' hh with ⟨t', e, h3⟩ | ⟨id, e, _⟩
                · injection e with e; subst e; exact absurd h3 (ap2 t h2)
                · cases e
            · intro p hp e
              rcases Rtmp hRj p hp with ⟨t', e', h3⟩ | ⟨id, e', _⟩
              · rw [e] at e'; injection e' with e'; subst e'; exact ap1 t h2 h3
              · rw [e] at e'; cases e'
          · refine ⟨?_, ?_⟩
            · rw [hWj]
              cases hh : look y.W (.blk id) with
              | none => rfl
              | some d' =>
                rcases hky _ d' hh with ⟨t', e, h3⟩ | ⟨id', e, h3⟩
                · cases e
                · injection e with e; subst e; exact absurd (huy _ h3) ((hfit id).1 h2)
            · intro p hp e
              rcases Rtmp hRj p hp with ⟨t', e', h3⟩ | ⟨id', e', h3⟩
              · rw [e] at e'; cases e'
              · rw [e] at e'; injection e' with e'; subst e'; exact (hfit id).1 h2 h3
        · intro key hk p hp e
          rw [hWj] at hk
          obtain ⟨d, hd'⟩ := Option.ne_none_iff_exists'.1 hk
          rcases hky key d hd' with ⟨t, rfl, h2⟩ | ⟨id, rfl, h2⟩
          · rcases Rtmp hRi p hp with ⟨t', e', h3⟩ | ⟨id', e', h3⟩
            · rw [e] at e'; injection e' with e'; subst e'; exact ap3 t h2 h3
            · rw [e] at e'; cases e'
          · rcases Rtmp hRi p hp with ⟨t', e', h3⟩ | ⟨id', e', h3⟩
            · rw [e] at e'; cases e'
            · rw [e] at e'; injection e' with e'; subst e'; exact (hfit id).2 h2 h3
    · intro β' a' w' hr'
      rw [← hlen, hsig.2] at hr'
      exact hQ s' β' a' w' g3 hr' g4
    · intro j o ho e he hb
      exact lowOk_ok ops.toList 0 rfl hlow j o (by omega) ho e he hb

theorem sx_regionS {E : Env} {tt : TT} (ht : TTok E.P tt) (hm : E.P.follows .mixedOrders = true) {id : Nat} {ops : Array Oper} {draw : Bool} {s : St} {k : St → Prop} {base : Nat} (hok : regOk E.nt ops draw = true)
    (hl : Sz E.nt s) (h : sxOpsS (std nm) E tt base (cond draw (masks [] ops.toList) []) draw (ops.toList.map (stripG ops.toList)) 0 [] s k) {Q : Exit → Act → World → Prop}
    (hQ : ∀ s' β a w, Sz E.nt s' → Rl E s'.sg β a w → k s' → Q .normal a w) : ∀ β a w, Rl E s.sg β a w → (Code.region id ops draw).wp E.P Q a w :=
  region_gen hm hok hl (fun l j T s => sxOpsS (std nm) E tt base (cond draw (masks [] ops.toList) []) draw (l.map (stripG ops.toList)) j T s k) (fun j T s h => by simpa [sxOpsS] using h)
    (fun hd o l j T s _ ho hm hl h => sxOpsS_chain ht hd o l j T s ho hm hl h) h hQ

theorem sxC_ok {E : Env} {tt : TT} (ht : TTok E.P tt) (hm : E.P.follows .mixedOrders = true) : ∀ (c : Code) (x : SC) (s : St) (K : Ex → St → Prop), ofCode E.nt c = some x → Sz E.nt s → sxC (std nm) E tt x s K →
    ∀ β a w, Rl E s.sg β a w → c.wp E.P (QK E K) a w
  | .skip, x, s, K, hx, hl, h, β, a, w, hr => by simp only [ofCode, Option.some.injEq] at hx; subst hx; exact wp_skip ⟨s, β, hl, hr, h⟩
  | .label _, x, s, K, hx, hl, h, β, a, w, hr => by simp only [ofCode, Option.some.injEq] at hx; subst hx; exact wp_label ⟨s, β, hl, hr, h⟩
  | .region id ops draw, x, s, K, hx, hl, h, β, a, w, hr => by
    simp only [ofCode] at hx
    split at hx
    · rename_i hok
      simp only [Option.some.injEq] at hx
      subst hx
      simp only [sxC] at h
      exact sx_regionS ht hm hok hl h (fun s' β a w hl' hr' hk => ⟨s', β, hl', hr', hk⟩) β a w hr
    · cases hx
  | .seq p q, x, s, K, hx, hl, h, β, a, w, hr => by
    simp only [ofCode] at hx
    split at hx
    · rename_i u v hu hv
      simp only [Option.some.injEq] at hx
      subst hx
      simp only [sxC] at h
      refine wp_seq (wp_mono (sxC_ok ht hm p u s _ hu hl h β a w hr) ?_)
      intro e a' w' hq
      cases e with
      | normal =>
        obtain ⟨s', β', hl', hr', hk⟩ := hq
        exact sxC_ok ht hm q v s' K hv hl' hk β' a' w' hr'
      | exit id => obtain ⟨s', β', hl', hr', hk⟩ := hq; exact ⟨s', β', hl', hr', hk⟩
      | ret => obtain ⟨s', β', hl', hr', hk⟩ := hq; exact ⟨s', β', hl', hr', hk⟩
      | goto l => exact hq.elim
      | panic c => exact hq.elim
      | outgrown => exact hq.elim
    · cases hx
  | .cond c p q, x, s, K, hx, hl, h, β, a, w, hr => by
    simp only [ofCode] at hx
    split at hx
    · rename_i u u' hu hu'
      simp only [Option.some.injEq] at hx
      subst hx
      simp only [sxC] at h
      replace h := oB_some h; obtain ⟨v, hv, h⟩ := h
      have hev : v.den β = some (a.eval c) := by
        cases c with
        | tmp t =>
          simp only [evO] at hv
          obtain ⟨hv, hun⟩ := known_ok hv
          exact (hr.tmp t v (by simp [St.sg, hv])).2 hun
        | const v => simp only [evO, Option.some.injEq] at hv; subst hv; exact den_ofC β v
        | global g => simp [evO] at hv
        | func f => simp only [evO, Option.some.injEq] at hv; subst hv; simp [SV.den, denL, Act.eval]
      split at h
      · rename_i b
        simp only [SV.den, Option.some.injEq] at hev
        refine wp_cond (t := b) hev.symm ?_
        cases b with
        | true => exact sxC_ok ht hm p u s K hu hl h β a w hr
        | false => exact sxC_ok ht hm q u' s K hu' hl h β a w hr
      · rename_i b
        simp only [SV.den, Option.some.injEq] at hev
        refine wp_cond (t := b) hev.symm ?_
        cases b with
        | true => exact sxC_ok ht hm p u s K hu hl (h.1 rfl) β a w hr
        | false => exact sxC_ok ht hm q u' s K hu' hl (h.2 rfl) β a w hr
      · exact h.elim
    · cases hx
  | .block id body, x, s, K, hx, hl, h, β, a, w, hr => by
    simp only [ofCode] at hx
    split at hx
    · rename_i u hu
      simp only [Option.some.injEq] at hx
      subst hx
      simp only [sxC] at h
      refine wp_block (wp_mono (sxC_ok ht hm body u s _ hu hl h β a w hr) ?_)
      intro e a' w' hq
      cases e with
      | normal => exact hq
      | exit i =>
        obtain ⟨s', β', hl', hr', hk⟩ := hq
        simp only [Exit.inBlock]
        simp only [kBlock] at hk
        split at hk
        · rename_i hi; rw [if_pos (Nat.eq_of_beq_eq_true hi)]; exact ⟨s', β', hl', hr', hk⟩
        · rename_i hi; rw [if_neg (fun e => by rw [e] at hi; simp at hi)]; exact ⟨s', β', hl', hr', hk⟩
      | ret => exact hq
      | goto l => exact hq.elim
      | panic c => exact hq.elim
      | outgrown => exact hq.elim
    · cases hx
  | .loop body, x, s, K, hx, hl, h, β, a, w, hr => by
    simp only [ofCode] at hx
    split at hx
    · rename_i u hu
      simp only [Option.some.injEq] at hx
      subst hx
      simp only [sxC] at h
      exact (h.out body hu).out β a w hl hr
    · cases hx
  | .exit id, x, s, K, hx, hl, h, β, a, w, hr => by simp only [ofCode, Option.some.injEq] at hx; subst hx; exact wp_exit ⟨s, β, hl, hr, h⟩
  | .ret, x, s, K, hx, hl, h, β, a, w, hr => by simp only [ofCode, Option.some.injEq] at hx; subst hx; exact wp_ret ⟨s, β, hl, hr, h⟩
  | .rangeFunc .., x, s, K, hx, hl, h, β, a, w, hr => by simp [ofCode] at hx
  | .scope _, x, s, K, hx, hl, h, β, a, w, hr => by simp [ofCode] at hx
  | .goto _, x, s, K, hx, hl, h, β, a, w, hr => by simp [ofCode] at hx
  | .refuse _, x, s, K, hx, hl, h, β, a, w, hr => by simp [ofCode] at hx

end

variable {nm : Md}
noncomputable section

def envOf (P : Program) (w : World) (nt : Nat) : Env := ⟨P, w, fun p => p < w.heap.size, nt, fun _ h => h, fun _ => none⟩

/-- A function that takes values. -/
theorem sx_calls0 {P : Program} {f : FuncId} {fn : Func} {code : Code} {tt : TT} {args : List SV} {vs : List Value} {w : World} {R : Ending → World → Prop}
    (hf : P.funcs[f]? = some fn) (hb : fn.body = some code) (hm : P.follows .mixedOrders = true) (ht : TTok P tt) {x : SC} (hc : ofCode fn.ntmps code = some x) (hn : args.length ≤ fn.ntmps)
    (hargs : ∀ β, denL β args = some vs)
    (F : SV → St → Prop) (hF : ∀ x s, F x s → ∀ β a w', Rl (envOf P w fn.ntmps) s.sg β a w' → ∃ v, x.den β = some v ∧ R (.returned v) w')
    (h' : sxC (std nm) (envOf P w fn.ntmps) tt x ⟨Br.ofA args fn.ntmps, []⟩ (RetK tt fn.results.toList F)) :
    Calls P f vs.toArray w R := by
  refine calls_of_wp hf hb ?_
  let E : Env := envOf P w fn.ntmps
  have hlv := denL_length (hargs fun _ => none)
  have hlen : Sz E.nt ⟨Br.ofA args fn.ntmps, []⟩ := by
    intro t
    show (∃ x, (Br.ofA args fn.ntmps).get t = some x) ↔ t < fn.ntmps
    rw [Br.get_ofA args fn.ntmps t hn]
    by_cases h1 : t < args.length
    · rw [if_pos h1, nth_eq]; exact ⟨fun _ => by omega, fun _ => ⟨args[t], by simp [h1]⟩⟩
    · rw [if_neg h1]
      by_cases h2 : t < fn.ntmps
      · rw [if_pos h2]; exact ⟨fun _ => h2, fun _ => ⟨_, rfl⟩⟩
      · rw [if_neg h2]; exact ⟨fun h => (by obtain ⟨x, hx⟩ := h; cases hx), fun h => absurd h h2⟩
  refine wp_mono (sxC_ok (E := E) ht hm code x _ _ hc hlen h' (fun _ => none) _ w ?_) ?_
  · refine ⟨⟨?_, fun id _ => rfl, ?_, ⟨rfl, rfl, rfl, Nat.le_refl _, fun _ _ => rfl⟩, fun _ _ h => by cases h⟩, ?_, rfl, ?_⟩
    · intro id b hb; simp [sel_eq, St.sg, getB_nil, getB_cons] at hb
    · intro i j b c q r hb; simp [sel_eq, St.sg, getB_nil, getB_cons] at hb
    · simp; show vs.length + (fn.ntmps - vs.length) = fn.ntmps; omega
    · intro t x hx
      simp only [St.sg, Option.map_eq_some_iff] at hx
      obtain ⟨y, hy, e⟩ := hx
      injection e with e
      subst e
      have hlt : t < fn.ntmps := (hlen t).1 ⟨y, hy⟩
      refine ⟨hlt, fun _ => ?_⟩
      rw [Br.get_ofA args fn.ntmps t hn] at hy
      rw [Array.getD_eq_getD_getElem?]
      by_cases h1 : t < args.length
      · rw [if_pos h1] at hy
        obtain ⟨v, g1, g2⟩ := denL_nth (hargs fun _ => none) hy
        rw [g2]
        have : (vs.toArray ++ Array.replicate (fn.ntmps - vs.toArray.size) undef)[t]? = some v := by
          rw [← Array.getElem?_toList]
          have h3 : t < vs.length := by omega
          simpa [List.getElem?_append_left h3] using g1
        rw [this]; rfl
      · rw [if_neg h1, if_pos hlt] at hy
        injection hy with hy
        subst hy
        have : (vs.toArray ++ Array.replicate (fn.ntmps - vs.toArray.size) undef)[t]? = some undef := by
          rw [← Array.getElem?_toList]
          have h3 : vs.length ≤ t := by omega
          simp only [Array.toList_append, Array.toList_replicate, List.size_toArray]
          rw [List.getElem?_append_right h3, List.getElem?_replicate, if_pos (by omega)]
        rw [this]; rfl
  · intro e a' w' hq
    cases e with
    | normal =>
      obtain ⟨s', β', hl', hr', hk⟩ := hq
      simp only [RetK] at hk
      replace hk := oB_some hk; obtain ⟨l, hl, hk⟩ := hk
      obtain ⟨v, h1, h2⟩ := results_ok (E := E) ht hr' hl
      obtain ⟨v', h3, h4⟩ := hF _ _ hk β' a' w' hr'
      rw [h2] at h3; injection h3 with h3; subst h3
      exact ⟨hr'.defers, v, h1, h4⟩
    | ret =>
      obtain ⟨s', β', hl', hr', hk⟩ := hq
      simp only [RetK] at hk
      replace hk := oB_some hk; obtain ⟨l, hl, hk⟩ := hk
      obtain ⟨v, h1, h2⟩ := results_ok (E := E) ht hr' hl
      obtain ⟨v', h3, h4⟩ := hF _ _ hk β' a' w' hr'
      rw [h2] at h3; injection h3 with h3; subst h3
      exact ⟨hr'.defers, v, h1, h4⟩
    | exit id => obtain ⟨s', β', hl', hr', hk⟩ := hq; exact hk.elim
    | goto l => exact hq.elim
    | panic c => exact hq.elim
    | outgrown => exact hq.elim

theorem keeps_below {E : Env} {w w' : World} (hw : E.w0 = w) (hp : ∀ p, E.prot p ↔ p < w.heap.size) (h : Keeps E w') : Below w.heap.size w w' := by
  subst hw
  exact ⟨h.os, h.tape, h.output, h.size, fun k hk => h.block k ((hp k).2 hk)⟩

def bodyOf (fn : Func) : Code := fn.body.getD .skip
theorem Ar.eqs {wW : IntKind → Int → Int} {wA wS wM wQ wR : Int → Int → Int} {wB : BinOp → IntKind → Int → Int → Int} {wL wH : IntKind → Int → Int → Int} {wE wT wU : Int → Int → Bool} {wN : Bool → Bool → Bool} {wO : Bool → Bool} {wX : Bool → Bool → Bool} {wY : ByteArray → ByteArray → Bool} {wZ : ByteArray → Nat → Int} {wF : Nat → Int → Nat → Nat}
    (h : Ar.mk nm wW wA wS wM wQ wR wB wL wH wE wT wU wN wO wX wY wZ wF = std nm) :
    (∀ k x, wW k x = k.wrap x) ∧ (∀ x y, wA x y = x + y) ∧ (∀ x y, wS x y = x - y) ∧ (∀ x y, wM x y = x * y) ∧ (∀ x y, wQ x y = x.tdiv y) ∧ (∀ x y, wR x y = x.tmod y) ∧ (∀ o k x y, wB o k x y = bitsI o k x y) ∧
    (∀ k x y, wL k x y = k.wrap (x * 2 ^ (min y.toNat k.bits))) ∧ (∀ k x y, wH k x y = x.fdiv (2 ^ (min y.toNat k.bits))) ∧ (∀ x y, wE x y = (x == y)) ∧ (∀ x y, wT x y = decide (x < y)) ∧ (∀ x y, wU x y = decide (x ≤ y)) ∧
    (∀ x y, wN x y = (x && y)) ∧ (∀ x, wO x = !x) ∧ (∀ x y, wX x y = (x == y)) ∧ (∀ x y, wY x y = (x.toList == y.toList)) ∧ (∀ s i, wZ s i = (s.get! i).toNat) ∧ (∀ o i n, wF o i n = o + i.toNat * n) := by
  unfold std at h
  injection h with h0 h1 h2 h3 h4 h5 h6 h7 h8 h9 h10 h11 h12 h13 h14 h15 h16 h17 h18
  subst h1 h2 h3 h4 h5 h6 h7 h8 h9 h10 h11 h12 h13 h14 h15 h16 h17 h18
  exact ⟨fun _ _ => rfl, fun _ _ => rfl, fun _ _ => rfl, fun _ _ => rfl, fun _ _ => rfl, fun _ _ => rfl, fun _ _ _ _ => rfl, fun _ _ _ => rfl, fun _ _ _ => rfl, fun _ _ => rfl, fun _ _ => rfl, fun _ _ => rfl, fun _ _ => rfl, fun _ => rfl, fun _ _ => rfl, fun _ _ => rfl, fun _ _ => rfl, fun _ _ _ => rfl⟩

theorem br_t {c : Bool} {X Y : Prop} (h : c = true) (x : X) : (c = true → X) ∧ (c = false → Y) := ⟨fun _ => x, fun e => by rw [h] at e; cases e⟩
theorem br_t2 {c : Bool} {X Y : Prop} (h : c = true) (y : Y) : (c = false → X) ∧ (c = true → Y) := ⟨fun e => (by rw [h] at e; cases e), fun _ => y⟩
theorem br_f2 {c : Bool} {X Y : Prop} (h : c = false) (x : X) : (c = false → X) ∧ (c = true → Y) := ⟨fun _ => x, fun e => (by rw [h] at e; cases e)⟩
theorem br_f {c : Bool} {X Y : Prop} (h : c = false) (y : Y) : (c = true → X) ∧ (c = false → Y) := ⟨fun e => (by rw [h] at e; cases e), fun _ => y⟩

theorem body_some {fn : Func} (hb : fn.body.isSome = true) : fn.body = some (bodyOf fn) := by
  unfold bodyOf
  cases hh : fn.body with
  | none => rw [hh] at hb; cases hb
  | some c => rfl

/-- The way in: values in, a value out. -/
theorem sxV (nm : Md) {P : Program} {f : FuncId} (fn : Func) {tt : TT} (args : List SV) {vs : Array Value} {w : World} {V : Value}
    (hf : P.funcs[f]? = some fn) (hb : fn.body.isSome = true) (hm : P.follows .mixedOrders = true) (ht : TTok P tt) (k : Unit → SC) (hc : ofCode fn.ntmps (bodyOf fn) = some (k ())) (hn : args.length ≤ fn.ntmps)
    (hargs : ∀ β, denL β args = some vs.toList)
    (h : ∀ (wW : IntKind → Int → Int) (wA wS wM wQ wR : Int → Int → Int) (wB : BinOp → IntKind → Int → Int → Int) (wL wH : IntKind → Int → Int → Int) (wE wT wU : Int → Int → Bool) (wN : Bool → Bool → Bool) (wO : Bool → Bool) (wX : Bool → Bool → Bool) (wY : ByteArray → ByteArray → Bool) (wZ : ByteArray → Nat → Int) (wF : Nat → Int → Nat → Nat) (E : Env) (F : SV → Prop), Ar.mk nm wW wA wS wM wQ wR wB wL wH wE wT wU wN wO wX wY wZ wF = std nm → E.P = P → E.w0 = w → E.nt = fn.ntmps → (∀ p, E.prot p ↔ p < w.heap.size) → E.anc = (fun _ => none) →
      (∀ x, (∀ β, x.den β = some V) → F x) →
      sxC (Ar.mk nm wW wA wS wM wQ wR wB wL wH wE wT wU wN wO wX wY wZ wF) E tt (k ()) ⟨Br.ofA args fn.ntmps, []⟩ (RetK tt fn.results.toList fun x _ => F x)) :
    Calls P f vs w fun e w' => e = .returned V ∧ Below w.heap.size w w' := by
  have key := h IntKind.wrap (fun x y => x + y) (fun x y => x - y) (fun x y => x * y) Int.tdiv Int.tmod bitsI (fun k x y => k.wrap (x * 2 ^ (min y.toNat k.bits))) (fun k x y => x.fdiv (2 ^ (min y.toNat k.bits))) (fun x y => x == y)
    (fun x y => decide (x < y)) (fun x y => decide (x ≤ y)) (fun x y => x && y) (fun x => !x) (fun x y => x == y) (fun x y => x.toList == y.toList) (fun s i => (s.get! i).toNat) (fun o i n => o + i.toNat * n) (envOf P w fn.ntmps)
    (fun x => ∀ β, x.den β = some V) rfl rfl rfl rfl (fun _ => Iff.rfl) rfl (fun x hx => hx)
  have := sx_calls0 (nm := nm) (R := fun e w' => e = .returned V ∧ Below w.heap.size w w') (vs := vs.toList) hf (body_some hb) hm ht hc hn hargs (fun x _ => ∀ β, x.den β = some V)
    (fun x s hx β a w' hr => ⟨V, hx β, rfl, keeps_below rfl (fun _ => Iff.rfl) hr.keep⟩) key
  simpa using this

/-- The way in, for results of any kind. -/
theorem sxR (nm : Md) {P : Program} {f : FuncId} (fn : Func) {tt : TT} (args : List SV) {vs : Array Value} {w : World} {R : Ending → World → Prop}
    (hf : P.funcs[f]? = some fn) (hb : fn.body.isSome = true) (hm : P.follows .mixedOrders = true) (ht : TTok P tt) (k : Unit → SC) (hc : ofCode fn.ntmps (bodyOf fn) = some (k ())) (hn : args.length ≤ fn.ntmps)
    (hargs : ∀ β, denL β args = some vs.toList)
    (h : ∀ (wW : IntKind → Int → Int) (wA wS wM wQ wR : Int → Int → Int) (wB : BinOp → IntKind → Int → Int → Int) (wL wH : IntKind → Int → Int → Int) (wE wT wU : Int → Int → Bool) (wN : Bool → Bool → Bool) (wO : Bool → Bool) (wX : Bool → Bool → Bool) (wY : ByteArray → ByteArray → Bool) (wZ : ByteArray → Nat → Int) (wF : Nat → Int → Nat → Nat) (E : Env) (F : SV → St → Prop), Ar.mk nm wW wA wS wM wQ wR wB wL wH wE wT wU wN wO wX wY wZ wF = std nm → E.P = P → E.w0 = w → E.nt = fn.ntmps → (∀ p, E.prot p ↔ p < w.heap.size) → E.anc = (fun _ => none) →
      (∀ x s, (∀ β a w', Rl E s.sg β a w' → ∃ v, x.den β = some v ∧ R (.returned v) w') → F x s) →
      sxC (Ar.mk nm wW wA wS wM wQ wR wB wL wH wE wT wU wN wO wX wY wZ wF) E tt (k ()) ⟨Br.ofA args fn.ntmps, []⟩ (RetK tt fn.results.toList F)) :
    Calls P f vs w R := by
  have key := h IntKind.wrap (fun x y => x + y) (fun x y => x - y) (fun x y => x * y) Int.tdiv Int.tmod bitsI (fun k x y => k.wrap (x * 2 ^ (min y.toNat k.bits))) (fun k x y => x.fdiv (2 ^ (min y.toNat k.bits))) (fun x y => x == y)
    (fun x y => decide (x < y)) (fun x y => decide (x ≤ y)) (fun x y => x && y) (fun x => !x) (fun x y => x == y) (fun x y => x.toList == y.toList) (fun s i => (s.get! i).toNat) (fun o i n => o + i.toNat * n) (envOf P w fn.ntmps)
    (fun x s => ∀ β a w', Rl (envOf P w fn.ntmps) s.sg β a w' → ∃ v, x.den β = some v ∧ R (.returned v) w') rfl rfl rfl rfl (fun _ => Iff.rfl) rfl (fun x s hx => hx)
  have := sx_calls0 (nm := nm) (R := R) (vs := vs.toList) hf (body_some hb) hm ht hc hn hargs _ (fun x s hx => hx) key
  simpa using this

/-- A loop of a known number of rounds. -/
def sxRounds (I : Ar) (E : Env) (tt : TT) (b : Unit → SC) : Nat → St → (Ex → St → Prop) → Prop
  | 0, _, _ => False
  | n + 1, s, K => sxC I E tt (b ()) s (kThen (fun s' K' => sxRounds I E tt b n s' K') K)

theorem loop_rounds {I : Ar} (hI : I = std nm) {P : Program} {E : Env} (hP : E.P = P) {tt : TT} (ht : TTok P tt) (hm : P.follows .mixedOrders = true) {b : Unit → SC} (n : Nat) {s : St} {K : Ex → St → Prop} (h : sxRounds I E tt b n s K) :
    LoopS E b s K := by
  subst hI
  subst hP
  refine ⟨fun body hb => ⟨fun β a w hl hr => ?_⟩⟩
  refine wp_loop_rounds n ?_
  induction n generalizing s β a w with
  | zero => exact h.elim
  | succ n ih =>
    rw [rounds_succ]
    refine wp_mono (sxC_ok ht hm body _ s _ hb hl h β a w hr) ?_
    intro e a' w' hq
    cases e with
    | normal => obtain ⟨s', β', hl', hr', hk⟩ := hq; exact ih hk β' a' w' hl' hr'
    | exit id => obtain ⟨s', β', hl', hr', hk⟩ := hq; exact ⟨s', β', hl', hr', hk⟩
    | ret => obtain ⟨s', β', hl', hr', hk⟩ := hq; exact ⟨s', β', hl', hr', hk⟩
    | goto l => exact hq.elim
    | panic c => exact hq.elim
    | outgrown => exact hq.elim

/-- Rounds, one at a time. -/
structure RoundsS (E : Env) (b : Unit → SC) (n : Nat) (s : St) (K : Ex → St → Prop) : Prop where
  out : ∀ body, ofCode E.nt body = some (b ()) → ∀ β a w, Sz E.nt s → Rl E s.sg β a w → Code.rounds E.P body (QK E K) n a w
theorem loop_n {E : Env} {b : Unit → SC} {s : St} {K : Ex → St → Prop} (n : Nat) (h : RoundsS E b n s K) : LoopS E b s K :=
  ⟨fun body hb => ⟨fun β a w hl hr => wp_loop_rounds n (h.out body hb β a w hl hr)⟩⟩
theorem round {I : Ar} (hI : I = std nm) {P : Program} {E : Env} (hP : E.P = P) {tt : TT} (ht : TTok P tt) (hm : P.follows .mixedOrders = true) {b : Unit → SC} {n : Nat} {s : St} {K : Ex → St → Prop}
    (h : sxC I E tt (b ()) s (kThen (fun s' K' => RoundsS E b n s' K') K)) : RoundsS E b (n + 1) s K := by
  subst hI
  subst hP
  refine ⟨fun body hb β a w hl hr => ?_⟩
  rw [rounds_succ]
  refine wp_mono (sxC_ok ht hm body _ s _ hb hl h β a w hr) ?_
  intro e a' w' hq
  cases e with
  | normal => obtain ⟨s', β', hl', hr', hk⟩ := hq; exact hk.out body hb β' a' w' hl' hr'
  | exit id => obtain ⟨s', β', hl', hr', hk⟩ := hq; exact ⟨s', β', hl', hr', hk⟩
  | ret => obtain ⟨s', β', hl', hr', hk⟩ := hq; exact ⟨s', β', hl', hr', hk⟩
  | goto l => exact hq.elim
  | panic c => exact hq.elim
  | outgrown => exact hq.elim

theorem loop_inv {I : Ar} (hI : I = std nm) {P : Program} {E : Env} (hP : E.P = P) {tt : TT} (ht : TTok P tt) (hm : P.follows .mixedOrders = true) {b : Unit → SC} {ι : Type} (Inv : ι → Prop) (S : ι → St) (μ : ι → Nat) (i0 : ι)
    {s : St} {K : Ex → St → Prop} (h0 : Inv i0) (hs : Sub E s (S i0))
    (round : ∀ i, Inv i → sxC I E tt (b ()) (S i) (kThen (fun s' _ => ∃ i', Inv i' ∧ μ i' < μ i ∧ Sub E s' (S i')) K))   : LoopS E b s K := by
  subst hI
  subst hP
  refine ⟨fun body hb => ⟨fun β a w hl hr b k cs => ?_⟩⟩
  obtain ⟨β0, hr0⟩ := hs.2 β a w hr
  have key : ∀ n i, μ i = n → Inv i → Sz E.nt (S i) → ∀ β a w, Rl E (S i).sg β a w →
      ∃ e a' w', QK E K e a' w' ∧ Arrives E.P (lone (b.at a (.code body :: .inLoop body :: k)) cs w) b k cs e a' w' := by
    intro n
    induction n using Nat.strongRecOn with
    | _ n ih =>
      intro i hn hi hl β a w hr
      obtain ⟨e, a₁, w₁, hq, harr⟩ := sxC_ok ht hm body _ (S i) _ hb hl (round i hi) β a w hr b (.inLoop body :: k) cs
      cases e with
      | normal =>
        obtain ⟨s', β', hl', hr', i', hi', hlt, hsub⟩ := hq
        obtain ⟨β'', hr''⟩ := hsub.2 β' a₁ w₁ hr'
        obtain ⟨e₂, a₂, w₂, hq₂, harr₂⟩ := ih (μ i') (hn ▸ hlt) i' rfl hi' hsub.1 β'' a₁ w₁ hr''
        exact ⟨e₂, a₂, w₂, hq₂, .of_steps (Steps.trans harr (.one step_inLoop)) harr₂⟩
      | exit id =>
        obtain ⟨s', β', hl', hr', hk⟩ := hq
        exact ⟨.exit id, a₁, w₁, ⟨s', β', hl', hr', hk⟩, .pass (x := .inLoop body) rfl (fun _ _ => .inl (by simp)) harr⟩
      | ret =>
        obtain ⟨s', β', hl', hr', hk⟩ := hq
        exact ⟨.ret, a₁, w₁, ⟨s', β', hl', hr', hk⟩, .pass (x := .inLoop body) rfl (fun _ _ => .inl (by simp)) harr⟩
      | goto l => exact hq.elim
      | panic ch => exact hq.elim
      | outgrown => exact hq.elim
  obtain ⟨e, a', w', hq, harr⟩ := key _ i0 rfl h0 hs.1 β0 a w hr0
  exact ⟨e, a', w', hq, .of_steps (.one step_loop) harr⟩

end

end Go.Proofs.Ytpopapmmceopmaa.X
