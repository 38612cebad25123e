import PyProof.Rows.All
import Wide.All
import OpenK.AllK
import Wide.FinOn
import PyProof.Rows.SetFrom
import PyProof.TupleKey
import PyProof.IsRules
import KE.KTryMore
import PySem.Challenge.RW_ui0502_07
set_option Elab.async false
set_option maxRecDepth 100000
set_option maxHeartbeats 8000000
-- part Aw0
set_option autoImplicit false
set_option linter.unusedVariables false
namespace Mine
open PySem

theorem size_upd (h : Heap) (a : Addr) (f : Obj → Obj) : (h.update a f).objs.size = h.objs.size := (Heap.SameBut.update h a f).1
theorem size_psh (h : Heap) (o : Obj) : (h.push o).objs.size = h.objs.size + 1 := by simp [Heap.push]
theorem runs_sz {M : Model} {Γ : Ctx} {p : Pos} {t : Sem Fin} {fs : List Frame} {s s' : Shared} {e : End} (h : Runs M Γ p t fs s e s') : s.heap.objs.size ≤ s'.heap.objs.size := by
  induction h <;> (try simp only [Shared.setGen, size_upd, size_psh] at *) <;> omega
theorem wakes_sz {M : Model} {Γ : Ctx} {p : Pos} {g : Nat} {r : Resume} {s s' : Shared} {res : GenResult} (h : Wakes M Γ p g r s res s') : s.heap.objs.size ≤ s'.heap.objs.size := by
  unfold Wakes at h
  split at h
  · exact h.elim
  · split at h
    · obtain ⟨e₁, s₁, hr, _, _, rfl⟩ := h; exact (runs_sz hr : (s.setGen g .running).heap.objs.size ≤ s₁.heap.objs.size)
    · rw [h.2]; exact Nat.le_refl _
    · rw [h.2]; exact Nat.le_refl _
  · obtain ⟨e₁, s₁, hr, _, _, rfl⟩ := h; exact (runs_sz hr : (s.setGen g .running).heap.objs.size ≤ s₁.heap.objs.size)
  · rw [h.2]; exact Nat.le_refl _
  · rw [h.2]; exact Nat.le_refl _
theorem wp_sz {α : Type} (M : Model) (Γ : Ctx) (n : Nat) (t : Sem α) : ∀ (Q : α → Pos → Shared → Prop) (E : Value → Pos → Shared → Prop) (p : Pos) (s : Shared), n ≤ s.heap.objs.size → Sem.wp M Γ t Q E p s →
    Sem.wp M Γ t (fun a p' s' => n ≤ s'.heap.objs.size ∧ Q a p' s') (fun e p' s' => n ≤ s'.heap.objs.size ∧ E e p' s') p s := by
  induction t with
  | pure a => intro Q E p s hn h; exact ⟨hn, h⟩
  | raise e => intro Q E p s hn h; exact ⟨hn, h⟩
  | unsupported _ => intro Q E p s _ h; exact h
  | finish _ => intro Q E p s _ h; exact h
  | rule _ k ih => intro Q E p s hn h; exact ih () Q E p s hn h
  | «at» p' k ih => intro Q E p s hn h; exact ih () Q E p' s hn h
  | load a _ k ih => intro Q E p s hn h; obtain ⟨o, ho, h⟩ := h; exact ⟨o, ho, ih o Q E p s hn h⟩
  | update a _ f k ih => intro Q E p s hn h; exact ⟨h.1, ih () Q E p _ (by simp only [size_upd]; exact hn) h.2⟩
  | loadIfAlive a k ih => intro Q E p s hn h; exact ih _ Q E p s hn h
  | point _ k ih => intro Q E p s hn h; exact ih () Q E p s hn h
  | register _ _ => intro Q E p s _ h; exact h
  | alloc o k ih => intro Q E p s hn h; exact ih _ Q E p _ (by simp only [size_psh]; omega) h
  | fresh k ih => intro Q E p s hn h; exact ih _ Q E p _ hn h
  | ask k ih => intro Q E p s hn h; exact ih _ Q E p s hn h
  | choose src m k ih => intro Q E p s hn h; exact ⟨h.1, ih _ Q E p _ hn h.2⟩
  | os q _ k ih => intro Q E p s hn h; exact ih _ Q E p _ hn h
  | call c hd _ _ k ih => intro Q E p s hn h; obtain ⟨r, s', hr, h⟩ := h; exact ⟨r, s', hr, ih r Q E p s' (Nat.le_trans hn (runs_sz hr)) h⟩
  | handled own k ih => intro Q E p s hn h; exact ih _ Q E p s hn h
  | genState g k ih => intro Q E p s hn h; obtain ⟨st, hs, h⟩ := h; exact ⟨st, hs, ih _ Q E p s hn h⟩
  | newGen c k ih => intro Q E p s hn h; exact ih _ Q E p _ hn h
  | resume g r _ k ih => intro Q E p s hn h; obtain ⟨res, s', hw, h⟩ := h; exact ⟨res, s', hw, ih res Q E p s' (Nat.le_trans hn (wakes_sz hw)) h⟩
  | yield _ _ _ _ => intro Q E p s _ h; exact h
  | stack k ih => intro Q E p s hn h; exact ih _ Q E p s hn h
  | fork _ _ => intro Q E p s _ h; exact h
  | thread k ih => intro Q E p s hn h; exact ih _ Q E p s hn h
  | await _ _ _ _ _ => intro Q E p s _ h; exact h
/-- the heap never shrinks -/
theorem wpAny_sz {α : Type} {M : Model} {A : Around} {s : Shared} {t : Sem α} {Q : α → Shared → Prop} {E : Value → Shared → Prop}
    (h : wpAny M A t (fun a s' => s.heap.objs.size ≤ s'.heap.objs.size → Q a s') E s) : wpAny M A t Q E s :=
  have h2 : wpAny M A t (fun a s' => s.heap.objs.size ≤ s'.heap.objs.size ∧ (s.heap.objs.size ≤ s'.heap.objs.size → Q a s')) (fun e s' => s.heap.objs.size ≤ s'.heap.objs.size ∧ E e s') s :=
    fun Γ p hΓ => wp_sz M Γ s.heap.objs.size t _ _ p s (Nat.le_refl _) (h Γ p hΓ)
  wpAny_mono h2 (fun _ _ x => x.2 x.1) (fun _ _ x => x.2)
end Mine

-- part Aw1
set_option autoImplicit false
namespace Mine
open PySem

inductive V where
  | none
  | bool (b : Bool)
  | int (i : Int)
  | str (s : Str)
  | bytes (b : Array UInt8)
  | ref (i : Nat)
  | k (v : Value)

inductive O where
  | list (xs : List V)
  | tuple (xs : List V)
  | inst (C : Addr) (d : Nat)
  | ns (es : List (Str × V))

abbrev AH := List O
abbrev Loc := List (Str × Option V)

def RV (ad : List Addr) : V → Value → Prop
  | .none, x => x = .none
  | .bool b, x => x = .bool b
  | .int i, x => ∃ t, x = .int i t
  | .str s, x => ∃ t, x = .str s t
  | .bytes b, x => ∃ t, x = .bytes b t
  | .ref i, x => ∃ a, ad[i]? = some a ∧ x = .ref a
  | .k v, x => x = v

inductive RVs (ad : List Addr) : List V → List Value → Prop
  | nil : RVs ad [] []
  | cons {v : V} {x : Value} {vs : List V} {xs : List Value} : RV ad v x → RVs ad vs xs → RVs ad (v :: vs) (x :: xs)

inductive REs (P : Params) (ad : List Addr) : List (Str × V) → List DictEntry → Prop
  | nil : REs P ad [] []
  | cons {k : Str} {v : V} {t : Tok} {x : Value} {es : List (Str × V)} {ds : List DictEntry} : RV ad v x → REs P ad es ds → REs P ad ((k, v) :: es) (⟨PyData.keyHash P k, .str k t, x⟩ :: ds)

def RO (P : Params) (ad : List Addr) : O → Obj → Prop
  | .list xs, o => ∃ vs n, o = ⟨.type "list", none, .seq vs n, #[]⟩ ∧ RVs ad xs vs.toList
  | .tuple xs, o => ∃ vs n, o = ⟨.type "tuple", none, .seq vs n, #[]⟩ ∧ RVs ad xs vs.toList
  | .inst C d, o => ∃ a, ad[d]? = some a ∧ o = ⟨.ref C, some a, .plain, #[]⟩
  | .ns es, o => ∃ ds n, o = ⟨.type "dict", none, .dict ds n, #[]⟩ ∧ REs P ad es ds.toList

theorem RV.mono {ad nw : List Addr} {v : V} {x : Value} (h : RV ad v x) : RV (ad ++ nw) v x := by
  cases v <;> try exact h
  obtain ⟨a, h1, h2⟩ := h
  refine ⟨a, ?_, h2⟩
  rw [List.getElem?_append_left]
  · exact h1
  · exact (List.getElem?_eq_some_iff.mp h1).1
theorem RVs.mono {ad nw : List Addr} {v : List V} {x : List Value} (h : RVs ad v x) : RVs (ad ++ nw) v x := by
  induction h with
  | nil => exact .nil
  | cons a _ ih => exact .cons a.mono ih
theorem REs.mono {P : Params} {ad nw : List Addr} {v : List (Str × V)} {x : List DictEntry} (h : REs P ad v x) : REs P (ad ++ nw) v x := by
  induction h with
  | nil => exact .nil
  | cons a _ ih => exact .cons a.mono ih
theorem RO.mono {P : Params} {ad nw : List Addr} {o : O} {x : Obj} (h : RO P ad o x) : RO P (ad ++ nw) o x := by
  cases o with
  | list xs => obtain ⟨vs, n, e, r⟩ := h; exact ⟨vs, n, e, r.mono⟩
  | tuple xs => obtain ⟨vs, n, e, r⟩ := h; exact ⟨vs, n, e, r.mono⟩
  | inst C d =>
    obtain ⟨a, h1, h2⟩ := h
    refine ⟨a, ?_, h2⟩
    rw [List.getElem?_append_left]
    · exact h1
    · exact (List.getElem?_eq_some_iff.mp h1).1
  | ns es => obtain ⟨vs, n, e, r⟩ := h; exact ⟨vs, n, e, r.mono⟩
theorem RO.notFreed {P : Params} {ad : List Addr} {o : O} {x : Obj} (h : RO P ad o x) : x.isFreed = false := by
  cases o with
  | list xs => obtain ⟨vs, n, e, r⟩ := h; subst e; rfl
  | tuple xs => obtain ⟨vs, n, e, r⟩ := h; subst e; rfl
  | inst C d => obtain ⟨a, h1, h2⟩ := h; subst h2; rfl
  | ns es => obtain ⟨vs, n, e, r⟩ := h; subst e; rfl
theorem RVs.length {ad : List Addr} {v : List V} {x : List Value} (h : RVs ad v x) : v.length = x.length := by
  induction h with
  | nil => rfl
  | cons _ _ ih => simp [ih]
theorem RVs.get {ad : List Addr} {v : List V} {x : List Value} (h : RVs ad v x) : ∀ {i : Nat} {a : V}, v[i]? = some a → ∃ u, x[i]? = some u ∧ RV ad a u := by
  induction h with
  | nil => intro i a h; simp at h
  | cons r _ ih =>
    intro i a h
    cases i with
    | zero => simp at h; subst h; exact ⟨_, rfl, r⟩
    | succ i => simp at h; obtain ⟨u, h1, h2⟩ := ih h; exact ⟨u, by simpa using h1, h2⟩

structure Cx where
  prog : Program
  w : World
  G : Heap
  gob : List (Addr × O)
  glo : List (Str × Value)
  mg : Str → Option Value
  mb : Str → Option Value

abbrev Cx.wg (C : Cx) (l : List (Str × Value)) : Cx := { C with glo := l }
def nmOk (x : Str) : Bool := !(x == ("__debug__" : Str)) && !(x == ("__classdict__" : Str))
theorem nmOk_d {x : Str} (h : nmOk x = true) : (x == ("__debug__" : Str)) = false := by unfold nmOk at h; simp at h ⊢; exact h.1
theorem nmOk_c {x : Str} (h : nmOk x = true) : (x == ("__classdict__" : Str)) = false := by unfold nmOk at h; simp at h ⊢; exact h.2
/-- an object of the base, as read -/
def GO (P : Params) (h : Heap) (a : Addr) : O → Prop
  | .list xs => ∃ vs, h.IsList a vs ∧ RVs [] xs vs.toList
  | .tuple xs => ∃ vs, h.IsTuple a vs ∧ RVs [] xs vs.toList
  | o => ∃ ob, h.get? a = some ob ∧ RO P [] o ob
theorem GO.keeps {P : Params} {h h' : Heap} {a : Addr} {o : O} (x : GO P h a o) (k : ∀ b o, h.get? b = some o → h'.get? b = some o) : GO P h' a o := by
  cases o with
  | list xs => obtain ⟨vs, ⟨o, ho, r⟩, r2⟩ := x; exact ⟨vs, ⟨o, k _ _ ho, r⟩, r2⟩
  | tuple xs => obtain ⟨vs, ⟨o, ho, r⟩, r2⟩ := x; exact ⟨vs, ⟨o, k _ _ ho, r⟩, r2⟩
  | inst C d => obtain ⟨ob, h1, h2⟩ := x; exact ⟨ob, k _ _ h1, h2⟩
  | ns es => obtain ⟨ob, h1, h2⟩ := x; exact ⟨ob, k _ _ h1, h2⟩
structure Cx.Ok (C : Cx) : Prop where
  gob : ∀ a o, (a, o) ∈ C.gob → GO C.w.params C.G a o
  g : C.G.Ns mainGlobals C.mg
  b : C.G.Ns builtinsNs C.mb
  glo : ∀ x v, (x, v) ∈ C.glo → C.mg x = some v ∨ (C.mg x = none ∧ C.mb x = some v)
  lim : C.G.NoLimit

structure HR (C : Cx) (ad : List Addr) (σ : AH) (h : Heap) : Prop where
  ok : C.Ok
  keep : ∀ b o, C.G.get? b = some o → h.get? b = some o
  len : ad.length = σ.length
  nd : ad.Nodup
  off : ∀ a ∈ ad, C.G.get? a = none
  low : ∀ a ∈ ad, a ≠ sysModules
  obj : ∀ (i : Nat) (o : O) (a : Addr), σ[i]? = some o → ad[i]? = some a → ∃ ob, h.get? a = some ob ∧ RO C.w.params ad o ob

def fa (env : Env) : List Addr := env.locals :: env.cells.map (·.2)

structure ER (C : Cx) (env : Env) (ρ : Loc) (ad : List Addr) (h : Heap) : Prop where
  kind : env.scope.kind = .function
  glob : env.globals = mainGlobals
  blt : env.builtins = builtinsNs
  nd : (ρ.map (·.1)).Nodup
  kd : ∀ x v, (x, v) ∈ ρ → env.kindOf x = some .local ∨ ((env.kindOf x = some .cell ∨ env.kindOf x = some .free) ∧ (env.cells.lookup x).isSome = true)
  m : ∃ m, h.Ns env.locals m ∧ ∀ x v, (x, some v) ∈ ρ → env.kindOf x = some .local → ∃ u, m x = some u ∧ RV ad v u
  cell : ∀ x c, env.cells.lookup x = some c → ∃ o w, h.get? c = some o ∧ o.data = .cell w ∧ (∀ v, (x, some v) ∈ ρ → env.kindOf x ≠ some .local → ∃ u, w = some u ∧ RV ad v u)
  cinj : ∀ x y c, env.cells.lookup x = some c → env.cells.lookup y = some c → x = y
  cl : ∀ x c, env.cells.lookup x = some c → c ≠ env.locals
  off : ∀ a ∈ fa env, C.G.get? a = none ∧ a ∉ ad
  lt : ∀ a ∈ fa env, a < h.objs.size
  nm : ∀ x v, (x, v) ∈ ρ → nmOk x = true
  gk : ∀ x v, (x, v) ∈ C.glo → env.kindOf x = some .globalImplicit ∧ nmOk x = true

structure Nx (C : Cx) (ch : List Addr) (ad : List Addr) (s : Shared) (ad' : List Addr) (σ' : AH) (s' : Shared) : Prop where
  eq : ∃ h tk, s' = { s with heap := h, toks := tk }
  pre : ∃ nw, ad' = ad ++ nw ∧ ∀ a ∈ nw, s.heap.objs.size ≤ a
  size : s.heap.objs.size ≤ s'.heap.objs.size
  same : ∀ b o, s.heap.get? b = some o → b ∉ ad → b ∉ ch → s'.heap.get? b = some o
  hr : HR C ad' σ' s'.heap

theorem mem_cells {env : Env} {x : Str} {c : Addr} (h : env.cells.lookup x = some c) : c ∈ fa env := by
  unfold fa
  refine List.mem_cons_of_mem _ ?_
  generalize env.cells = l at h
  induction l with
  | nil => simp at h
  | cons p r ih =>
    obtain ⟨y, d⟩ := p
    simp only [List.lookup_cons] at h
    split at h
    · cases h; simp
    · simp only [List.map_cons, List.mem_cons]; exact .inr (ih h)

theorem Nx.refl {C : Cx} {ch ad : List Addr} {σ : AH} {s : Shared} (h : HR C ad σ s.heap) : Nx C ch ad s ad σ s :=
  ⟨⟨s.heap, s.toks, rfl⟩, ⟨[], by simp, by simp⟩, Nat.le_refl _, fun _ _ e _ _ => e, h⟩
theorem Nx.tok {C : Cx} {ch ad : List Addr} {σ : AH} {s : Shared} (t : Nat) (h : HR C ad σ s.heap) : Nx C ch ad s ad σ { s with toks := t } :=
  ⟨⟨s.heap, t, rfl⟩, ⟨[], by simp, by simp⟩, Nat.le_refl _, fun _ _ e _ _ => e, h⟩
theorem Nx.trans {C : Cx} {ch ad ad1 ad2 : List Addr} {σ1 σ2 : AH} {s s1 s2 : Shared} (a : Nx C ch ad s ad1 σ1 s1) (b : Nx C ch ad1 s1 ad2 σ2 s2) : Nx C ch ad s ad2 σ2 s2 := by
  obtain ⟨h1, t1, e1⟩ := a.eq
  obtain ⟨h2, t2, e2⟩ := b.eq
  obtain ⟨n1, p1, q1⟩ := a.pre
  obtain ⟨n2, p2, q2⟩ := b.pre
  refine ⟨⟨h2, t2, by rw [e2, e1]⟩, ⟨n1 ++ n2, by rw [p2, p1, List.append_assoc], ?_⟩, Nat.le_trans a.size b.size, ?_, b.hr⟩
  · intro x hx
    rcases List.mem_append.mp hx with hx | hx
    · exact q1 x hx
    · exact Nat.le_trans a.size (q2 x hx)
  · intro x o e n c
    refine b.same x o (a.same x o e n c) ?_ c
    rw [p1]
    intro hx
    rcases List.mem_append.mp hx with hx | hx
    · exact n hx
    · exact absurd (Heap.lt_size e) (Nat.not_lt.mpr (q1 x hx))
theorem Nx.weak {C : Cx} {ch ad ad1 : List Addr} {σ1 : AH} {s s1 : Shared} (a : Nx C [] ad s ad1 σ1 s1) : Nx C ch ad s ad1 σ1 s1 :=
  ⟨a.eq, a.pre, a.size, fun b o e n _ => a.same b o e n (by simp), a.hr⟩
theorem Nx.rv {C : Cx} {ch ad ad1 : List Addr} {σ1 : AH} {s s1 : Shared} (a : Nx C ch ad s ad1 σ1 s1) {v : V} {x : Value} (h : RV ad v x) : RV ad1 v x := by
  obtain ⟨n1, p1, q1⟩ := a.pre; rw [p1]; exact h.mono
theorem Nx.rvs {C : Cx} {ch ad ad1 : List Addr} {σ1 : AH} {s s1 : Shared} (a : Nx C ch ad s ad1 σ1 s1) {v : List V} {x : List Value} (h : RVs ad v x) : RVs ad1 v x := by
  obtain ⟨n1, p1, q1⟩ := a.pre; rw [p1]; exact h.mono

theorem ER.next {C : Cx} {env : Env} {ρ : Loc} {ad ad1 : List Addr} {σ1 : AH} {s s1 : Shared} (r : ER C env ρ ad s.heap) (a : Nx C [] ad s ad1 σ1 s1) : ER C env ρ ad1 s1.heap := by
  have keep : ∀ b ∈ fa env, ∀ o, s.heap.get? b = some o → s1.heap.get? b = some o := fun b hb o e => a.same b o e (r.off b hb).2 (by simp)
  refine ⟨r.kind, r.glob, r.blt, r.nd, r.kd, ?_, ?_, r.cinj, r.cl, ?_, fun b hb => Nat.lt_of_lt_of_le (r.lt b hb) a.size, r.nm, r.gk⟩
  · obtain ⟨m, hm, h⟩ := r.m
    refine ⟨m, hm.at' fun o e => keep _ (by simp [fa]) o e, fun x v hx hk => ?_⟩
    obtain ⟨u, h1, h2⟩ := h x v hx hk
    exact ⟨u, h1, a.rv h2⟩
  · intro x c hc
    obtain ⟨o, w, h1, h2, h3⟩ := r.cell x c hc
    refine ⟨o, w, keep c (mem_cells hc) o h1, h2, fun v hv hk => ?_⟩
    obtain ⟨u, e, hu⟩ := h3 v hv hk
    exact ⟨u, e, a.rv hu⟩
  · intro b hb
    refine ⟨(r.off b hb).1, ?_⟩
    obtain ⟨n1, p1, q1⟩ := a.pre
    rw [p1]
    intro hx
    rcases List.mem_append.mp hx with hx | hx
    · exact (r.off b hb).2 hx
    · exact absurd (r.lt b hb) (Nat.not_lt.mpr (q1 b hx))

end Mine

-- part Aw2
set_option autoImplicit false
set_option linter.unusedVariables false
namespace Mine
open PySem PyProof.Rows

inductive Fl where
  | next
  | brk
  | cont
  | ret (v : V)
def RF (ad : List Addr) : Fl → Flow → Prop
  | .next, f => f = .next
  | .brk, f => f = .brk
  | .cont, f => f = .cont
  | .ret v, f => ∃ u, f = .ret u ∧ RV ad v u

/- the syntax looked at, cheaply -/
def isCompE : Expr → Bool
  | .ListComp .. => true
  | .SetComp .. => true
  | .DictComp .. => true
  | _ => false
theorem swaps_not {e : Expr} {t : Option Expr} {l : Nat} {env : Env} (h : isCompE e = false) : swapsWith e t l env = pure false := by
  cases e <;> first | rfl | cases h
def isSetE : Expr → Bool
  | .Set .. => true
  | _ => false
theorem folded_not {e : Expr} {env : Env} (h : isSetE e = false) : ∀ x, foldedSetIterable e env x = pure x := by
  intro x
  cases e <;> first | rfl | cases h
theorem marks_not {op : CmpOp} {e : Expr} (h : isSetE e = false) : behindInMarks op e = false := by
  cases e <;> first | rfl | cases h
def starE : Expr → Bool
  | .Starred .. => true
  | _ => false
theorem star_not {e : Expr} {es : List Expr} {env : Env} (h : starE e = false) : starEach (e :: es) env = (false, eval e env) :: starEach es env := by
  cases e <;> first | rfl | cases h
theorem assign_not {e : Expr} {es : List Expr} {env : Env} (h : starE e = false) : assignEach (e :: es) env = (false, assign e env) :: assignEach es env := by
  cases e <;> first | rfl | cases h
def plainTest : Expr → Bool
  | .UnaryOp .Not _ _ => false
  | .BoolOp .. => false
  | .IfExp .. => false
  | .Compare .. => false
  | _ => true
theorem test_plain {e : Expr} {env : Env} (h : plainTest e = true) : ∀ whole, isTrue e env whole = (do let v ← whole; standAt e.pos; holding [v] (truthy v)) := by
  intro w
  cases e with
  | UnaryOp op x p => cases op <;> first | rfl | cases h
  | _ => first | rfl | cases h

abbrev EX := Value → Shared → Prop
def PE (C : Cx) (ad : List Addr) (s : Shared) (Q : V → AH → Prop) : Value → Shared → Prop :=
  fun u s' => ∃ ad' σ' v, Nx C [] ad s ad' σ' s' ∧ RV ad' v u ∧ Q v σ'
def PB (C : Cx) (ad : List Addr) (s : Shared) (Q : Bool → AH → Prop) : Bool → Shared → Prop :=
  fun u s' => ∃ ad' σ', Nx C [] ad s ad' σ' s' ∧ Q u σ'
def PL (C : Cx) (ad : List Addr) (s : Shared) (Q : List V → AH → Prop) : List Value → Shared → Prop :=
  fun u s' => ∃ ad' σ' v, Nx C [] ad s ad' σ' s' ∧ RVs ad' v u ∧ Q v σ'
def PS (C : Cx) (env : Env) (ad : List Addr) (s : Shared) (Q : Fl → Loc → AH → Prop) : Flow → Shared → Prop :=
  fun f s' => ∃ ad' σ' ρ' fl, Nx C (fa env) ad s ad' σ' s' ∧ ER C env ρ' ad' s'.heap ∧ RF ad' fl f ∧ Q fl ρ' σ'

structure WE (C : Cx) (A : Around) (env : Env) (e : Expr) (ρ : Loc) (σ : AH) (Q : V → AH → Prop) (E : EX) : Prop where
  run : ∀ ad s, HR C ad σ s.heap → ER C env ρ ad s.heap → wpAny (model C.prog C.w) A (eval e env) (PE C ad s Q) E s
structure WB (C : Cx) (A : Around) (env : Env) (e : Expr) (ρ : Loc) (σ : AH) (Q : Bool → AH → Prop) (E : EX) : Prop where
  run : ∀ ad s, HR C ad σ s.heap → ER C env ρ ad s.heap → wpAny (model C.prog C.w) A (isTrue e env (eval e env)) (PB C ad s Q) E s
structure WL (C : Cx) (A : Around) (env : Env) (es : List Expr) (ρ : Loc) (σ : AH) (Q : List V → AH → Prop) (E : EX) : Prop where
  run : ∀ ad s pos, HR C ad σ s.heap → ER C env ρ ad s.heap → wpAny (model C.prog C.w) A (spliced (backTo pos (starEach es env))) (PL C ad s Q) E s
structure WS (C : Cx) (A : Around) (env : Env) (st : Stmt) (ρ : Loc) (σ : AH) (Q : Fl → Loc → AH → Prop) (E : EX) : Prop where
  run : ∀ ad s, HR C ad σ s.heap → ER C env ρ ad s.heap → wpAny (model C.prog C.w) A (exec st env) (PS C env ad s Q) E s
structure WSs (C : Cx) (A : Around) (env : Env) (st : List Stmt) (ρ : Loc) (σ : AH) (Q : Fl → Loc → AH → Prop) (E : EX) : Prop where
  run : ∀ ad s, HR C ad σ s.heap → ER C env ρ ad s.heap → wpAny (model C.prog C.w) A (execs st env) (PS C env ad s Q) E s
structure WOp2 (C : Cx) (A : Around) (t : Value → Value → Sem Value) (a b : V) (σ : AH) (Q : V → AH → Prop) (E : EX) : Prop where
  run : ∀ ad s x y, HR C ad σ s.heap → RV ad a x → RV ad b y → wpAny (model C.prog C.w) A (t x y) (PE C ad s Q) E s
structure WOp1 (C : Cx) (A : Around) (t : Value → Sem Value) (a : V) (σ : AH) (Q : V → AH → Prop) (E : EX) : Prop where
  run : ∀ ad s x, HR C ad σ s.heap → RV ad a x → wpAny (model C.prog C.w) A (t x) (PE C ad s Q) E s
structure WTr (C : Cx) (A : Around) (a : V) (σ : AH) (Q : Bool → AH → Prop) (E : EX) : Prop where
  run : ∀ ad s x, HR C ad σ s.heap → RV ad a x → wpAny (model C.prog C.w) A (truthy x) (PB C ad s Q) E s
structure WC (C : Cx) (A : Around) (f : Value) (args : List V) (σ : AH) (Q : V → AH → Prop) (E : EX) : Prop where
  run : ∀ ad s xs, HR C ad σ s.heap → RVs ad args xs → wpAny (model C.prog C.w) A (call f xs) (PE C ad s Q) E s

section
variable {C : Cx} {A : Around} {env : Env} {ρ : Loc} {σ : AH} {E : EX}

theorem PE.trans {ad ad1 : List Addr} {s s1 s' : Shared} {σ1 : AH} {Q : V → AH → Prop} {u : Value} (n : Nx C [] ad s ad1 σ1 s1) (p : PE C ad1 s1 Q u s') : PE C ad s Q u s' := by
  obtain ⟨ad', σ', v, a, b, c⟩ := p
  exact ⟨ad', σ', v, n.trans a, b, c⟩
theorem PB.trans {ad ad1 : List Addr} {s s1 s' : Shared} {σ1 : AH} {Q : Bool → AH → Prop} {u : Bool} (n : Nx C [] ad s ad1 σ1 s1) (p : PB C ad1 s1 Q u s') : PB C ad s Q u s' := by
  obtain ⟨ad', σ', a, c⟩ := p
  exact ⟨ad', σ', n.trans a, c⟩
theorem PS.trans {ad ad1 : List Addr} {s s1 s' : Shared} {σ1 : AH} {Q : Fl → Loc → AH → Prop} {u : Flow} (n : Nx C (fa env) ad s ad1 σ1 s1) (p : PS C env ad1 s1 Q u s') : PS C env ad s Q u s' := by
  obtain ⟨ad', σ', ρ', fl, a, b, c⟩ := p
  exact ⟨ad', σ', ρ', fl, n.trans a, b, c⟩

/- expressions -/
theorem WE_int {i : Int} {k : Nat} {pos : Pos} {Q : V → AH → Prop} (h : Q (.int i) σ) : WE C A env (.Constant (.int i) k pos) ρ σ Q E := .mk <|
  fun ad s hr _ => wpAny_Constant_int ⟨ad, σ, .int i, Nx.tok _ hr, ⟨_, rfl⟩, h⟩
theorem WE_str {i : Str} {k : Nat} {pos : Pos} {Q : V → AH → Prop} (h : Q (.str i) σ) : WE C A env (.Constant (.str i) k pos) ρ σ Q E := .mk <|
  fun ad s hr _ => wpAny_Constant_str ⟨ad, σ, .str i, Nx.tok _ hr, ⟨_, rfl⟩, h⟩
theorem WE_BinOp {l r : Expr} {op : Operator} {pos : Pos} {Q : V → AH → Prop}
    (h : WE C A env l ρ σ (fun a σ1 => WE C A env r ρ σ1 (fun b σ2 => WOp2 C A (binaryOp op) a b σ2 Q E) E) E) : WE C A env (.BinOp l op r pos) ρ σ Q E := by
  refine ⟨?_⟩
  intro ad s hr er
  refine wpAny_BinOp (wpAny_mono (h.run ad s hr er) ?_ fun _ _ x => x)
  rintro a s1 ⟨ad1, σ1, va, n1, r1, h1⟩
  refine wpAny_mono (h1.run ad1 s1 n1.hr (er.next n1)) ?_ fun _ _ x => x
  rintro b s2 ⟨ad2, σ2, vb, n2, r2, h2⟩
  exact wpAny_mono (h2.run ad2 s2 a b n2.hr (n2.rv r1) r2) (fun u s' p => PE.trans (n1.trans n2) p) fun _ _ x => x
theorem WE_UnaryOp {x : Expr} {op : UnaryOp} {pos : Pos} {Q : V → AH → Prop}
    (h : WE C A env x ρ σ (fun a σ1 => WOp1 C A (unaryOp op) a σ1 Q E) E) : WE C A env (.UnaryOp op x pos) ρ σ Q E := by
  refine ⟨?_⟩
  intro ad s hr er
  refine wpAny_UnaryOp (wpAny_mono (h.run ad s hr er) ?_ fun _ _ x => x)
  rintro a s1 ⟨ad1, σ1, va, n1, r1, h1⟩
  exact wpAny_mono (h1.run ad1 s1 a n1.hr r1) (fun u s' p => PE.trans n1 p) fun _ _ x => x
theorem WE_Compare1 {l r : Expr} {op : CmpOp} {pos : Pos} {Q : V → AH → Prop}
    (h : WE C A env l ρ σ (fun a σ1 => WE C A env r ρ σ1 (fun b σ2 => WOp2 C A (compareOp op) a b σ2 Q E) E) E)
    (hm : isSetE r = false := by rfl) : WE C A env (.Compare l [op] [r] pos) ρ σ Q E := by
  refine ⟨?_⟩
  intro ad s hr er
  refine wpAny_Compare1 (wpAny_mono (h.run ad s hr er) ?_ fun _ _ x => x) (marks_not hm)
  rintro a s1 ⟨ad1, σ1, va, n1, r1, h1⟩
  refine wpAny_mono (h1.run ad1 s1 n1.hr (er.next n1)) ?_ fun _ _ x => x
  rintro b s2 ⟨ad2, σ2, vb, n2, r2, h2⟩
  exact wpAny_mono (h2.run ad2 s2 a b n2.hr (n2.rv r1) r2) (fun u s' p => PE.trans (n1.trans n2) p) fun _ _ x => x
theorem WB_Compare1 {l r : Expr} {op : CmpOp} {pos : Pos} {Q : Bool → AH → Prop}
    (h : WE C A env l ρ σ (fun a σ1 => WE C A env r ρ σ1 (fun b σ2 => WOp2 C A (compareOp op) a b σ2 (fun c σ3 => WTr C A c σ3 Q E) E) E) E)
    (hm : isSetE r = false := by rfl) : WB C A env (.Compare l [op] [r] pos) ρ σ Q E := by
  refine ⟨?_⟩
  intro ad s hr er
  refine wpAny_isTrue_Compare1 (wpAny_mono (h.run ad s hr er) ?_ fun _ _ x => x) (marks_not hm)
  rintro a s1 ⟨ad1, σ1, va, n1, r1, h1⟩
  refine wpAny_mono (h1.run ad1 s1 n1.hr (er.next n1)) ?_ fun _ _ x => x
  rintro b s2 ⟨ad2, σ2, vb, n2, r2, h2⟩
  refine wpAny_mono (h2.run ad2 s2 a b n2.hr (n2.rv r1) r2) ?_ fun _ _ x => x
  rintro c s3 ⟨ad3, σ3, vc, n3, r3, h3⟩
  exact wpAny_mono (h3.run ad3 s3 c n3.hr r3) (fun u s' p => PB.trans ((n1.trans n2).trans n3) p) fun _ _ x => x
theorem WTr_bool {b : Bool} {Q : Bool → AH → Prop} (h : Q b σ) : WTr C A (.bool b) σ Q E := by
  refine ⟨?_⟩
  rintro ad s x hr rfl
  exact wpAny_truthy_bool ⟨ad, σ, Nx.refl hr, h⟩
theorem WB_plain {e : Expr} {Q : Bool → AH → Prop} (h : WE C A env e ρ σ (fun v σ1 => WTr C A v σ1 Q E) E)
    (hp : plainTest e = true := by rfl) : WB C A env e ρ σ Q E := by
  refine ⟨?_⟩
  intro ad s hr er
  rw [test_plain hp]
  refine wpAny_bind (wpAny_mono (h.run ad s hr er) ?_ fun _ _ x => x)
  rintro a s1 ⟨ad1, σ1, va, n1, r1, h1⟩
  exact wpAny_bind (wpAny_standAt (wpAny_holding (wpAny_mono (h1.run ad1 s1 a n1.hr r1) (fun u s' p => PB.trans n1 p) fun _ _ x => x)))
theorem WB_Not {x : Expr} {pos : Pos} {Q : Bool → AH → Prop} (h : WB C A env x ρ σ (fun b σ1 => Q (!b) σ1) E) : WB C A env (.UnaryOp .Not x pos) ρ σ Q E := by
  refine ⟨?_⟩
  intro ad s hr er
  refine isTrue_not (wpAny_mono (h.run ad s hr er) ?_ fun _ _ x => x)
  rintro b s1 ⟨ad1, σ1, n1, h1⟩
  exact ⟨ad1, σ1, n1, h1⟩
theorem WB_and_nil {pos : Pos} {Q : Bool → AH → Prop} (h : Q true σ) : WB C A env (.BoolOp .And [] pos) ρ σ Q E := .mk fun ad _ hr _ => isTrue_and_nil ⟨ad, σ, Nx.refl hr, h⟩
theorem WB_or_nil {pos : Pos} {Q : Bool → AH → Prop} (h : Q false σ) : WB C A env (.BoolOp .Or [] pos) ρ σ Q E := .mk fun ad _ hr _ => isTrue_or_nil ⟨ad, σ, Nx.refl hr, h⟩
theorem isTrue_BoolOp_whole {op : BoolOp} {vs : List Expr} {pos : Pos} (x y : Sem Value) : isTrue (.BoolOp op vs pos) env x = isTrue (.BoolOp op vs pos) env y := rfl
theorem WB_and {x : Expr} {rest : List Expr} {pos : Pos} {Q : Bool → AH → Prop} (h : WB C A env x ρ σ (fun b σ1 => if b then WB C A env (.BoolOp .And rest pos) ρ σ1 Q E else Q false σ1) E) :
    WB C A env (.BoolOp .And (x :: rest) pos) ρ σ Q E := by
  refine ⟨?_⟩
  intro ad s hr er
  refine isTrue_and (wpAny_mono (h.run ad s hr er) ?_ fun _ _ x => x)
  rintro b s1 ⟨ad1, σ1, n1, h1⟩
  cases b with
  | false => exact ⟨ad1, σ1, n1, h1⟩
  | true => rw [isTrue_BoolOp_whole _ (eval (.BoolOp .And rest pos) env)]; exact wpAny_mono (h1.run ad1 s1 n1.hr (er.next n1)) (fun u s' p => PB.trans n1 p) fun _ _ x => x
theorem WB_or {x : Expr} {rest : List Expr} {pos : Pos} {Q : Bool → AH → Prop} (h : WB C A env x ρ σ (fun b σ1 => if b then Q true σ1 else WB C A env (.BoolOp .Or rest pos) ρ σ1 Q E) E) :
    WB C A env (.BoolOp .Or (x :: rest) pos) ρ σ Q E := by
  refine ⟨?_⟩
  intro ad s hr er
  refine isTrue_or (wpAny_mono (h.run ad s hr er) ?_ fun _ _ x => x)
  rintro b s1 ⟨ad1, σ1, n1, h1⟩
  cases b with
  | true => exact ⟨ad1, σ1, n1, h1⟩
  | false => rw [isTrue_BoolOp_whole _ (eval (.BoolOp .Or rest pos) env)]; exact wpAny_mono (h1.run ad1 s1 n1.hr (er.next n1)) (fun u s' p => PB.trans n1 p) fun _ _ x => x
theorem WE_IfExp {test body orelse : Expr} {pos : Pos} {Q : V → AH → Prop} (h : WB C A env test ρ σ (fun b σ1 => if b then WE C A env body ρ σ1 Q E else WE C A env orelse ρ σ1 Q E) E) :
    WE C A env (.IfExp test body orelse pos) ρ σ Q E := by
  refine ⟨?_⟩
  intro ad s hr er
  refine wpAny_IfExp (wpAny_mono (h.run ad s hr er) ?_ fun _ _ x => x)
  rintro b s1 ⟨ad1, σ1, n1, h1⟩
  cases b with
  | true => exact wpAny_mono (h1.run ad1 s1 n1.hr (er.next n1)) (fun u s' p => PE.trans n1 p) fun _ _ x => x
  | false => exact wpAny_mono (h1.run ad1 s1 n1.hr (er.next n1)) (fun u s' p => PE.trans n1 p) fun _ _ x => x
/- lists of expressions -/
theorem WL_nil {Q : List V → AH → Prop} (h : Q [] σ) : WL C A env [] ρ σ Q E := .mk fun ad _ _ hr _ => Calls.spliced_nil ⟨ad, σ, [], Nx.refl hr, .nil, h⟩
theorem WL_cons {e : Expr} {es : List Expr} {Q : List V → AH → Prop} (h : WE C A env e ρ σ (fun v σ1 => WL C A env es ρ σ1 (fun vs σ2 => Q (v :: vs) σ2) E) E)
    (he : starE e = false := by rfl) : WL C A env (e :: es) ρ σ Q E := by
  refine ⟨?_⟩
  intro ad s pos hr er
  rw [star_not he]
  refine Calls.spliced_cons (wpAny_mono (h.run ad s hr er) ?_ fun _ _ x => x)
  rintro a s1 ⟨ad1, σ1, va, n1, r1, h1⟩
  refine wpAny_mono (h1.run ad1 s1 pos n1.hr (er.next n1)) ?_ fun _ _ x => x
  rintro b s2 ⟨ad2, σ2, vb, n2, r2, h2⟩
  exact ⟨ad2, σ2, va :: vb, n1.trans n2, .cons (n2.rv r1) r2, h2⟩

/- names -/
theorem WE_name {x : Str} {pos : Pos} {v : V} {Q : V → AH → Prop} (hx : (x, some v) ∈ ρ) (h : Q v σ) :
    WE C A env (.Name x pos) ρ σ Q E := by
  refine ⟨?_⟩
  intro ad s hr er
  have hn := nmOk_c (er.nm x _ hx)
  refine wpAny_Name ?_ (nmOk_d (er.nm x _ hx))
  rcases er.kd x _ hx with hk | ⟨hk, hc⟩
  · obtain ⟨m, hm, h1⟩ := er.m
    obtain ⟨u, hu, rv⟩ := h1 x v hx hk
    exact wpAny_loadName_local er.kind hk hm hu ⟨ad, σ, v, Nx.refl hr, rv, h⟩
  · obtain ⟨c, hc⟩ := Option.isSome_iff_exists.mp hc
    obtain ⟨o, w, ho, hw, hv⟩ := er.cell x c hc
    obtain ⟨u, e, rv⟩ := hv v hx (by rcases hk with hk | hk <;> rw [hk] <;> simp)
    subst e
    rcases hk with hk | hk
    · exact wpAny_loadName_cell er.kind hk hc ⟨o, ho, hw⟩ ⟨ad, σ, v, Nx.refl hr, rv, h⟩
    · exact wpAny_loadName_free er.kind hk hc ⟨o, ho, hw⟩ ⟨ad, σ, v, Nx.refl hr, rv, h⟩ hn
theorem WE_glob {C : Cx} {l : List (Str × Value)} {x : Str} {pos : Pos} {v : Value} {Q : V → AH → Prop} (hx : (x, v) ∈ l) (h : Q (.k v) σ) :
    WE (C.wg l) A env (.Name x pos) ρ σ Q E := by
  refine ⟨?_⟩
  intro ad s hr er
  obtain ⟨hk, hn⟩ := er.gk x v hx
  refine Calls.Name_function_global er.kind hk ?_ (nmOk_d hn)
  have fin : PE (C.wg l) ad s Q v s := ⟨ad, σ, .k v, Nx.refl hr, rfl, h⟩
  rcases hr.ok.glo x v hx with e | ⟨e1, e2⟩
  · exact Calls.loadGlobal_global (by rw [er.glob]; exact hr.ok.g.keeps hr.keep) e fin
  · exact Calls.loadGlobal_builtin (by rw [er.glob]; exact hr.ok.g.keeps hr.keep) e1 (by rw [er.blt]; exact hr.ok.b.keeps hr.keep) e2 fin

/- statements -/
theorem PS.ofE {ad : List Addr} {s s1 : Shared} {ad1 : List Addr} {σ1 : AH} {Q : Fl → Loc → AH → Prop} {fl : Fl} {f : Flow} (er : ER C env ρ ad s.heap) (n : Nx C [] ad s ad1 σ1 s1) (hf : RF ad1 fl f) (h : Q fl ρ σ1) : PS C env ad s Q f s1 :=
  ⟨ad1, σ1, ρ, fl, n.weak, er.next n, hf, h⟩
theorem WSs_nil {Q : Fl → Loc → AH → Prop} (h : Q .next ρ σ) : WSs C A env [] ρ σ Q E := .mk fun ad s hr er => wpAny_execs_nil ⟨ad, σ, ρ, .next, Nx.refl hr, er, rfl, h⟩
structure Thn (C : Cx) (A : Around) (env : Env) (rest : List Stmt) (Q : Fl → Loc → AH → Prop) (E : EX) (fl : Fl) (ρ : Loc) (σ : AH) : Prop where
  run : match fl with
    | .next => WSs C A env rest ρ σ Q E
    | f => Q f ρ σ
theorem Thn_next {rest : List Stmt} {Q : Fl → Loc → AH → Prop} (h : WSs C A env rest ρ σ Q E) : Thn C A env rest Q E .next ρ σ := ⟨h⟩
theorem Thn_ret {rest : List Stmt} {Q : Fl → Loc → AH → Prop} {v : V} (h : Q (.ret v) ρ σ) : Thn C A env rest Q E (.ret v) ρ σ := ⟨h⟩
theorem WSs_cons {st : Stmt} {rest : List Stmt} {Q : Fl → Loc → AH → Prop} (h : WS C A env st ρ σ (Thn C A env rest Q E) E) : WSs C A env (st :: rest) ρ σ Q E := by
  refine ⟨?_⟩
  intro ad s hr er
  refine wpAny_execs_cons (wpAny_mono (h.run ad s hr er) ?_ fun _ _ x => x)
  rintro f s1 ⟨ad1, σ1, ρ1, fl, n1, e1, r1, ⟨h1⟩⟩
  cases fl with
  | next => cases r1; exact wpAny_mono (h1.run ad1 s1 n1.hr e1) (fun u s' p => PS.trans n1 p) fun _ _ x => x
  | brk => cases r1; exact ⟨ad1, σ1, ρ1, .brk, n1, e1, rfl, h1⟩
  | cont => cases r1; exact ⟨ad1, σ1, ρ1, .cont, n1, e1, rfl, h1⟩
  | ret v => obtain ⟨u, rfl, ru⟩ := r1; exact ⟨ad1, σ1, ρ1, .ret v, n1, e1, ⟨u, rfl, ru⟩, h1⟩
theorem WS_return {e : Expr} {pos : Pos} {Q : Fl → Loc → AH → Prop} (h : WE C A env e ρ σ (fun v σ1 => Q (.ret v) ρ σ1) E) : WS C A env (.Return (some e) pos) ρ σ Q E := by
  refine ⟨?_⟩
  intro ad s hr er
  refine wpAny_Return_some (wpAny_mono (h.run ad s hr er) ?_ fun _ _ x => x)
  rintro a s1 ⟨ad1, σ1, va, n1, r1, h1⟩
  exact PS.ofE er n1 (fl := .ret va) ⟨a, rfl, r1⟩ h1
theorem WS_if {test : Expr} {body orelse : List Stmt} {pos : Pos} {Q : Fl → Loc → AH → Prop} (h : WB C A env test ρ σ (fun b σ1 => if b then WSs C A env body ρ σ1 Q E else WSs C A env orelse ρ σ1 Q E) E) : WS C A env (.If test body orelse pos) ρ σ Q E := by
  refine ⟨?_⟩
  intro ad s hr er
  refine wpAny_If (wpAny_mono (h.run ad s hr er) ?_ fun _ _ x => x)
  rintro b s1 ⟨ad1, σ1, n1, h1⟩
  cases b with
  | true => exact wpAny_mono (h1.run ad1 s1 n1.hr (er.next n1)) (fun u s' p => PS.trans n1.weak p) fun _ _ x => x
  | false => exact wpAny_mono (h1.run ad1 s1 n1.hr (er.next n1)) (fun u s' p => PS.trans n1.weak p) fun _ _ x => x

inductive Up (x : Str) (v : Option V) : Loc → Loc → Prop
  | head {w : Option V} {r : Loc} : Up x v ((x, w) :: r) ((x, v) :: r)
  | tail {p : Str × Option V} {r r' : Loc} : Up x v r r' → Up x v (p :: r) (p :: r')
theorem Up.names {x : Str} {v : Option V} {r r' : Loc} (h : Up x v r r') : r'.map (·.1) = r.map (·.1) := by
  induction h with
  | head => rfl
  | tail _ ih => simp [ih]
theorem Up.mem {x : Str} {v : Option V} {r r' : Loc} (h : Up x v r r') : ∃ w, (x, w) ∈ r := by
  induction h with
  | head => exact ⟨_, .head _⟩
  | tail _ ih => obtain ⟨w, h⟩ := ih; exact ⟨w, .tail _ h⟩
theorem Up.new {x : Str} {v : Option V} {r r' : Loc} (h : Up x v r r') (nd : (r.map (·.1)).Nodup) : ∀ y w, (y, w) ∈ r' → (y = x ∧ w = v) ∨ (y ≠ x ∧ (y, w) ∈ r) := by
  induction h with
  | @head w0 r =>
    intro y w hm
    rcases List.mem_cons.mp hm with e | hm2
    · cases e; exact .inl ⟨rfl, rfl⟩
    · refine .inr ⟨?_, List.mem_cons_of_mem _ hm2⟩
      intro e
      subst e
      simp only [List.map_cons, List.nodup_cons] at nd
      exact nd.1 (List.mem_map.mpr ⟨(y, w), hm2, rfl⟩)
  | @tail p r r' u ih =>
    intro y w hm
    simp only [List.map_cons, List.nodup_cons] at nd
    rcases List.mem_cons.mp hm with e | hm
    · cases e
      refine .inr ⟨?_, .head _⟩
      rintro rfl
      obtain ⟨w', h'⟩ := u.mem
      exact nd.1 (List.mem_map.mpr ⟨_, h', rfl⟩)
    · rcases ih nd.2 y w hm with h1 | h1
      · exact .inl h1
      · exact .inr ⟨h1.1, .tail _ h1.2⟩

theorem exUp {x : Str} {v : Option V} {ρ ρ' : Loc} {P : Loc → Prop} (h : Up x v ρ ρ') (k : P ρ') : ∃ ρ', Up x v ρ ρ' ∧ P ρ' := ⟨_, h, k⟩
/-- a store of a name -/
theorem store_name {x : Str} {v : V} {ρ' : Loc} {u : Value} {ad : List Addr} {s : Shared} {R : Unit → Shared → Prop} (hr : HR C ad σ s.heap) (er : ER C env ρ ad s.heap) (up : Up x (some v) ρ ρ') (rv : RV ad v u)
    (h : ∀ s', Nx C (fa env) ad s ad σ s' → ER C env ρ' ad s'.heap → R () s') : wpAny (model C.prog C.w) A (storeName env x u) R E s := by
  obtain ⟨w0, hw0⟩ := up.mem
  have hoff : ∀ b ∈ fa env, b ∉ ad ∧ C.G.get? b = none := fun b hb => ⟨(er.off b hb).2, (er.off b hb).1⟩
  have fin : ∀ a h' tk, a ∈ fa env → Heap.SameBut a s.heap h' → HR C ad σ h' ∧ (Nx C (fa env) ad s ad σ { s with heap := h', toks := tk }) := by
    intro a h' tk ha hs
    have hr' : HR C ad σ h' := by
      refine ⟨hr.ok, fun b o e => (hs.2 b ?_).trans (hr.keep b o e), hr.len, hr.nd, hr.off, hr.low, fun i o b h1 h2 => ?_⟩
      · rintro rfl; rw [(hoff b ha).2] at e; cases e
      · obtain ⟨ob, h3, h4⟩ := hr.obj i o b h1 h2
        refine ⟨ob, (hs.2 b ?_).trans h3, h4⟩
        rintro rfl; exact (hoff b ha).1 (List.mem_of_getElem? h2)
    refine ⟨hr', ⟨h', tk, rfl⟩, ⟨[], by simp, by simp⟩, Nat.le_of_eq hs.1.symm, fun b o e _ hc => ?_, hr'⟩
    exact (hs.2 b (fun e' => hc (e' ▸ ha))).trans e
  rcases er.kd x _ hw0 with hk | ⟨hk, hc⟩
  · obtain ⟨m, hm, h1⟩ := er.m
    refine wpAny_storeName_local hk hm (fun h' hn hs => ?_) (by rw [er.kind]; rfl)
    obtain ⟨hr', nx⟩ := fin env.locals h' (s.toks + 1) (by simp [fa]) hs
    refine h _ nx ⟨er.kind, er.glob, er.blt, by rw [up.names]; exact er.nd, fun y w hy => ?_, ⟨_, hn, fun y w hy hyk => ?_⟩, fun y c hc => ?_, er.cinj, er.cl, er.off, fun b hb => by rw [hs.1]; exact er.lt b hb, fun y w hy => ?_, er.gk⟩
    · rcases up.new er.nd y w hy with ⟨rfl, rfl⟩ | ⟨_, hy⟩
      · exact er.kd y _ hw0
      · exact er.kd y w hy
    · rcases up.new er.nd y _ hy with ⟨rfl, e⟩ | ⟨hne, hy⟩
      · cases e; exact ⟨u, by simp, rv⟩
      · simp only [if_neg hne]; exact h1 y w hy hyk
    · obtain ⟨o, w, ho, hw, hv⟩ := er.cell y c hc
      refine ⟨o, w, (hs.2 c (er.cl y c hc)).trans ho, hw, fun v' hv' hk' => ?_⟩
      rcases up.new er.nd y _ hv' with ⟨rfl, e⟩ | ⟨hne, hy⟩
      · exact absurd hk hk'
      · exact hv v' hy hk'
    · rcases up.new er.nd y w hy with ⟨rfl, rfl⟩ | ⟨_, hy⟩
      · exact er.nm y _ hw0
      · exact er.nm y w hy
  · obtain ⟨c, hc⟩ := Option.isSome_iff_exists.mp hc
    obtain ⟨o, w, ho, hw, hv⟩ := er.cell x c hc
    have step : ∀ h', (∃ o', h'.get? c = some o' ∧ o'.data = .cell (some u)) → Heap.SameBut c s.heap h' → R () { s with heap := h' } := by
      rintro h' ⟨o', ho', hd'⟩ hs
      obtain ⟨hr', nx⟩ := fin c h' s.toks (mem_cells hc) hs
      refine h _ nx ⟨er.kind, er.glob, er.blt, by rw [up.names]; exact er.nd, fun y w hy => ?_, ?_, fun y d hd => ?_, er.cinj, er.cl, er.off, fun b hb => by rw [hs.1]; exact er.lt b hb, fun y w hy => ?_, er.gk⟩
      · rcases up.new er.nd y w hy with ⟨rfl, rfl⟩ | ⟨_, hy⟩
        · exact er.kd y _ hw0
        · exact er.kd y w hy
      · obtain ⟨m, hm, h1⟩ := er.m
        refine ⟨m, hm.sameBut hs (Ne.symm (er.cl x c hc)), fun y w hy hyk => ?_⟩
        rcases up.new er.nd y _ hy with ⟨rfl, e⟩ | ⟨hne, hy⟩
        · rcases hk with hk | hk <;> rw [hyk] at hk <;> cases hk
        · exact h1 y w hy hyk
      · by_cases hyx : y = x
        · subst hyx
          rw [hc] at hd; cases hd
          refine ⟨o', _, ho', hd', fun v' hv' _ => ?_⟩
          rcases up.new er.nd y _ hv' with ⟨_, e⟩ | ⟨hne, _⟩
          · cases e; exact ⟨u, rfl, rv⟩
          · exact absurd rfl hne
        · have hdc : d ≠ c := by rintro rfl; exact hyx (er.cinj y x d hd hc)
          obtain ⟨oy, wy, hoy, hwy, hvy⟩ := er.cell y d hd
          refine ⟨oy, wy, (hs.2 d hdc).trans hoy, hwy, fun v' hv' hk' => ?_⟩
          rcases up.new er.nd y _ hv' with ⟨rfl, _⟩ | ⟨_, hy⟩
          · exact absurd rfl hyx
          · exact hvy v' hy hk'
      · rcases up.new er.nd y w hy with ⟨rfl, rfl⟩ | ⟨_, hy⟩
        · exact er.nm y _ hw0
        · exact er.nm y w hy
    rcases hk with hk | hk
    · exact wpAny_storeName_cell er.kind hk hc ⟨o, ho, hw⟩ fun h' hv' hs => step h' hv' hs
    · unfold storeName
      simp only [hk, er.kind]
      exact wpAny_bind (wpAny_cellOf hc (wpAny_cellSet ⟨o, ho, hw⟩ fun h' hv' hs => step h' hv' hs))
theorem WS_assign {x : Str} {p pos : Pos} {e : Expr} {Q : Fl → Loc → AH → Prop} (h : WE C A env e ρ σ (fun v σ1 => ∃ ρ', Up x (some v) ρ ρ' ∧ Q .next ρ' σ1) E)
    (hs : isCompE e = false := by rfl) : WS C A env (.Assign [.Name x p] e pos) ρ σ Q E := by
  refine ⟨?_⟩
  intro ad s hr er
  refine wpAny_Assign_Name (wpAny_mono (h.run ad s hr er) ?_ fun _ _ x => x) (swaps_not hs)
  rintro a s1 ⟨ad1, σ1, va, n1, r1, ρ', up, h1⟩
  exact store_name n1.hr (er.next n1) up r1 fun s' n2 e2 => ⟨ad1, σ1, ρ', .next, n1.weak.trans n2, e2, rfl, h1⟩
end
end Mine

-- part Aw3
set_option autoImplicit false
set_option linter.unusedVariables false
namespace Mine
open PySem PyProof.Rows

abbrev mkFd (name qual : Str) (params : Arguments) (body : List Stmt) (scope : Scope) (dV kV doc pm : Value) (an : Option Addr) (cdv ct : Value) : FuncData :=
  { name, qualname := qual, params, body := .stmts body, scope, globals := mainGlobals, closure := [], defaults := dV, kwdefaults := kV, doc, pyModule := pm, annotations := an, code := cdv, closureTuple := ct, builtins := builtinsNs }

/-- the frame of a def's call -/
def dEnv (qual : Str) (scope : Scope) (L a : Addr) (cd : Value) : Env :=
  { scope := scope, locals := L, globals := mainGlobals, cells := cellsFrom (L + 1) scope.names [], qual := qual ++ ".<locals>.", func := some a, code := cd, frame := some L, builtins := builtinsNs }

section
variable {kindOf : Str → Option NameKind}
theorem bindL_not {x : Str} : ∀ (binds : List (Str × Value)) (m : Str → Option Value), x ∉ binds.map (·.1) → bindL kindOf binds m x = m x
  | [], _, _ => rfl
  | (n, v) :: r, m, h => by
    simp only [List.map_cons, List.mem_cons, not_or] at h
    unfold bindL
    rw [bindL_not r _ h.2]
    split
    · simp [h.1]
    · rfl
theorem bindL_mem {x : Str} {u : Value} (hk : kindOf x = some .local) : ∀ (binds : List (Str × Value)) (m : Str → Option Value), (binds.map (·.1)).Nodup → (x, u) ∈ binds → bindL kindOf binds m x = some u
  | [], _, _, h => by cases h
  | (n, v) :: r, m, nd, h => by
    simp only [List.map_cons, List.nodup_cons] at nd
    unfold bindL
    rcases List.mem_cons.mp h with e | h
    · cases e
      rw [bindL_not r _ nd.1]
      simp [hk]
    · exact bindL_mem hk r _ nd.2 h
theorem bindC_not {x : Str} : ∀ (binds : List (Str × Value)) (m : Str → Option Value), x ∉ binds.map (·.1) → bindC kindOf binds m x = m x
  | [], _, _ => rfl
  | (n, v) :: r, m, h => by
    simp only [List.map_cons, List.mem_cons, not_or] at h
    unfold bindC
    rw [bindC_not r _ h.2]
    split
    · rfl
    · simp [h.1]
theorem bindC_mem {x : Str} {u : Value} (hk : kindOf x ≠ some .local) : ∀ (binds : List (Str × Value)) (m : Str → Option Value), (binds.map (·.1)).Nodup → (x, u) ∈ binds → bindC kindOf binds m x = some u
  | [], _, _, h => by cases h
  | (n, v) :: r, m, nd, h => by
    simp only [List.map_cons, List.nodup_cons] at nd
    unfold bindC
    rcases List.mem_cons.mp h with e | h
    · cases e
      rw [bindC_not r _ nd.1]
      simp [hk]
    · exact bindC_mem hk r _ nd.2 h
end

theorem lookup_mem {α β : Type} [BEq α] [LawfulBEq α] {x : α} {c : β} : ∀ {l : List (α × β)}, l.lookup x = some c → (x, c) ∈ l
  | [], h => by simp at h
  | (y, d) :: r, h => by
    simp only [List.lookup_cons] at h
    split at h
    · rename_i e; have := eq_of_beq e; subst this; cases h; exact .head _
    · exact .tail _ (lookup_mem h)
theorem mem_lookup {α β : Type} [BEq α] [LawfulBEq α] {x : α} {c : β} : ∀ {l : List (α × β)}, (l.map (·.1)).Nodup → (x, c) ∈ l → l.lookup x = some c
  | [], _, h => by cases h
  | (y, d) :: r, nd, h => by
    simp only [List.map_cons, List.nodup_cons] at nd
    rcases List.mem_cons.mp h with e | h'
    · cases e; simp
    · have hne : (x == y) = false := by
        cases hb : x == y with
        | false => rfl
        | true => have e := eq_of_beq hb; rw [← e] at nd; exact absurd (List.mem_map.mpr ⟨_, h', rfl⟩) nd.1
      simp only [List.lookup_cons, hne]
      exact mem_lookup nd.2 h'
theorem lookup_isSome {α β : Type} [BEq α] [LawfulBEq α] {x : α} : ∀ {l : List (α × β)}, (l.lookup x).isSome = true ↔ x ∈ l.map (·.1)
  | [] => by simp
  | (y, d) :: r => by
    simp only [List.lookup_cons, List.map_cons, List.mem_cons]
    cases hb : x == y with
    | true => have := eq_of_beq hb; simp [this]
    | false =>
      have hne : x ≠ y := by intro e; subst e; simp at hb
      simp only [hne, false_or]
      exact lookup_isSome
theorem apart_inj {l : List (Str × Addr)} (h : l.Pairwise fun x y => x.2 ≠ y.2) : ∀ {x y : Str} {c : Addr}, (x, c) ∈ l → (y, c) ∈ l → x = y := by
  induction h with
  | nil => intro x y c h; cases h
  | cons h1 _ ih =>
    intro x y c h2 h3
    rcases List.mem_cons.mp h2 with e | h4 <;> rcases List.mem_cons.mp h3 with e' | h5
    · rw [← e] at e'; cases e'; rfl
    · subst e; exact absurd rfl (h1 (y, c) h5)
    · subst e'; exact absurd rfl (h1 (x, c) h4)
    · exact ih h4 h5

theorem HR.lt {C : Cx} {ad : List Addr} {σ : AH} {h : Heap} (hr : HR C ad σ h) {a : Addr} (ha : a ∈ ad) : a < h.objs.size := by
  obtain ⟨i, hi⟩ := List.getElem?_of_mem ha
  have hi' := (List.getElem?_eq_some_iff.mp hi).1
  have : i < σ.length := by rw [← hr.len]; exact hi'
  obtain ⟨ob, h1, _⟩ := hr.obj i σ[i] a (by simp [this]) hi
  exact Heap.lt_size h1
theorem HR.fresh {C : Cx} {ad : List Addr} {σ : AH} {h : Heap} (hr : HR C ad σ h) {a : Addr} (ha : h.objs.size ≤ a) : C.G.get? a = none ∧ a ∉ ad := by
  constructor
  · cases e : C.G.get? a with
    | none => rfl
    | some o => exact absurd (Heap.lt_size (hr.keep a o e)) (Nat.not_lt.mpr ha)
  · intro hm; exact absurd (hr.lt hm) (Nat.not_lt.mpr ha)
theorem HR.freshLow {C : Cx} {ad : List Addr} {σ : AH} {h : Heap} (hr : HR C ad σ h) {a : Addr} (ha : h.objs.size ≤ a) : a ≠ sysModules := by
  have hl : sysModules < h.objs.size := let ⟨_, hn, _⟩ := hr.ok.lim.keeps hr.keep; Nat.lt_trans (by decide) hn.lt
  rintro rfl
  exact absurd hl (Nat.not_lt.mpr ha)
theorem HR.keeps {C : Cx} {ad : List Addr} {σ : AH} {h h' : Heap} (hr : HR C ad σ h) (k : ∀ b o, h.get? b = some o → h'.get? b = some o) : HR C ad σ h' :=
  ⟨hr.ok, fun b o e => k b o (hr.keep b o e), hr.len, hr.nd, hr.off, hr.low, fun i o a h1 h2 => let ⟨ob, h3, h4⟩ := hr.obj i o a h1 h2; ⟨ob, k _ _ h3, h4⟩⟩

def retV : Fl → V
  | .ret v => v
  | _ => .none

/-- the raise of a def's body, led through its frame's end -/
def EL (C : Cx) (A : Around) (env : Env) (E : EX) : EX := fun e s' => wpAny (model C.prog C.w) (A.deeper env) (leaving env e) (fun _ s'' => E e s'') E s'

theorem zip_mem {pn : List Str} {vs : List V} {xs : List Value} {ad : List Addr} (rv : RVs ad vs xs) : ∀ {x : Str} {v : V}, (x, some v) ∈ pn.zip (vs.map some) → ∃ u, (x, u) ∈ pn.zip xs ∧ RV ad v u := by
  induction rv generalizing pn with
  | nil => intro x v h; simp at h
  | cons r _ ih =>
    intro x v h
    cases pn with
    | nil => simp at h
    | cons p pn =>
      simp only [List.map_cons, List.zip_cons_cons, List.mem_cons] at h
      rcases h with e | h
      · cases e; exact ⟨_, .head _, r⟩
      · obtain ⟨u, h1, h2⟩ := ih h; exact ⟨u, .tail _ h1, h2⟩
theorem zip_names {pn : List Str} {β : Type} {xs : List β} (h : pn.length = xs.length) : (pn.zip xs).map (·.1) = pn := by
  induction pn generalizing xs with
  | nil => simp
  | cons p pn ih => cases xs with
    | nil => simp at h
    | cons x xs => simp only [List.length_cons, Nat.add_right_cancel_iff] at h; simp [ih h]

section
variable {C : Cx} {A : Around} {σ : AH} {E : EX}
theorem HR.wg {l : List (Str × Value)} {ad : List Addr} {h : Heap} (hr : HR C ad σ h) (hl : ∀ x v, (x, v) ∈ l → C.mg x = some v ∨ (C.mg x = none ∧ C.mb x = some v)) : HR (C.wg l) ad σ h :=
  ⟨⟨hr.ok.gob, hr.ok.g, hr.ok.b, hl, hr.ok.lim⟩, hr.keep, hr.len, hr.nd, hr.off, hr.low, hr.obj⟩
theorem HR.gw {l : List (Str × Value)} {ad : List Addr} {h : Heap} (hr : HR (C.wg l) ad σ h) (ok : C.Ok) : HR C ad σ h := ⟨ok, hr.keep, hr.len, hr.nd, hr.off, hr.low, hr.obj⟩
/-- what is known of an env's names -/
def Kn (env : Env) (ns : List (Str × NameKind)) : Prop := ∀ x k, ns.lookup x = some k → env.kindOf x = some k
structure WCc (C : Cx) (A : Around) (f : Value) (vs : List V) (σ : AH) (Q : V → AH → Prop) (E : EX) : Prop where
  run : ∀ ad s xs, HR C ad σ s.heap → RVs ad vs xs → codeAny (model C.prog C.w) A (.call f ⟨xs, []⟩) (fun r s' => match r with | .ok (.ret v) => PE C ad s Q v s' | .ok _ => False | .error e => E e s') s
theorem WCc.toWC {f : Value} {vs : List V} {Q : V → AH → Prop} (h : WCc C A f vs σ Q E) : WC C A f vs σ Q E := ⟨fun ad s xs hr rv => wpAny_call (h.run ad s xs hr rv)⟩
/-- a def entered -/
theorem def_entry {f : Addr} {o : Obj} {name qual : Str} {params : Arguments} {body : List Stmt} {scope : Scope} {dV kV doc pm cdv ct : Value} {an : Option Addr} {pn ln : List Str} {gl : List (Str × Value)} {vs dv : List V} {ds : List Value}
    (ho : C.G.get? f = some o) (hd : o.data = .func (mkFd name qual params body scope dV kV doc pm an cdv ct)) (hcd : C.G.CodeRec cdv qual) (hroom : A.depth < recursionLimit)
    (hds : RVs [] dv ds) (hlen : pn.length = vs.length + dv.length) (hgl : ∀ x v, (x, v) ∈ gl → C.mg x = some v ∨ (C.mg x = none ∧ C.mb x = some v))
    (hbind : ∀ (s : Shared) (xs : List Value), (∀ b o, C.G.get? b = some o → s.heap.get? b = some o) → xs.length = vs.length → BindsTo s (mkFd name qual params body scope dV kV doc pm an cdv ct) ⟨xs, []⟩ (pn.zip (xs ++ ds)))
    (hnd : (pn ++ ln).Nodup) (hcn : ((cellsFrom 0 scope.names []).map (·.1)).Nodup)
    (hkd : ((pn ++ ln).all fun x => nmOk x && (scope.names.lookup x == some .local || (scope.names.lookup x == some .cell && ((cellsFrom 0 scope.names []).lookup x).isSome))) = true)
    (hgk : (gl.all fun p => nmOk p.1 && scope.names.lookup p.1 == some .globalImplicit) = true)
    {ad : List Addr} {s : Shared} {xs : List Value} {R : Result → Shared → Prop} (hr : HR C ad σ s.heap) (rv : RVs ad vs xs)
    (h : ∀ env s1, Kn env scope.names → env.frame = some env.locals → (∀ b o, s.heap.get? b = some o → s1.heap.get? b = some o) → s.heap.objs.size ≤ s1.heap.objs.size → (∃ h1 tk, s1 = { s with heap := h1, toks := tk }) → (∀ a ∈ fa env, s.heap.objs.size ≤ a) →
      HR (C.wg gl) ad σ s1.heap → ER (C.wg gl) env (pn.zip ((vs ++ dv).map some) ++ ln.map fun x => (x, none)) ad s1.heap →
      wpAny (model C.prog C.w) (A.deeper env) (execs body env) (fun f s' => R (.ok (.ret (match f with | .ret v => v | _ => .none))) s') (fun e s' => wpAny (model C.prog C.w) (A.deeper env) (leaving env e) (fun _ s'' => R (.error e) s'') (fun e' s'' => R (.error e') s'') s') s1)
    (hco : scope.isCoroutine = false := by rfl) (hgen : scope.isGenerator = false := by rfl) (hk : scope.kind = .function := by rfl) : codeAny (model C.prog C.w) A (.call (.ref f) ⟨xs, []⟩) R s := by
  have hxl : xs.length = vs.length := rv.length.symm
  refine (codeAny_call_function (body := body) hroom (hr.keep f o ho) hd hco hgen rfl (hcd.keeps hr.keep) (hbind s xs hr.keep hxl _ _ _ _ ?_))
  have hbn : ((pn.zip (xs ++ ds)).map (·.1)) = pn := zip_names (by rw [List.length_append, hxl, hlen, hds.length])
  have rvall : RVs ad (vs ++ dv) (xs ++ ds) := by
    have h0 : RVs ad dv ds := by have := hds.mono (nw := ad); simpa using this
    clear hbind h hlen hxl hbn
    induction rv with
    | nil => exact h0
    | cons a _ ih => exact .cons a ih
  have hpn : pn.Nodup := (List.nodup_append.mp hnd).1
  have hkd0 : ∀ x ∈ pn ++ ln, nmOk x = true ∧ (scope.names.lookup x = some .local ∨ (scope.names.lookup x = some .cell ∧ ((cellsFrom 0 scope.names []).lookup x).isSome = true)) := by
    intro x hx
    have := List.all_eq_true.mp hkd x hx
    simpa using this
  have hkd' := fun x hx => (hkd0 x hx).2
  have hcl : ∀ x n, ((cellsFrom 0 scope.names []).lookup x).isSome = true → ((cellsFrom n scope.names []).lookup x).isSome = true := by
    intro x n hx
    rw [lookup_isSome] at hx ⊢
    rw [cellsFrom_names scope.names n 0 [] [] rfl]; exact hx
  refine wpAny_newFunctionEnv_cells hk (fun y hy => ?_) fun env he s1 x => ?_
  · have : y.1 ∈ pn := by rw [← hbn]; exact List.mem_map.mpr ⟨y, hy, rfl⟩
    rcases hkd' y.1 (List.mem_append_left _ this) with e | ⟨e, e'⟩
    · exact .inl e
    · exact .inr ⟨e, hcl _ _ e'⟩
  obtain rfl : env = dEnv qual scope s.heap.objs.size f cdv := he
  have keep := x.toInCall.keep
  obtain ⟨h1, tk, e1⟩ := x.toInCall.same
  have hr1 : HR (C.wg gl) ad σ s1.heap := (hr.keeps keep).wg hgl
  have hsz : s.heap.objs.size ≤ s1.heap.objs.size := Nat.le_of_lt x.toInCall.ns.lt
  have hcn' : ((cellsFrom (s.heap.objs.size + 1) scope.names []).map (·.1)).Nodup := by
    rw [cellsFrom_names scope.names _ 0 [] [] rfl]; exact hcn
  have hfa : ∀ a ∈ fa (dEnv qual scope s.heap.objs.size f cdv), s.heap.objs.size ≤ a := by
    intro a ha
    rcases List.mem_cons.mp ha with e | ha
    · subst e; exact Nat.le_refl _
    · obtain ⟨⟨n, c⟩, hp, rfl⟩ := List.mem_map.mp ha
      exact Nat.le_of_lt (x.above n c hp)
  have er1 : ER (C.wg gl) (dEnv qual scope s.heap.objs.size f cdv) (pn.zip ((vs ++ dv).map some) ++ ln.map fun x => (x, none)) ad s1.heap := by
    have hzn : (pn.zip ((vs ++ dv).map some)).map (·.1) = pn := zip_names (by rw [List.length_map, List.length_append, hlen])
    refine ⟨hk, rfl, rfl, ?_, ?_, ⟨_, x.toInCall.ns, ?_⟩, ?_, ?_, ?_, ?_, ?_, ?_, ?_⟩
    · rw [List.map_append, hzn, List.map_map]
      have : (ln.map ((fun p : Str × Option V => p.1) ∘ fun x => (x, none))) = ln := List.map_id _
      rw [this]; exact hnd
    · intro y v hy
      have hm : y ∈ pn ++ ln := by
        rcases List.mem_append.mp hy with hy | hy
        · exact List.mem_append_left _ (by rw [← hzn]; exact List.mem_map.mpr ⟨_, hy, rfl⟩)
        · obtain ⟨z, hz, e⟩ := List.mem_map.mp hy; cases e; exact List.mem_append_right _ hz
      rcases hkd' y hm with e | ⟨e, e'⟩
      · exact .inl e
      · exact .inr ⟨.inl e, hcl _ _ e'⟩
    · intro y v hy hyk
      have hy' : (y, some v) ∈ pn.zip ((vs ++ dv).map some) := by
        rcases List.mem_append.mp hy with hy | hy
        · exact hy
        · obtain ⟨z, hz, e⟩ := List.mem_map.mp hy; cases e
      obtain ⟨u, hu, ru⟩ := zip_mem rvall hy'
      exact ⟨u, bindL_mem hyk _ _ (by rw [hbn]; exact hpn) hu, ru⟩
    · intro y c hc
      obtain ⟨oc, hoc, hdc⟩ := x.cell y c hc
      refine ⟨oc, _, hoc, hdc, fun v hv hvk => ?_⟩
      have hy' : (y, some v) ∈ pn.zip ((vs ++ dv).map some) := by
        rcases List.mem_append.mp hv with hy | hy
        · exact hy
        · obtain ⟨z, hz, e⟩ := List.mem_map.mp hy; cases e
      obtain ⟨u, hu, ru⟩ := zip_mem rvall hy'
      exact ⟨u, bindC_mem hvk _ _ (by rw [hbn]; exact hpn) hu, ru⟩
    · intro y z c hy hz
      exact apart_inj x.apart (lookup_mem hy) (lookup_mem hz)
    · intro y c hc e
      have := x.above y c (lookup_mem hc)
      rw [e] at this
      exact Nat.lt_irrefl _ this
    · intro a ha; exact hr.fresh (hfa a ha)
    · intro a ha
      rcases List.mem_cons.mp ha with e | ha
      · subst e; exact x.toInCall.ns.lt
      · obtain ⟨⟨n, c⟩, hp, rfl⟩ := List.mem_map.mp ha
        obtain ⟨oc, hoc, _⟩ := x.cell n c (mem_lookup hcn' hp)
        exact Heap.lt_size hoc
    · intro y v hy
      have hm : y ∈ pn ++ ln := by
        rcases List.mem_append.mp hy with hy | hy
        · exact List.mem_append_left _ (by rw [← hzn]; exact List.mem_map.mpr ⟨_, hy, rfl⟩)
        · obtain ⟨z, hz, e⟩ := List.mem_map.mp hy; cases e; exact List.mem_append_right _ hz
      exact (hkd0 y hm).1
    · intro y v hy
      have := List.all_eq_true.mp hgk (y, v) hy
      simp only [Bool.and_eq_true, beq_iff_eq] at this
      exact ⟨this.2, this.1⟩
  refine ⟨(hr.ok.lim.keeps hr.keep).keeps keep, codeAny_func ?_⟩
  exact h (dEnv qual scope s.heap.objs.size f cdv) s1 (fun _ _ e => e) rfl keep hsz ⟨h1, tk, e1⟩ hfa hr1 er1
theorem WCc_defF {f : Addr} {o : Obj} {name qual : Str} {params : Arguments} {body : List Stmt} {scope : Scope} {dV kV doc pm cdv ct : Value} {an : Option Addr} {pn ln : List Str} {gl : List (Str × Value)} {vs dv : List V} {ds : List Value} {Q : V → AH → Prop}
    (ho : C.G.get? f = some o) (hd : o.data = .func (mkFd name qual params body scope dV kV doc pm an cdv ct)) (hcd : C.G.CodeRec cdv qual) (hroom : A.depth < recursionLimit)
    (hds : RVs [] dv ds) (hlen : pn.length = vs.length + dv.length) (hgl : ∀ x v, (x, v) ∈ gl → C.mg x = some v ∨ (C.mg x = none ∧ C.mb x = some v))
    (hbind : ∀ (s : Shared) (xs : List Value), (∀ b o, C.G.get? b = some o → s.heap.get? b = some o) → xs.length = vs.length → BindsTo s (mkFd name qual params body scope dV kV doc pm an cdv ct) ⟨xs, []⟩ (pn.zip (xs ++ ds)))
    (hnd : (pn ++ ln).Nodup) (hcn : ((cellsFrom 0 scope.names []).map (·.1)).Nodup)
    (hkd : ((pn ++ ln).all fun x => nmOk x && (scope.names.lookup x == some .local || (scope.names.lookup x == some .cell && ((cellsFrom 0 scope.names []).lookup x).isSome))) = true)
    (hgk : (gl.all fun p => nmOk p.1 && scope.names.lookup p.1 == some .globalImplicit) = true)
    (h : ∀ env, Kn env scope.names → env.frame = some env.locals → WSs (C.wg gl) (A.deeper env) env body (pn.zip ((vs ++ dv).map some) ++ ln.map fun x => (x, none)) σ (fun fl _ σ' => Q (retV fl) σ') (EL C A env E))
    (hco : scope.isCoroutine = false := by rfl) (hgen : scope.isGenerator = false := by rfl) (hk : scope.kind = .function := by rfl) : WCc C A (.ref f) vs σ Q E := by
  refine ⟨?_⟩
  intro ad s xs hr rv
  refine def_entry ho hd hcd hroom hds hlen hgl hbind hnd hcn hkd hgk hr rv (fun env s1 hkn hfr keep hsz e1 hfa hr1 er1 => ?_) hco hgen hk
  obtain ⟨h1, tk, e1⟩ := e1
  refine wpAny_mono ((h env hkn hfr).run ad s1 hr1 er1) ?_ fun _ _ z => z
  rintro fl s2 ⟨ad2, σ2, ρ2, f2, n2, e2, r2, h2⟩
  obtain ⟨nw, ep, hnw⟩ := n2.pre
  obtain ⟨h3, tk3, e3⟩ := n2.eq
  have nx : Nx C [] ad s ad2 σ2 s2 := ⟨⟨h3, tk3, by rw [e3, e1]⟩, ⟨nw, ep, fun a ha => Nat.le_trans hsz (hnw a ha)⟩, Nat.le_trans hsz n2.size,
    fun b o e nb _ => n2.same b o (keep b o e) nb fun hb => absurd (Heap.lt_size e) (Nat.not_lt.mpr (hfa b hb)), n2.hr.gw hr.ok⟩
  cases f2 with
  | next => cases r2; exact ⟨ad2, σ2, .none, nx, rfl, h2⟩
  | brk => cases r2; exact ⟨ad2, σ2, .none, nx, rfl, h2⟩
  | cont => cases r2; exact ⟨ad2, σ2, .none, nx, rfl, h2⟩
  | ret v => obtain ⟨u, rfl, ru⟩ := r2; exact ⟨ad2, σ2, v, nx, ru, h2⟩
theorem WCc_def {f : Addr} {o : Obj} {name qual : Str} {params : Arguments} {body : List Stmt} {scope : Scope} {dV kV doc pm cdv ct : Value} {an : Option Addr} {pn ln : List Str} {gl : List (Str × Value)} {vs dv : List V} {ds : List Value} {Q : V → AH → Prop}
    (ho : C.G.get? f = some o) (hd : o.data = .func (mkFd name qual params body scope dV kV doc pm an cdv ct)) (hcd : C.G.CodeRec cdv qual) (hroom : A.depth < recursionLimit)
    (hds : RVs [] dv ds) (hlen : pn.length = vs.length + dv.length) (hgl : ∀ x v, (x, v) ∈ gl → C.mg x = some v ∨ (C.mg x = none ∧ C.mb x = some v))
    (hbind : ∀ (s : Shared) (xs : List Value), (∀ b o, C.G.get? b = some o → s.heap.get? b = some o) → xs.length = vs.length → BindsTo s (mkFd name qual params body scope dV kV doc pm an cdv ct) ⟨xs, []⟩ (pn.zip (xs ++ ds)))
    (hnd : (pn ++ ln).Nodup) (hcn : ((cellsFrom 0 scope.names []).map (·.1)).Nodup)
    (hkd : ((pn ++ ln).all fun x => nmOk x && (scope.names.lookup x == some .local || (scope.names.lookup x == some .cell && ((cellsFrom 0 scope.names []).lookup x).isSome))) = true)
    (hgk : (gl.all fun p => nmOk p.1 && scope.names.lookup p.1 == some .globalImplicit) = true)
    (h : ∀ env, Kn env scope.names → WSs (C.wg gl) (A.deeper env) env body (pn.zip ((vs ++ dv).map some) ++ ln.map fun x => (x, none)) σ (fun fl _ σ' => Q (retV fl) σ') (EL C A env E))
    (hco : scope.isCoroutine = false := by rfl) (hgen : scope.isGenerator = false := by rfl) (hk : scope.kind = .function := by rfl) : WCc C A (.ref f) vs σ Q E :=
  WCc_defF ho hd hcd hroom hds hlen hgl hbind hnd hcn hkd hgk (fun env hkn _ => h env hkn) hco hgen hk
theorem WC_def {f : Addr} {o : Obj} {name qual : Str} {params : Arguments} {body : List Stmt} {scope : Scope} {dV kV doc pm cdv ct : Value} {an : Option Addr} {pn ln : List Str} {gl : List (Str × Value)} {vs dv : List V} {ds : List Value} {Q : V → AH → Prop}
    (ho : C.G.get? f = some o) (hd : o.data = .func (mkFd name qual params body scope dV kV doc pm an cdv ct)) (hcd : C.G.CodeRec cdv qual) (hroom : A.depth < recursionLimit)
    (hds : RVs [] dv ds) (hlen : pn.length = vs.length + dv.length) (hgl : ∀ x v, (x, v) ∈ gl → C.mg x = some v ∨ (C.mg x = none ∧ C.mb x = some v))
    (hbind : ∀ (s : Shared) (xs : List Value), (∀ b o, C.G.get? b = some o → s.heap.get? b = some o) → xs.length = vs.length → BindsTo s (mkFd name qual params body scope dV kV doc pm an cdv ct) ⟨xs, []⟩ (pn.zip (xs ++ ds)))
    (hnd : (pn ++ ln).Nodup) (hcn : ((cellsFrom 0 scope.names []).map (·.1)).Nodup)
    (hkd : ((pn ++ ln).all fun x => nmOk x && (scope.names.lookup x == some .local || (scope.names.lookup x == some .cell && ((cellsFrom 0 scope.names []).lookup x).isSome))) = true)
    (hgk : (gl.all fun p => nmOk p.1 && scope.names.lookup p.1 == some .globalImplicit) = true)
    (h : ∀ env, Kn env scope.names → WSs (C.wg gl) (A.deeper env) env body (pn.zip ((vs ++ dv).map some) ++ ln.map fun x => (x, none)) σ (fun fl _ σ' => Q (retV fl) σ') (EL C A env E))
    (hco : scope.isCoroutine = false := by rfl) (hgen : scope.isGenerator = false := by rfl) (hk : scope.kind = .function := by rfl) : WC C A (.ref f) vs σ Q E :=
  (WCc_def ho hd hcd hroom hds hlen hgl hbind hnd hcn hkd hgk h hco hgen hk).toWC
end
end Mine

-- part Aw4
set_option autoImplicit false
set_option linter.unusedVariables false
namespace Mine
open PySem PyProof.Rows

/-- an iterator at I that hands out P 0 .. P (n - 1), as long as the abstract heap keeps Cd -/
structure Wk (C : Cx) (A : Around) (ad0 : List Addr) (I : Addr) (n : Nat) (P : Nat → V) (Cd : AH → Prop) (St : Nat → Heap → Prop) : Prop where
  own : ∀ i h h', St i h → h'.get? I = h.get? I → St i h'
  ex : ∀ i h, St i h → ∃ o, h.get? I = some o
  item : ∀ i ad σ (s : Shared) (Q : Option Value → Shared → Prop) (E : EX), i < n → (∃ nw, ad = ad0 ++ nw) → HR C ad σ s.heap → Cd σ → St i s.heap →
    (∀ u h' tk, RV ad (P i) u → St (i + 1) h' → Heap.SameBut I s.heap h' → Q (some u) { s with heap := h', toks := tk }) → wpAny (model C.prog C.w) A (pyNext (.ref I)) Q E s
  done : ∀ ad σ (s : Shared) (Q : Option Value → Shared → Prop) (E : EX), (∃ nw, ad = ad0 ++ nw) → HR C ad σ s.heap → Cd σ → St n s.heap →
    (∀ h' tk, (∀ b o, b ≠ I → s.heap.get? b = some o → h'.get? b = some o) → Q none { s with heap := h', toks := tk }) → wpAny (model C.prog C.w) A (pyNext (.ref I)) Q E s
  self : ∀ i (s : Shared) (Q : Value → Shared → Prop) (E : EX), St i s.heap → Q (.ref I) s → wpAny (model C.prog C.w) A (pyIter (.ref I)) Q E s
  tup : ∀ i (s : Shared) (t : Expr) (u : Value) (Q : Unit → Shared → Prop) (E : EX), St i s.heap → Q () s → wpAny (model C.prog C.w) A (letOwnedTupleGo t (.ref I) u) Q E s

/-- a value that may be walked -/
structure Itb (C : Cx) (A : Around) (v : V) (σ : AH) (n : Nat) (P : Nat → V) (Cd : AH → Prop) (E : EX) : Prop where
  run : ∀ ad (s : Shared) x, HR C ad σ s.heap → RV ad v x → wpAny (model C.prog C.w) A (pyIter x)
    (fun it s1 => ∃ I St, it = .ref I ∧ Wk C A ad I n P Cd St ∧ St 0 s1.heap ∧ s.heap.objs.size ≤ I ∧ Nx C [] ad s ad σ s1) E s

structure LoopPost (Inv : Loc → AH → Prop) (Q : Fl → Loc → AH → Prop) (fl : Fl) (ρ : Loc) (σ : AH) : Prop where
  run : match fl with
    | .next => Inv ρ σ
    | .cont => Inv ρ σ
    | .brk => Q .next ρ σ
    | .ret v => Q (.ret v) ρ σ
theorem LoopPost_next {Inv : Loc → AH → Prop} {Q : Fl → Loc → AH → Prop} {ρ : Loc} {σ : AH} (h : Inv ρ σ) : LoopPost Inv Q .next ρ σ := ⟨h⟩
/-- a raise within a loop -/
def ELoop (C : Cx) (A : Around) (env : Env) (E : EX) : EX := notedBy (model C.prog C.w) A env fun e s' => cameBackBy (model C.prog C.w) A env E e s'

/-- storing a value to a target -/
structure WAs (C : Cx) (A : Around) (env : Env) (t : Expr) (v : V) (ρ : Loc) (σ : AH) (Q : Loc → AH → Prop) (E : EX) : Prop where
  run : ∀ ad (s : Shared) u, HR C ad σ s.heap → ER C env ρ ad s.heap → RV ad v u →
    wpAny (model C.prog C.w) A (assign t env u) (fun _ s' => ∃ ad' σ' ρ', Nx C (fa env) ad s ad' σ' s' ∧ ER C env ρ' ad' s'.heap ∧ Q ρ' σ') E s

section
variable {C : Cx} {A : Around} {env : Env} {ρ : Loc} {σ : AH} {E : EX}
theorem WAs_name {x : Str} {p : Pos} {v : V} {Q : Loc → AH → Prop} {ρ' : Loc} (up : Up x (some v) ρ ρ') (h : Q ρ' σ) : WAs C A env (.Name x p) v ρ σ Q E := by
  refine ⟨?_⟩
  intro ad s u hr er rv
  exact wpAny_assign_Name (store_name hr er up rv fun s' n e => ⟨ad, σ, ρ', n, e, h⟩)

theorem HR.same {ad : List Addr} {h h' : Heap} (hr : HR C ad σ h) (k : ∀ b o, C.G.get? b = some o ∨ b ∈ ad → h.get? b = some o → h'.get? b = some o) : HR C ad σ h' :=
  ⟨hr.ok, fun b o e => k b o (.inl e) (hr.keep b o e), hr.len, hr.nd, hr.off, hr.low, fun i o a h1 h2 => let ⟨ob, h3, h4⟩ := hr.obj i o a h1 h2; ⟨ob, k _ _ (.inr (List.mem_of_getElem? h2)) h3, h4⟩⟩

/-- a step that changes but the iterator and grows -/
theorem Nx.iter {ad : List Addr} {s : Shared} {h' : Heap} {tk : Nat} {I : Addr} (hr : HR C ad σ s.heap) (hI : I ∉ ad) (hG : C.G.get? I = none) (hz : s.heap.objs.size ≤ h'.objs.size) (k : ∀ b o, b ≠ I → s.heap.get? b = some o → h'.get? b = some o) :
    Nx C [I] ad s ad σ { s with heap := h', toks := tk } := by
  have ne : ∀ b o, C.G.get? b = some o ∨ b ∈ ad → b ≠ I := by
    rintro b o (e | e) rfl
    · rw [hG] at e; cases e
    · exact hI e
  exact ⟨⟨h', tk, rfl⟩, ⟨[], by simp, by simp⟩, hz, fun b o e _ hc => k b o (by simpa using hc) e, hr.same fun b o h1 h2 => k b o (ne b o h1) h2⟩
theorem ER.iter {ad : List Addr} {s : Shared} {s' : Shared} {I : Addr} (er : ER C env ρ ad s.heap) (n : Nx C [I] ad s ad σ s') (hI : I ∉ fa env) : ER C env ρ ad s'.heap := by
  have keep : ∀ b ∈ fa env, ∀ o, s.heap.get? b = some o → s'.heap.get? b = some o := fun b hb o e => n.same b o e (er.off b hb).2 (by simp; rintro rfl; exact hI hb)
  refine ⟨er.kind, er.glob, er.blt, er.nd, er.kd, ?_, ?_, er.cinj, er.cl, er.off, fun b hb => Nat.lt_of_lt_of_le (er.lt b hb) n.size, er.nm, er.gk⟩
  · obtain ⟨m, hm, h⟩ := er.m
    exact ⟨m, hm.at' fun o e => keep _ (by simp [fa]) o e, h⟩
  · intro x c hc
    obtain ⟨o, w, h1, h2, h3⟩ := er.cell x c hc
    exact ⟨o, w, keep c (mem_cells hc) o h1, h2, h3⟩
theorem Nx.wider {ch ch' ad ad1 : List Addr} {σ1 : AH} {s s1 : Shared} (n : Nx C ch ad s ad1 σ1 s1) (h : ∀ b ∈ ch, b ∈ ch') : Nx C ch' ad s ad1 σ1 s1 :=
  ⟨n.eq, n.pre, n.size, fun b o e hb hc => n.same b o e hb fun hx => hc (h b hx), n.hr⟩

/-- an expression's value, made an iterator -/
structure WItr (C : Cx) (A : Around) (env : Env) (iter : Expr) (ρ : Loc) (σ : AH) (K : Nat → (Nat → V) → (AH → Prop) → AH → Prop) (E : EX) : Prop where
  run : ∀ ad (s : Shared), HR C ad σ s.heap → ER C env ρ ad s.heap → wpAny (model C.prog C.w) A (eval iter env) (fun x s1 => wpAny (model C.prog C.w) A (pyIter x) (fun it s2 =>
    ∃ ad' σ' n P Cd I St, it = .ref I ∧ Wk C A ad' I n P Cd St ∧ St 0 s2.heap ∧ s.heap.objs.size ≤ I ∧ I ∉ ad' ∧ Nx C [] ad s ad' σ' s2 ∧ K n P Cd σ') E s1) E s
theorem WItr_of {iter : Expr} {K : Nat → (Nat → V) → (AH → Prop) → AH → Prop} (h : WE C A env iter ρ σ (fun v σ1 => ∃ n P Cd, Itb C A v σ1 n P Cd E ∧ K n P Cd σ1) E) : WItr C A env iter ρ σ K E := by
  refine ⟨?_⟩
  intro ad s hr er
  refine wpAny_mono (h.run ad s hr er) ?_ fun _ _ x => x
  rintro x s1 ⟨ad1, σ1, v, n1, r1, n, P, Cd, itb, hk⟩
  refine wpAny_mono (itb.run ad1 s1 x n1.hr r1) ?_ fun _ _ x => x
  rintro it s2 ⟨I, St, rfl, wk, st0, hI, n2⟩
  exact ⟨ad1, σ1, n, P, Cd, I, St, rfl, wk, st0, Nat.le_trans n1.size hI, (n1.hr.fresh hI).2, n1.trans n2, hk⟩
theorem Nx.drop1 {ch ad ad1 : List Addr} {σ1 : AH} {s0 s s1 : Shared} {I : Addr} {ad0 : List Addr} {σ0 : AH} (n0 : Nx C [] ad0 s0 ad σ0 s) (hI : s0.heap.objs.size ≤ I) (n : Nx C (I :: ch) ad s ad1 σ1 s1) : Nx C ch ad0 s0 ad1 σ1 s1 := by
  obtain ⟨h1, t1, e1⟩ := n0.eq
  obtain ⟨h2, t2, e2⟩ := n.eq
  obtain ⟨nw0, p0, q0⟩ := n0.pre
  obtain ⟨nw, p, q⟩ := n.pre
  refine ⟨⟨h2, t2, by rw [e2, e1]⟩, ⟨nw0 ++ nw, by rw [p, p0, List.append_assoc], fun a ha => ?_⟩, Nat.le_trans n0.size n.size, fun b o e hb hc => ?_, n.hr⟩
  · rcases List.mem_append.mp ha with ha | ha
    · exact q0 a ha
    · exact Nat.le_trans n0.size (q a ha)
  · refine n.same b o (n0.same b o e hb (by simp)) ?_ ?_
    · rw [p0]
      intro hm
      rcases List.mem_append.mp hm with hm | hm
      · exact hb hm
      · exact absurd (Heap.lt_size e) (Nat.not_lt.mpr (q0 b hm))
    · simp only [List.mem_cons, not_or]
      exact ⟨fun e' => absurd (Heap.lt_size e) (Nat.not_lt.mpr (e' ▸ hI)), hc⟩

theorem WS_for {target iter : Expr} {body : List Stmt} {pos : Pos} {Q : Fl → Loc → AH → Prop}
    (h : WItr C A env iter ρ σ (fun n P Cd σ1 => ∃ Inv : Nat → Loc → AH → Prop, Inv 0 ρ σ1 ∧
      (∀ i ρ' σ', i < n → Inv i ρ' σ' → Cd σ' ∧ WAs C A env target (P i) ρ' σ' (fun ρ2 σ2 => WSs C A env body ρ2 σ2 (LoopPost (Inv (i + 1)) Q) (ELoop C A env E)) (ELoop C A env E)) ∧
      (∀ ρ' σ', Inv n ρ' σ' → Cd σ' ∧ Q .next ρ' σ')) E)
    (hs : isSetE iter = false := by rfl) : WS C A env (.For target iter body [] pos) ρ σ Q E := by
  refine ⟨?_⟩
  intro ad s hr er
  refine wpAny_For (wpAny_mono (h.run ad s hr er) ?_ fun _ _ x => x) (folded_not hs)
  intro x s1 hx
  refine wpAny_mono hx ?_ fun _ _ x => x
  rintro it s2 ⟨ad1, σ1, n, P, Cd, I, St, rfl, wk, st0, hI, hIad, n2, Inv, inv0, turn, fin⟩
  have er2 := er.next n2
  have hIfa : I ∉ fa env := fun hm => absurd (er.lt I hm) (Nat.not_lt.mpr hI)
  have hIG : C.G.get? I = none := (hr.fresh hI).1
  refine codeAny_forLoop_any (fun k s3 => ∃ i ad3 σ3 ρ3, k = n - i ∧ i ≤ n ∧ Nx C (I :: fa env) ad1 s2 ad3 σ3 s3 ∧ ER C env ρ3 ad3 s3.heap ∧ St i s3.heap ∧ I ∉ ad3 ∧ Inv i ρ3 σ3) ?_ n
    ⟨0, ad1, σ1, ρ, rfl, Nat.zero_le _, Nx.refl n2.hr, er2, st0, hIad, inv0⟩
  rintro k s3 ⟨i, ad3, σ3, ρ3, rfl, hi, n3, er3, st3, hI3, inv3⟩
  by_cases hlt : i < n
  · obtain ⟨cd, tb⟩ := turn i ρ3 σ3 hlt inv3
    refine wk.item i ad3 σ3 s3 _ _ hlt (let ⟨nw, p, _⟩ := n3.pre; ⟨nw, p⟩) n3.hr cd st3 fun u h' tk ru st' hsb => ?_
    have n4 : Nx C [I] ad3 s3 ad3 σ3 { s3 with heap := h', toks := tk } := Nx.iter n3.hr hI3 hIG (Nat.le_of_eq hsb.1.symm) hsb.extBut
    have er4 := er3.iter n4 hIfa
    refine wk.tup (i + 1) _ _ _ _ _ st' ?_
    refine wpAny_mono (tb.run ad3 _ u n4.hr er4 ru) ?_ fun _ _ x => x
    rintro _ s5 ⟨ad5, σ5, ρ5, n5, er5, wb⟩
    refine wpAny_mono (wb.run ad5 s5 n5.hr er5) ?_ fun _ _ x => x
    rintro f s6 ⟨ad6, σ6, ρ6, fl, n6, er6, rf, ⟨hq⟩⟩
    have n56 := n5.trans n6
    have n46 : Nx C (I :: fa env) ad3 s3 ad6 σ6 s6 := (n4.wider (by simp)).trans (n56.wider fun b hb => List.mem_cons_of_mem _ hb)
    have n36 := n3.trans n46
    obtain ⟨oI, hoI⟩ := wk.ex _ _ st'
    have hI6 : I ∉ ad6 := by
      obtain ⟨nw, p, q⟩ := n56.pre
      rw [p]
      intro hm
      rcases List.mem_append.mp hm with hm | hm
      · exact hI3 hm
      · exact absurd (Heap.lt_size hoI) (Nat.not_lt.mpr (q I hm))
    have st6 : St (i + 1) s6.heap := wk.own _ _ _ st' ((n56.same I oI hoI hI3 hIfa).trans hoI.symm)
    have back : Nx C (fa env) ad s ad6 σ6 s6 := Nx.drop1 n2 hI n36
    cases fl with
    | next => cases rf; exact ⟨n - (i + 1), by omega, i + 1, ad6, σ6, ρ6, rfl, hlt, n36, er6, st6, hI6, hq⟩
    | cont => cases rf; exact ⟨n - (i + 1), by omega, i + 1, ad6, σ6, ρ6, rfl, hlt, n36, er6, st6, hI6, hq⟩
    | brk => cases rf; exact ⟨ad6, σ6, ρ6, .next, back, er6, rfl, hq⟩
    | ret v => obtain ⟨u', rfl, ru'⟩ := rf; exact ⟨ad6, σ6, ρ6, .ret v, back, er6, ⟨u', rfl, ru'⟩, hq⟩
  · obtain rfl : i = n := by omega
    obtain ⟨cd, hq⟩ := fin ρ3 σ3 inv3
    refine wpAny_sz (wk.done ad3 σ3 s3 _ _ (let ⟨nw, p, _⟩ := n3.pre; ⟨nw, p⟩) n3.hr cd st3 fun h' tk hk hz => ?_)
    have n4 : Nx C [I] ad3 s3 ad3 σ3 { s3 with heap := h', toks := tk } := Nx.iter n3.hr hI3 hIG hz hk
    have er4 := er3.iter n4 hIfa
    exact wpAny_execs_nil ⟨ad3, σ3, ρ3, .next, Nx.drop1 n2 hI (n3.trans (n4.wider (by simp))), er4, rfl, hq⟩
end
end Mine

-- part Aw5
set_option autoImplicit false
set_option linter.unusedVariables false
namespace Mine
open PySem PyProof.Rows

def ObjAt (C : Cx) (σ : AH) (v : V) (o : O) : Prop := match v with
  | .ref j => σ[j]? = some o
  | .k (.ref a) => (a, o) ∈ C.gob
  | _ => False

section
variable {C : Cx} {A : Around} {env : Env} {ρ : Loc} {σ : AH} {E : EX}
theorem ObjAt.list {v : V} {xs : List V} {ad : List Addr} {h : Heap} {x : Value} (b : ObjAt C σ v (.list xs)) (hr : HR C ad σ h) (rv : RV ad v x) : ∃ a vs, x = .ref a ∧ h.IsList a vs ∧ RVs ad xs vs.toList := by
  cases v with
  | ref j =>
    obtain ⟨a, h1, h2⟩ := rv
    obtain ⟨ob, h3, vs, n, e2, h4⟩ := hr.obj j _ a b h1
    subst e2
    exact ⟨a, vs, h2, ⟨_, h3, rfl, n, rfl⟩, h4⟩
  | k v =>
    cases v with
    | ref a =>
      obtain ⟨vs, h1, h2⟩ := (hr.ok.gob a _ b).keeps hr.keep
      have h3 := h2.mono (nw := ad)
      exact ⟨a, vs, rv, h1, by simpa using h3⟩
    | _ => exact b.elim
  | _ => exact b.elim
theorem ObjAt.tup {v : V} {xs : List V} {ad : List Addr} {h : Heap} {x : Value} (b : ObjAt C σ v (.tuple xs)) (hr : HR C ad σ h) (rv : RV ad v x) : ∃ a vs, x = .ref a ∧ h.IsTuple a vs ∧ RVs ad xs vs.toList := by
  cases v with
  | ref j =>
    obtain ⟨a, h1, h2⟩ := rv
    obtain ⟨ob, h3, vs, n, e2, h4⟩ := hr.obj j _ a b h1
    subst e2
    exact ⟨a, vs, h2, ⟨_, h3, rfl, n, rfl⟩, h4⟩
  | k v =>
    cases v with
    | ref a =>
      obtain ⟨vs, h1, h2⟩ := (hr.ok.gob a _ b).keeps hr.keep
      have h3 := h2.mono (nw := ad)
      exact ⟨a, vs, rv, h1, by simpa using h3⟩
    | _ => exact b.elim
  | _ => exact b.elim

/-- a new object that the abstract heap does not bear -/
theorem Nx.push {ad : List Addr} {s : Shared} (o : Obj) (hr : HR C ad σ s.heap) : Nx C [] ad s ad σ { s with heap := s.heap.push o } :=
  ⟨⟨_, s.toks, rfl⟩, ⟨[], by simp, by simp⟩, by simp [Heap.push], fun b ob e _ _ => Heap.get?_push_of_some _ e, hr.keeps fun b ob e => Heap.get?_push_of_some _ e⟩
theorem RVs.getD {ad : List Addr} {xs : List V} {vs : List Value} (h : RVs ad xs vs) {i : Nat} (hi : i < xs.length) : ∃ u, vs[i]? = some u ∧ RV ad (xs.getD i .none) u := by
  obtain ⟨u, h1, h2⟩ := h.get (i := i) (a := xs[i]) (by simp [hi])
  exact ⟨u, h1, by simpa [List.getD, hi] using h2⟩

theorem notOwned {s : Shared} {t : Expr} {I : Addr} {u : Value} {o : Obj} {M : Model} {Q : Unit → Shared → Prop} (ho : s.heap.get? I = some o) (hc : (match o.cls, o.data with
    | .type n, .fields vs => !(["enumerate", "zip", "dict_itemiterator", "dict_reverseitemiterator", "odict_iterator", "itertools.zip_longest", "itertools.pairwise"].contains n)
    | _, _ => true) = true) (h : Q () s) : wpAny M A (letOwnedTupleGo t (.ref I) u) Q E s := by
  unfold letOwnedTupleGo
  split
  · cases u <;> try exact wpAny_pure h
    refine wpAny_bind (wpAny_load ho ?_)
    split
    · rename_i n vs e1 e2
      rw [e1, e2] at hc
      simp only [Bool.not_eq_true'] at hc
      rw [hc]; exact wpAny_pure h
    · exact wpAny_pure h
  · cases u <;> try exact wpAny_pure h
    refine wpAny_bind (wpAny_load ho ?_)
    split
    · rename_i n vs e1 e2
      rw [e1, e2] at hc
      simp only [Bool.not_eq_true'] at hc
      rw [hc]; exact wpAny_pure h
    · exact wpAny_pure h
  · exact wpAny_pure h

theorem Itb_list {v : V} {xs : List V} (hA : A.handled = none) (b : ObjAt C σ v (.list xs)) : Itb C A v σ xs.length (fun i => xs.getD i .none) (fun σ' => ObjAt C σ' v (.list xs)) E := by
  refine ⟨?_⟩
  intro ad s x hr rv
  obtain ⟨a, vs, rfl, hl, rvs⟩ := b.list hr rv
  refine wpAny_pyIter_list hl ⟨s.heap.objs.size, fun i h => h.IsListIter s.heap.objs.size a i, rfl, ?_, ?_, Nat.le_refl _, Nx.push _ hr⟩
  · refine ⟨?_, ?_, ?_, ?_, fun i s Q E st hQ => wpAny_pyIter_listiter st hQ, ?_⟩
    · rintro i h h' ⟨o, ho, r⟩ e
      exact ⟨o, by rw [e]; exact ho, r⟩
    · rintro i h ⟨o, ho, r⟩; exact ⟨o, ho⟩
    · rintro i ad' σ' s' Q E' hi ⟨nw, rfl⟩ hr' b' st hQ
      obtain ⟨a', vs', e, hl', rvs'⟩ := b'.list hr' (rv.mono (nw := nw))
      cases e
      obtain ⟨u, hu, ru⟩ := rvs'.getD hi
      exact wpAny_pyNext_list_item st hl' (x := u) (by rw [← Array.getElem?_toList]; exact hu) fun h' hit hs => hQ u h' s'.toks ru hit hs
    · rintro ad' σ' s' Q E' ⟨nw, rfl⟩ hr' b' st hQ
      obtain ⟨a', vs', e, hl', rvs'⟩ := b'.list hr' (rv.mono (nw := nw))
      cases e
      refine wpAny_pyNext_list_end hA st hl' ?_ fun h' he => ?_
      · rw [← Array.getElem?_toList]; exact List.getElem?_eq_none (by rw [← rvs'.length]; exact Nat.le_refl _)
      · exact hQ h' s'.toks fun b o hb e => he b o hb e
    · rintro i s' t u Q E' ⟨o, ho, hc, hd⟩ hq
      exact notOwned ho (by rw [hc, hd]; rfl) hq
  · exact ⟨_, Heap.get?_push_size _ rfl, rfl, rfl⟩
end
end Mine

-- part Aw6
set_option autoImplicit false
set_option linter.unusedVariables false
namespace Mine
open PySem PyProof.Rows

section
variable {C : Cx} {A : Around} {env : Env} {ρ : Loc} {σ : AH} {E : EX} {Q : V → AH → Prop}

theorem PE.here {ad : List Addr} {s : Shared} {v : V} {u : Value} (hr : HR C ad σ s.heap) (rv : RV ad v u) (h : Q v σ) : PE C ad s Q u s := ⟨ad, σ, v, Nx.refl hr, rv, h⟩
theorem PE.tok {ad : List Addr} {s : Shared} {v : V} {u : Value} (t : Nat) (hr : HR C ad σ s.heap) (rv : RV ad v u) (h : Q v σ) : PE C ad s Q u { s with toks := t } := ⟨ad, σ, v, Nx.tok t hr, rv, h⟩
theorem Nx.keeps {ad : List Addr} {s : Shared} {h' : Heap} {tk : Nat} (hz : s.heap.objs.size ≤ h'.objs.size) (hr : HR C ad σ s.heap) (k : ∀ b o, s.heap.get? b = some o → h'.get? b = some o) : Nx C [] ad s ad σ { s with heap := h', toks := tk } :=
  ⟨⟨h', tk, rfl⟩, ⟨[], by simp, by simp⟩, hz, fun b o e _ _ => k b o e, hr.keeps k⟩

/- ints -/
theorem add_ii {i j : Int} (h : Q (.int (i + j)) σ) : WOp2 C A (binaryOp .Add) (.int i) (.int j) σ Q E := by
  refine ⟨?_⟩
  rintro ad s x y hr ⟨t, rfl⟩ ⟨u, rfl⟩
  exact wpAny_add_int (PE.tok (v := .int (i + j)) _ hr ⟨_, rfl⟩ h)
theorem sub_ii {i j : Int} (h : Q (.int (i - j)) σ) : WOp2 C A (binaryOp .Sub) (.int i) (.int j) σ Q E := by
  refine ⟨?_⟩
  rintro ad s x y hr ⟨t, rfl⟩ ⟨u, rfl⟩
  exact sub_int' (PE.tok (v := .int (i - j)) _ hr ⟨_, rfl⟩ h)
theorem mul_ii {i j : Int} (hm : IntMulOk i j) (h : Q (.int (i * j)) σ) : WOp2 C A (binaryOp .Mult) (.int i) (.int j) σ Q E := by
  refine ⟨?_⟩
  rintro ad s x y hr ⟨t, rfl⟩ ⟨u, rfl⟩
  exact mul_int (PE.tok (v := .int (i * j)) _ hr ⟨_, rfl⟩ h) hm
theorem mod_ii {i j : Int} (hj : j ≠ 0) (h : Q (.int (i.fmod j)) σ) : WOp2 C A (binaryOp .Mod) (.int i) (.int j) σ Q E := by
  refine ⟨?_⟩
  rintro ad s x y hr ⟨t, rfl⟩ ⟨u, rfl⟩
  refine mod_int' hj ?_
  exact (PE.tok (v := .int (i.fmod j)) _ hr ⟨_, rfl⟩ h)
theorem neg_i {i : Int} (h : Q (.int (-i)) σ) : WOp1 C A (unaryOp .USub) (.int i) σ Q E := by
  refine ⟨?_⟩
  rintro ad s x hr ⟨t, rfl⟩
  exact neg_int (PE.tok (v := .int (-i)) _ hr ⟨_, rfl⟩ h)
theorem lt_ii {i j : Int} (h : Q (.bool (decide (i < j))) σ) : WOp2 C A (compareOp .Lt) (.int i) (.int j) σ Q E := by
  refine ⟨?_⟩
  rintro ad s x y hr ⟨t, rfl⟩ ⟨u, rfl⟩
  exact lt_int (PE.here (v := .bool _) hr rfl h)
theorem gt_ii {i j : Int} (h : Q (.bool (decide (j < i))) σ) : WOp2 C A (compareOp .Gt) (.int i) (.int j) σ Q E := by
  refine ⟨?_⟩
  rintro ad s x y hr ⟨t, rfl⟩ ⟨u, rfl⟩
  exact gt_int (PE.here (v := .bool _) hr rfl h)
theorem eq_ii {i j : Int} (h : Q (.bool (i == j)) σ) : WOp2 C A (compareOp .Eq) (.int i) (.int j) σ Q E := by
  refine ⟨?_⟩
  rintro ad s x y hr ⟨t, rfl⟩ ⟨u, rfl⟩
  exact eq_int (PE.here (v := .bool _) hr rfl h)
theorem ne_ii {i j : Int} (h : Q (.bool (i != j)) σ) : WOp2 C A (compareOp .NotEq) (.int i) (.int j) σ Q E := by
  refine ⟨?_⟩
  rintro ad s x y hr ⟨t, rfl⟩ ⟨u, rfl⟩
  exact ne_int (PE.here (v := .bool _) hr rfl h)
theorem eq_ss {i j : Str} (h : Q (.bool (i == j)) σ) : WOp2 C A (compareOp .Eq) (.str i) (.str j) σ Q E := by
  refine ⟨?_⟩
  rintro ad s x y hr ⟨t, rfl⟩ ⟨u, rfl⟩
  exact eq_str (PE.here (v := .bool _) hr rfl h)
/- deep data -/
mutual
inductive Rd (C : Cx) (σ : AH) : V → PyData → Prop
  | none : Rd C σ .none .none
  | bool {b : Bool} : Rd C σ (.bool b) (.bool b)
  | int {i : Int} : Rd C σ (.int i) (.int i)
  | str {s : Str} : Rd C σ (.str s) (.str s)
  | list {v : V} {xs : List V} {ds : List PyData} : ObjAt C σ v (.list xs) → RdAll C σ xs ds → Rd C σ v (.list ds)
  | tuple {v : V} {xs : List V} {ds : List PyData} : ObjAt C σ v (.tuple xs) → RdAll C σ xs ds → Rd C σ v (.tuple ds)
inductive RdAll (C : Cx) (σ : AH) : List V → List PyData → Prop
  | nil : RdAll C σ [] []
  | cons {v : V} {d : PyData} {vs : List V} {ds : List PyData} : Rd C σ v d → RdAll C σ vs ds → RdAll C σ (v :: vs) (d :: ds)
end
mutual
theorem Rd.reads {ad : List Addr} {h : Heap} (hr : HR C ad σ h) : ∀ {v : V} {d : PyData}, Rd C σ v d → ∀ {x : Value}, RV ad v x → ∃ as, Reads h x d as
  | _, _, .none, _, rfl => ⟨_, .none⟩
  | _, _, .bool, _, rfl => ⟨_, .bool _⟩
  | _, _, .int, _, ⟨_, e⟩ => by subst e; exact ⟨_, .int _ _⟩
  | _, _, .str, _, ⟨_, e⟩ => by subst e; exact ⟨_, .str _ _⟩
  | _, _, .list b r, x, rv => by
    obtain ⟨a, vs, e, ⟨o, ho, hc, n, hd⟩, rvs⟩ := b.list hr rv
    obtain ⟨as, ra⟩ := RdAll.reads hr r rvs
    subst e
    exact ⟨_, .list ho hc hd ra⟩
  | _, _, .tuple b r, x, rv => by
    obtain ⟨a, vs, e, ⟨o, ho, hc, n, hd⟩, rvs⟩ := b.tup hr rv
    obtain ⟨as, ra⟩ := RdAll.reads hr r rvs
    subst e
    exact ⟨_, .tuple ho hc hd ra⟩
theorem RdAll.reads {ad : List Addr} {h : Heap} (hr : HR C ad σ h) : ∀ {vs : List V} {ds : List PyData}, RdAll C σ vs ds → ∀ {xs : List Value}, RVs ad vs xs → ∃ as, ReadsAll h xs ds as
  | _, _, .nil, _, .nil => ⟨_, .nil⟩
  | _, _, .cons r rs, _, .cons v vs => by
    obtain ⟨as, ra⟩ := Rd.reads hr r v
    obtain ⟨bs, rb⟩ := RdAll.reads hr rs vs
    exact ⟨_, .cons ra rb⟩
end
theorem eq_dd {a b : V} {da db : PyData} (ra : Rd C σ a da) (rb : Rd C σ b db) (ha : SeqAt.shaped da = true) (hb : SeqAt.shaped db = true) (hu : A.units + 64 < cLine) (h : Q (.bool (PyData.eqv da db)) σ) : WOp2 C A (compareOp .Eq) a b σ Q E := by
  refine ⟨?_⟩
  intro ad s x y hr rx ry
  obtain ⟨as, r1⟩ := ra.reads hr rx
  obtain ⟨bs, r2⟩ := rb.reads hr ry
  exact eq_dataH r1 r2 ha hb hu (PE.here (v := .bool _) hr rfl h)
/- new objects -/
theorem HR.alloc {ad : List Addr} {h : Heap} {o : O} {ob : Obj} (hr : HR C ad σ h) (ro : RO C.w.params ad o ob) : HR C (ad ++ [h.objs.size]) (σ ++ [o]) (h.push ob) := by
  have hf := ro.notFreed
  obtain ⟨hG, hn⟩ := hr.fresh (Nat.le_refl _)
  refine ⟨hr.ok, fun b x e => Heap.get?_push_of_some _ (hr.keep b x e), by simp [hr.len], ?_, ?_, fun a ha => (List.mem_append.mp ha).elim (hr.low a) (fun hm => by rw [List.mem_singleton.mp hm]; exact hr.freshLow (Nat.le_refl _)), ?_⟩
  · refine List.nodup_append.mpr ⟨hr.nd, by simp, ?_⟩
    intro a ha b hb e
    simp only [List.mem_singleton] at hb
    subst hb; subst e; exact hn ha
  · intro a ha
    rcases List.mem_append.mp ha with ha | ha
    · exact hr.off a ha
    · simp only [List.mem_singleton] at ha; subst ha; exact hG
  · intro i x a h1 h2
    by_cases hi : i < σ.length
    · rw [List.getElem?_append_left hi] at h1
      rw [List.getElem?_append_left (by rw [hr.len]; exact hi)] at h2
      obtain ⟨ob', h3, h4⟩ := hr.obj i x a h1 h2
      exact ⟨ob', Heap.get?_push_of_some _ h3, h4.mono⟩
    · have hi' : i = σ.length := by
        have := (List.getElem?_eq_some_iff.mp h1).1
        simp at this; omega
      subst hi'
      rw [List.getElem?_append_right (Nat.le_refl _)] at h1
      rw [List.getElem?_append_right (by rw [hr.len]; exact Nat.le_refl _)] at h2
      simp [hr.len] at h1 h2
      subst h1; subst h2
      exact ⟨ob, Heap.get?_push_size _ hf, ro.mono⟩
theorem Nx.alloc {ad : List Addr} {s : Shared} {o : O} {ob : Obj} (hr : HR C ad σ s.heap) (ro : RO C.w.params ad o ob) : Nx C [] ad s (ad ++ [s.heap.objs.size]) (σ ++ [o]) { s with heap := s.heap.push ob } :=
  ⟨⟨_, s.toks, rfl⟩, ⟨[s.heap.objs.size], rfl, by simp⟩, by simp [Heap.push], fun b x e _ _ => Heap.get?_push_of_some _ e, hr.alloc ro⟩
theorem RV.last {ad : List Addr} {a : Addr} : ∀ {n : Nat}, n = ad.length → RV (ad ++ [a]) (.ref n) (.ref a) := by rintro n rfl; exact ⟨a, by simp, rfl⟩

theorem WE_List {es : List Expr} {pos : Pos} (h : WL C A env es ρ σ (fun vs σ1 => vs.length ≤ sizeLine ∧ Q (.ref σ1.length) (σ1 ++ [.list vs])) E) : WE C A env (.List es pos) ρ σ Q E := by
  refine ⟨?_⟩
  intro ad s hr er
  refine List_ (wpAny_mono (h.run ad s pos hr er) ?_ fun _ _ x => x)
  rintro us s1 ⟨ad1, σ1, vs, n1, r1, hz, h1⟩
  refine wpAny_newObj_type ?_ (by show us.toArray.size ≤ sizeLine; rw [List.size_toArray, ← r1.length]; exact hz)
  exact PE.trans n1 ⟨_, _, .ref σ1.length, Nx.alloc n1.hr (o := .list vs) ⟨_, _, rfl, by simpa using r1⟩, RV.last n1.hr.len.symm, h1⟩
theorem WE_Tuple {es : List Expr} {k : Nat} {pos : Pos} (h : WL C A env es ρ σ (fun vs σ1 => vs.length ≤ sizeLine ∧ Q (.ref σ1.length) (σ1 ++ [.tuple vs])) E) : WE C A env (.Tuple es k pos) ρ σ Q E := by
  refine ⟨?_⟩
  intro ad s hr er
  refine Tuple_ (wpAny_mono (h.run ad s pos hr er) ?_ fun _ _ x => x)
  rintro us s1 ⟨ad1, σ1, vs, n1, r1, hz, h1⟩
  refine wpAny_newObj_type ?_ (by show us.toArray.size ≤ sizeLine; rw [List.size_toArray, ← r1.length]; exact hz)
  exact PE.trans n1 ⟨_, _, .ref σ1.length, Nx.alloc n1.hr (o := .tuple vs) ⟨_, _, rfl, by simpa using r1⟩, RV.last n1.hr.len.symm, h1⟩

/- items -/
def isSliceE : Expr → Bool
  | .Slice .. => true
  | _ => false
theorem slice_not {e : Expr} (h : isSliceE e = false) (o i : Value) : subscripted e false o i = operate [o, i] (getItem o i) := by
  cases e <;> first | rfl | cases h
structure WSub (C : Cx) (A : Around) (value slice : Expr) (a b : V) (σ : AH) (Q : V → AH → Prop) (E : EX) : Prop where
  run : ∀ ad s x y, HR C ad σ s.heap → RV ad a x → RV ad b y → wpAny (model C.prog C.w) A (subscriptTail value slice x y) (PE C ad s Q) E s
theorem WE_Sub {value slice : Expr} {pos : Pos} (h : WE C A env value ρ σ (fun a σ1 => WE C A env slice ρ σ1 (fun b σ2 => WSub C A value slice a b σ2 Q E) E) E) : WE C A env (.Subscript value slice pos) ρ σ Q E := by
  refine ⟨?_⟩
  intro ad s hr er
  refine Subscript_ (wpAny_mono (h.run ad s hr er) ?_ fun _ _ x => x)
  rintro a s1 ⟨ad1, σ1, va, n1, r1, h1⟩
  refine wpAny_mono (h1.run ad1 s1 n1.hr (er.next n1)) ?_ fun _ _ x => x
  rintro b s2 ⟨ad2, σ2, vb, n2, r2, h2⟩
  exact wpAny_mono (h2.run ad2 s2 a b n2.hr (n2.rv r1) r2) (fun u s' p => PE.trans (n1.trans n2) p) fun _ _ x => x
theorem item_list {value slice : Expr} {v : V} {xs : List V} {k : Int} {x : V} (b : ObjAt C σ v (.list xs)) (h0 : 0 ≤ k) (hf : k < 2 ^ 63) (hx : xs[k.toNat]? = some x) (h : Q x σ)
    (hs : isSliceE slice = false := by rfl) : WSub C A value slice v (.int k) σ Q E := by
  refine ⟨?_⟩
  rintro ad s y z hr rv ⟨t, rfl⟩
  obtain ⟨a, vs, rfl, hl, rvs⟩ := b.list hr rv
  obtain ⟨u, hu, ru⟩ := rvs.get hx
  exact tail_any hl.typeIs slot_list_getitem.lookup (wpAny_getItem_list hl h0 hf (by rw [← Array.getElem?_toList]; exact hu) (PE.here hr ru h)) (slice_not hs _ _)
end
end Mine

-- part Aw7
set_option autoImplicit false
set_option linter.unusedVariables false
namespace Mine
open PySem PySem.W PyProof.Rows

def Callable (C : Cx) (v : Value) : Prop := ∀ h, (∀ b o, C.G.get? b = some o → h.get? b = some o) → ∃ k, (k = Keeper.frame ∨ k = Keeper.machine ∨ k = Keeper.boundFrame) ∧ Looks (model C.prog C.w) h (keeperOf v) k
theorem callable_builtin {C : Cx} {id : String} : Callable C (.builtin id) := fun h _ => ⟨.machine, .inr (.inl rfl), Looks.of_pure rfl⟩
theorem callable_type {C : Cx} {id : String} : Callable C (.type id) := fun h _ => ⟨.machine, .inr (.inl rfl), Looks.of_pure rfl⟩
theorem callable_K {C : Cx} {K : Frag} {v : Value} (X : K.In C.G) (hk : keepIn K v = true) : Callable C v := fun h k => keeps_K hk h (X.keeps k)

structure WM (C : Cx) (A : Around) (v : V) (name : Str) (σ : AH) (K : Value → List V → AH → Prop) (E : EX) : Prop where
  run : ∀ ad (s : Shared) x pl, HR C ad σ s.heap → RV ad v x → wpAny (model C.prog C.w) A (getMethod x name pl) (fun fx s' => ∃ ad' σ' first, Nx C [] ad s ad' σ' s' ∧ RVs ad' first fx.2 ∧ K fx.1 first σ') E s

section
variable {C : Cx} {A : Around} {env : Env} {ρ : Loc} {σ : AH} {E : EX} {Q : V → AH → Prop}

theorem RVs.append {ad : List Addr} {a b : List V} {x y : List Value} (h : RVs ad a x) (h' : RVs ad b y) : RVs ad (a ++ b) (x ++ y) := by
  induction h with
  | nil => exact h'
  | cons r _ ih => exact .cons r ih

/-- no starred argument -/
def noStar : List Expr → Bool
  | [] => true
  | .Starred _ _ :: _ => false
  | _ :: r => noStar r
theorem noStar_cons {e : Expr} {r : List Expr} (env : Env) (h : noStar (e :: r) = true) : starEach (e :: r) env = (false, eval e env) :: starEach r env ∧ noStar r = true := by
  cases e <;> first | exact ⟨rfl, h⟩ | cases h
theorem noStar_any {pos : Pos} : ∀ {es : List Expr} (env : Env), noStar es = true → (backTo pos (starEach es env)).any (·.1) = false
  | [], _, _ => rfl
  | e :: r, env, h => by
    obtain ⟨h1, h2⟩ := noStar_cons env h
    rw [h1]
    show (false || (backTo pos (starEach r env)).any (·.1)) = false
    rw [noStar_any env h2]; rfl

theorem callWith_gen {f : Value} {fs : List Value} {args : List Expr} {pos : Pos} {s : Shared} {P : Value → Shared → Prop} (hc : Callable C f) (hns : noStar args = true)
    (go : wpAny (model C.prog C.w) A (spliced (backTo pos (starEach args env))) (fun vs s' => (∀ b o, C.G.get? b = some o → s'.heap.get? b = some o) ∧ wpAny (model C.prog C.w) A (call f (fs ++ vs) []) P E s') E s) :
    wpAny (model C.prog C.w) A (callWith pos f fs (backTo pos (starEach args env)) []) P E s := by
  refine callWith_of (P := fun h => ∀ b o, C.G.get? b = some o → h.get? b = some o) (by rw [noStar_any env hns]; rfl) (fun h k => hc h k) ?_
  cases args with
  | nil =>
    have go' : wpAny (model C.prog C.w) A (spliced []) (fun vs s' => (∀ b o, C.G.get? b = some o → s'.heap.get? b = some o) ∧ wpAny (model C.prog C.w) A (call f (fs ++ vs) []) P E s') E s := go
    show wpAny (model C.prog C.w) A (evalArgs f true [] []) _ E s
    unfold evalArgs
    show wpAny _ A (spliced [] >>= _) _ E s
    refine wpAny_bind (wpAny_mono go' (fun vs s' h' => wpAny_bind (wpAny_pure ?_)) fun _ _ x => x)
    refine wpAny_holding ?_
    exact wpAny_bind (wpAny_pure (wpAny_pure h'))
  | cons e r =>
    obtain ⟨h1, h2⟩ := noStar_cons env hns
    rw [h1] at go ⊢
    exact Calls.evalArgs_plain go
theorem callWith_go {f : Value} {first : List V} {fs : List Value} {args : List Expr} {pos : Pos} {ad : List Addr} {s : Shared} (hc : Callable C f) (hns : noStar args = true) (hr : HR C ad σ s.heap) (er : ER C env ρ ad s.heap) (rf : RVs ad first fs)
    (h : WL C A env args ρ σ (fun vs σ2 => WC C A f (first ++ vs) σ2 Q E) E) : wpAny (model C.prog C.w) A (callWith pos f fs (backTo pos (starEach args env)) []) (PE C ad s Q) E s := by
  refine callWith_gen hc hns (wpAny_mono (h.run ad s pos hr er) ?_ fun _ _ x => x)
  rintro us s1 ⟨ad1, σ1, vs, n1, r1, h1⟩
  exact ⟨n1.hr.keep, wpAny_mono (h1.run ad1 s1 _ n1.hr ((n1.rvs rf).append r1)) (fun u s' p => PE.trans n1 p) fun _ _ x => x⟩

theorem WE_call {C : Cx} {l : List (Str × Value)} {id : Str} {p pos : Pos} {args : List Expr} {f : Value} (hx : (id, f) ∈ l) (hc : Callable C f) (h : WL (C.wg l) A env args ρ σ (fun vs σ2 => WC (C.wg l) A f vs σ2 Q E) E) (hns : noStar args = true := by rfl) :
    WE (C.wg l) A env (.Call (.Name id p) args [] pos) ρ σ Q E := by
  refine ⟨?_⟩
  intro ad s hr er
  refine wpAny_Call_Name_kw ?_
  have := (WE_glob (C := C) (A := A) (env := env) (ρ := ρ) (σ := σ) (E := E) (pos := p) (Q := fun v σ1 => v = .k f ∧ σ1 = σ) hx ⟨rfl, rfl⟩).run ad s hr er
  refine wpAny_mono this ?_ fun _ _ x => x
  rintro u s1 ⟨ad1, σ1, v, n1, r1, rfl, rfl⟩
  cases r1
  refine wpAny_mono (callWith_go (first := []) (fs := []) hc hns n1.hr (er.next n1) .nil h) (fun u s' p => PE.trans n1 p) fun _ _ x => x
def plainBase : Expr → Bool
  | .Call .. => false
  | _ => true
theorem noStar_all {pos : Pos} : ∀ {es : List Expr} (env : Env), noStar es = true → (backTo pos (starEach es env)).all (!·.1) = true
  | [], _, _ => rfl
  | e :: r, env, h => by
    obtain ⟨h1, h2⟩ := noStar_cons env h
    rw [h1]
    show (true && (backTo pos (starEach r env)).all (!·.1)) = true
    rw [noStar_all env h2]; rfl
theorem meth_eval {o : Expr} {name : Str} {apos pos : Pos} {args : List Expr} {env : Env} (h1 : plainBase o = true) (h2 : noStar args = true) (h3 : Nat.ble args.length 28 = true) (h4 : (apos.endLine == pos.line) = true) :
    ∃ pl, eval (.Call (.Attribute o name apos) args [] pos) env = (do
      let ov ← eval o env
      standAt apos.atName
      let (f, first) ← holding [ov] (getMethod ov name pl)
      callWith pos f first (backTo pos (starEach args env)) (backToKw pos (keywordEach [] env))) := by
  refine ⟨(do return (← importBound o env).getD true), ?_⟩
  rw [arm_eval_Call]
  have e1 : attributeBase o name env (eval o env) = eval o env := by cases o <;> first | rfl | cases h1
  have e2 : methodCallForm (args.length + ([] : List Keyword).length) (backTo pos (starEach args env)) (backToKw pos (keywordEach [] env)) = true := by
    unfold methodCallForm
    rw [noStar_all env h2]
    have := Nat.le_of_ble_eq_true h3
    simp [backToKw, keywordEach]
    omega
  rw [e1]
  unfold methodCall calleeOf methodCallPos
  rw [e2, h4]
  rfl
theorem WE_meth {o : Expr} {name : Str} {apos pos : Pos} {args : List Expr} (h : WE C A env o ρ σ (fun v σ1 => WM C A v name σ1 (fun f first σ2 => Callable C f ∧ WL C A env args ρ σ2 (fun vs σ3 => WC C A f (first ++ vs) σ3 Q E) E) E) E) (h1 : plainBase o = true := by rfl) (hns : noStar args = true := by rfl)
    (h3 : Nat.ble args.length 28 = true := by rfl) (h4 : (apos.endLine == pos.line) = true := by rfl) :
    WE C A env (.Call (.Attribute o name apos) args [] pos) ρ σ Q E := by
  refine ⟨?_⟩
  intro ad s hr er
  obtain ⟨pl, he⟩ := meth_eval (o := o) (name := name) (env := env) h1 hns h3 h4
  refine methodCall_KW (pl := pl) ?_ he
  refine wpAny_mono (h.run ad s hr er) ?_ fun _ _ x => x
  rintro u s1 ⟨ad1, σ1, v, n1, r1, h1⟩
  refine wpAny_mono (h1.run ad1 s1 u pl n1.hr r1) ?_ fun _ _ x => x
  rintro fx s2 ⟨ad2, σ2, first, n2, r2, hc, h2⟩
  exact wpAny_mono (callWith_go hc hns n2.hr ((er.next n1).next n2) r2 h2) (fun u s' p => PE.trans (n1.trans n2) p) fun _ _ x => x

/- the heap's objects changed -/
theorem HR.set {ad : List Addr} {h h' : Heap} {j : Nat} {a : Addr} {o : O} {ob : Obj} (hr : HR C ad σ h) (hj : ad[j]? = some a) (hs : Heap.SameBut a h h') (ho : h'.get? a = some ob) (ro : RO C.w.params ad o ob) : HR C ad (σ.set j o) h' := by
  refine ⟨hr.ok, fun b x e => (hs.2 b ?_).trans (hr.keep b x e), by simp [hr.len], hr.nd, hr.off, hr.low, fun i x b h1 h2 => ?_⟩
  · rintro rfl; rw [hr.off b (List.mem_of_getElem? hj)] at e; cases e
  · by_cases hij : i = j
    · subst hij
      rw [hj] at h2; cases h2
      have hl : i < σ.length := by have := (List.getElem?_eq_some_iff.mp h1).1; simpa using this
      rw [List.getElem?_set_self hl] at h1; cases h1
      exact ⟨ob, ho, ro⟩
    · rw [List.getElem?_set_ne (Ne.symm hij)] at h1
      obtain ⟨ob', h3, h4⟩ := hr.obj i x b h1 h2
      refine ⟨ob', (hs.2 b ?_).trans h3, h4⟩
      rintro rfl
      exact hij ((List.getElem?_inj (List.getElem?_eq_some_iff.mp h2).1 hr.nd).mp (h2.trans hj.symm))
theorem Nx.set {ad : List Addr} {s : Shared} {h' : Heap} {tk : Nat} {j : Nat} {a : Addr} {o : O} {ob : Obj} (hr : HR C ad σ s.heap) (hj : ad[j]? = some a) (hs : Heap.SameBut a s.heap h') (ho : h'.get? a = some ob) (ro : RO C.w.params ad o ob) :
    Nx C [] ad s ad (σ.set j o) { s with heap := h', toks := tk } :=
  ⟨⟨h', tk, rfl⟩, ⟨[], by simp, by simp⟩, Nat.le_of_eq hs.1.symm, fun b x e hb _ => (hs.2 b fun e' => hb (e' ▸ List.mem_of_getElem? hj)).trans e, hr.set hj hs ho ro⟩

/- list.append -/
theorem WM_append {j : Nat} {xs : List V} {K : Value → List V → AH → Prop} (b : σ[j]? = some (.list xs)) (h : K (.builtin "list.append") [.ref j] σ) : WM C A (.ref j) "append" σ K E := by
  refine ⟨?_⟩
  rintro ad s x pl hr ⟨a, ha, rfl⟩
  obtain ⟨ob, h1, vs, n, e2, h2⟩ := hr.obj j _ a b ha
  subst e2
  exact Calls.getMethod_list_append h1 rfl rfl ⟨ad, σ, [.ref j], Nx.refl hr, .cons ⟨a, ha, rfl⟩ .nil, h⟩
theorem WC_append {j : Nat} {xs : List V} {x : V} (b : σ[j]? = some (.list xs)) (hz : xs.length ≤ sizeLine) (h : Q .none (σ.set j (.list (xs ++ [x])))) : WC C A (.builtin "list.append") [.ref j, x] σ Q E := by
  refine ⟨?_⟩
  rintro ad s us hr (_ | ⟨⟨a, ha, rfl⟩, _ | ⟨r2, _ | _⟩⟩)
  obtain ⟨ob, h1, vs, n, e2, rvs⟩ := hr.obj j _ a b ha
  subst e2
  refine wpAny_list_append_plain ⟨n, h1⟩ (fun h' hp hs => ?_) (by rw [← Array.length_toList, ← rvs.length]; exact hz)
  obtain ⟨n', h3⟩ := hp
  exact ⟨ad, _, .none, Nx.set (o := .list (xs ++ [x])) hr ha hs h3 ⟨_, n', rfl, by rw [Array.toList_push]; exact rvs.append (.cons r2 .nil)⟩, rfl, h⟩

/- built-ins -/
theorem WC_len {v : V} {xs : List V} (b : ObjAt C σ v (.list xs)) (hz : (xs.length : Int) < 2 ^ 63) (h : Q (.int xs.length) σ) : WC C A (.builtin "len") [v] σ Q E := by
  refine ⟨?_⟩
  rintro ad s us hr (_ | ⟨rv, _ | _⟩)
  obtain ⟨a, vs, rfl, hl, rvs⟩ := b.list hr rv
  have e : vs.size = xs.length := by rw [← Array.length_toList, ← rvs.length]
  exact Calls.call_len_list hl (by rw [e]; exact hz) (PE.tok (v := .int xs.length) _ hr ⟨_, by rw [e]⟩ h)
theorem WC_min {i j : Int} (hA : A.handled = none) (h : Q (.int (min i j)) σ) : WC C A (.builtin "min") [.int i, .int j] σ Q E := by
  refine ⟨?_⟩
  rintro ad s us hr (_ | ⟨⟨t, rfl⟩, _ | ⟨⟨u, rfl⟩, _ | _⟩⟩)
  refine wpAny_sz (min_two_ints hA fun h' tk hk hz => ⟨ad, σ, .int (min i j), Nx.keeps hz hr hk, ?_, h⟩)
  by_cases hij : j < i
  · rw [if_pos hij]; exact ⟨u, by rw [Int.min_eq_right (Int.le_of_lt hij)]⟩
  · rw [if_neg hij]; exact ⟨t, by rw [Int.min_eq_left (Int.not_lt.mp hij)]⟩
/- tuples taken apart -/
structure WAsL (C : Cx) (A : Around) (env : Env) (ts : List Expr) (vs : List V) (ρ : Loc) (σ : AH) (Q : Loc → AH → Prop) (E : EX) : Prop where
  run : ∀ ad (s : Shared) us, HR C ad σ s.heap → ER C env ρ ad s.heap → RVs ad vs us →
    wpAny (model C.prog C.w) A (assignInOrder ((assignEach ts env).map (·.2)) us) (fun _ s' => ∃ ad' σ' ρ', Nx C (fa env) ad s ad' σ' s' ∧ ER C env ρ' ad' s'.heap ∧ Q ρ' σ') E s
theorem WAsL_nil {Q : Loc → AH → Prop} (h : Q ρ σ) : WAsL C A env [] [] ρ σ Q E := by
  refine ⟨?_⟩
  rintro ad s us hr er ⟨⟩
  exact wpAny_pure ⟨ad, σ, ρ, Nx.refl hr, er, h⟩
theorem WAsL_cons {t : Expr} {ts : List Expr} {v : V} {vs : List V} {Q : Loc → AH → Prop} (h : WAs C A env t v ρ σ (fun ρ1 σ1 => WAsL C A env ts vs ρ1 σ1 Q E) E)
    (he : starE t = false := by rfl) : WAsL C A env (t :: ts) (v :: vs) ρ σ Q E := by
  refine ⟨?_⟩
  rintro ad s us hr er (_ | ⟨r, rs⟩)
  rw [assign_not he]
  show wpAny _ A (assignInOrder (assign t env :: _) (_ :: _)) _ E s
  unfold assignInOrder
  refine wpAny_bind (wpAny_holding (wpAny_mono (h.run ad s _ hr er r) ?_ fun _ _ x => x))
  rintro _ s1 ⟨ad1, σ1, ρ1, n1, er1, h1⟩
  refine wpAny_mono (h1.run ad1 s1 _ n1.hr er1 (n1.rvs rs)) ?_ fun _ _ x => x
  rintro _ s2 ⟨ad2, σ2, ρ2, n2, er2, h2⟩
  exact ⟨ad2, σ2, ρ2, n1.trans n2, er2, h2⟩
theorem noStar_asg {e : Expr} {r : List Expr} (env : Env) (h : noStar (e :: r) = true) : assignEach (e :: r) env = (false, assign e env) :: assignEach r env ∧ noStar r = true := by
  cases e <;> first | exact ⟨rfl, h⟩ | cases h
theorem noStar_len (env : Env) : ∀ {ts : List Expr}, noStar ts = true → (assignEach ts env).length = ts.length
  | [], _ => rfl
  | e :: r, h => by
    obtain ⟨h1, h2⟩ := noStar_asg env h
    rw [h1, List.length_cons, List.length_cons, noStar_len env h2]
theorem noStar_idx (env : Env) : ∀ {ts : List Expr}, noStar ts = true → (assignEach ts env).findIdx? (·.1) = none
  | [], _ => rfl
  | e :: r, h => by
    obtain ⟨h1, h2⟩ := noStar_asg env h
    rw [h1, List.findIdx?_cons, noStar_idx env h2]; rfl
theorem WAs_tuple {ts : List Expr} {k : Nat} {p : Pos} {v : V} {vs : List V} {Q : Loc → AH → Prop} (hA : A.handled = none) (b : ObjAt C σ v (.tuple vs)) (h : WAsL C A env ts vs ρ σ Q E)
    (hn : ts.length = vs.length := by rfl) (hst : noStar ts = true := by rfl) : WAs C A env (.Tuple ts k p) v ρ σ Q E := by
  refine ⟨?_⟩
  intro ad s u hr er rv
  obtain ⟨a, us, rfl, hl, rvs⟩ := b.tup hr rv
  rw [arm_assign_Tuple]
  refine wpAny_bind (wpAny_standAt ?_)
  unfold unpack
  have e : (assignEach ts env).length = us.size := by rw [noStar_len env hst, hn, ← Array.length_toList, ← rvs.length]
  rw [e, noStar_idx env hst]
  refine wpAny_bind (wpAny_holding (wpAny_sz (wpAny_unpackItems_tuple hA hl fun h' he hz => ?_)))
  have hk : ∀ b o, s.heap.get? b = some o → h'.get? b = some o := fun b o e => he b o (Nat.ne_of_lt (Heap.lt_size e)) e
  have n1 : Nx C [] ad s ad σ { s with heap := h' } := Nx.keeps (tk := s.toks) hz hr hk
  refine wpAny_mono (h.run ad _ _ n1.hr (er.next n1) rvs) ?_ fun _ _ x => x
  rintro _ s2 ⟨ad2, σ2, ρ2, n2, er2, h2⟩
  exact ⟨ad2, σ2, ρ2, n1.weak.trans n2, er2, h2⟩
def isTupE : Expr → Bool
  | .Tuple .. => true
  | _ => false
theorem WS_expr {e : Expr} {pos : Pos} {Q : Fl → Loc → AH → Prop} (h : WE C A env e ρ σ (fun v σ1 => Q .next ρ σ1) E) (hs : isCompE e = false := by rfl) : WS C A env (.Expr e pos) ρ σ Q E := by
  refine ⟨?_⟩
  intro ad s hr er
  refine wpAny_Expr_any (wpAny_mono (h.run ad s hr er) ?_ fun _ _ x => x) (by unfold interactive; rw [er.kind]; rfl) (swaps_not hs)
  rintro u s1 ⟨ad1, σ1, v, n1, r1, h1⟩
  exact PS.ofE er n1 (fl := .next) rfl h1
/- ranges -/
theorem rangeWk {I : Addr} {a c : Int} {n : Nat} {ad0 : List Addr} (hA : A.handled = none) : Wk C A ad0 I n (fun i => .int (a + i * c)) (fun _ => True) (fun i h => IsRangeIter h I (a + (i : Nat) * c) ((n : Int) - (i : Nat)) c) := by
  refine ⟨?_, ?_, ?_, ?_, fun i s Q E st hQ => wpAny_pyIter_rangeiter st hQ, ?_⟩
  · intro i h h' st e
    show h'.get? I = _
    rw [e]; exact st
  · intro i h st; exact ⟨_, st⟩
  · intro i ad σ' s Q E' hi _ hr _ st hQ
    refine wpAny_pyNext_range_item st (by omega) fun h' hit' hs' => ?_
    refine hQ _ h' _ ⟨_, rfl⟩ ?_ hs'
    have e1 : a + ((i + 1 : Nat) : Int) * c = a + (i : Int) * c + c := by push_cast; rw [Int.add_mul, Int.one_mul, Int.add_assoc]
    have e2 : (n : Int) - ((i + 1 : Nat) : Int) = (n : Int) - (i : Int) - 1 := by push_cast; omega
    rw [e1, e2]; exact hit'
  · intro ad σ' s Q E' _ hr _ st hQ
    exact wpAny_pyNext_range_end hA st (by omega) fun h' he' => hQ h' s.toks fun b o hb e => he' b o hb e
  · intro i s t u Q E' st hq
    exact notOwned st rfl hq
open Builtin.Range (rangeSize) in
/-- range's arguments -/
def rngArgs : List V → Option (Int × Int × Int)
  | [.int b] => some (0, b, 1)
  | [.int a, .int b] => some (a, b, 1)
  | [.int a, .int b, .int c] => some (a, b, c)
  | _ => none
theorem rng_small {a b c : Int} (ha : -(2 ^ 60) ≤ a ∧ a ≤ 2 ^ 60) (hb : -(2 ^ 60) ≤ b ∧ b ≤ 2 ^ 60) (hc : c ≠ 0) (hc' : -(2 ^ 30) < c ∧ c < 2 ^ 30) : Builtin.Range.small a b c = true := by
  have h1 : (0 ≤ Builtin.Range.rangeSize a b c ∧ Builtin.Range.rangeSize a b c ≤ 2 ^ 62) := by
    unfold Builtin.Range.rangeSize
    have d1 : ∀ x y : Int, 0 ≤ x → 0 < y → 0 ≤ x / y ∧ x / y ≤ x := fun x y hx hy => ⟨Int.ediv_nonneg hx (Int.le_of_lt hy), Int.ediv_le_self _ hx⟩
    split
    · split
      · have := d1 (b - a - 1) c (by omega) (by omega); omega
      · omega
    · split
      · have := d1 (a - b - 1) (-c) (by omega) (by omega); omega
      · omega
  unfold Builtin.Range.small Builtin.Range.rangeFitsLong
  simp only [Bool.and_eq_true, decide_eq_true_eq, Bool.or_eq_true, beq_iff_eq]
  refine ⟨⟨⟨⟨by omega, by omega⟩, by omega⟩, by omega⟩, .inr ?_⟩
  split
  · simp only [Bool.and_eq_true, decide_eq_true_eq]; omega
  · simp only [Bool.and_eq_true, decide_eq_true_eq]; omega
theorem WItr_range {C : Cx} {l : List (Str × Value)} {id : Str} {p pos : Pos} {args : List Expr} {K : Nat → (Nat → V) → (AH → Prop) → AH → Prop} (hA : A.handled = none) (hf : (id, Value.type "range") ∈ l)
    (h : WL (C.wg l) A env args ρ σ (fun vs σ1 => ∃ a b c, rngArgs vs = some (a, b, c) ∧ c ≠ 0 ∧ (-(2 ^ 60) ≤ a ∧ a ≤ 2 ^ 60) ∧ (-(2 ^ 60) ≤ b ∧ b ≤ 2 ^ 60) ∧ (-(2 ^ 30) < c ∧ c < 2 ^ 30) ∧ K (Builtin.Range.rangeSize a b c).toNat (fun i => .int (a + i * c)) (fun _ => True) σ1) E)
    (hns : noStar args = true := by rfl) : WItr (C.wg l) A env (.Call (.Name id p) args [] pos) ρ σ K E := by
  refine ⟨?_⟩
  intro ad s hr er
  refine wpAny_Call_Name_kw ?_
  have := (WE_glob (C := C) (A := A) (env := env) (ρ := ρ) (σ := σ) (E := E) (pos := p) (Q := fun v σ1 => v = .k (.type "range") ∧ σ1 = σ) hf ⟨rfl, rfl⟩).run ad s hr er
  refine wpAny_mono this ?_ fun _ _ x => x
  rintro u s1 ⟨ad1, σ1, v, n1, r1, rfl, rfl⟩
  cases r1
  refine callWith_gen (callable_type (C := C.wg l)) hns (wpAny_mono (h.run ad1 s1 pos n1.hr (er.next n1)) ?_ fun _ _ x => x)
  rintro us s2 ⟨ad2, σ2, vs, n2, r2, a, b, c, hv, hc0, ha, hb, hc, hk⟩
  refine ⟨n2.hr.keep, ?_⟩
  have n12 := n1.trans n2
  have sm := rng_small ha hb hc0 hc
  have fin : ∀ (s3 : Shared) (t u v : Tok), s3 = { s2 with heap := s2.heap.push { cls := .type "range", data := .fields #[.int a t, .int b u, .int c v] }, toks := s3.toks } →
      wpAny (model C.prog C.w) A (pyIter (.ref s2.heap.objs.size)) (fun it s2 => ∃ ad' σ' n P Cd I St, it = .ref I ∧ Wk (C.wg l) A ad' I n P Cd St ∧ St 0 s2.heap ∧ s.heap.objs.size ≤ I ∧ I ∉ ad' ∧ Nx (C.wg l) [] ad s ad' σ' s2 ∧ K n P Cd σ') E s3 := by
    intro s3 t u v e3
    have hh : s3.heap = s2.heap.push { cls := .type "range", data := .fields #[.int a t, .int b u, .int c v] } := by rw [e3]
    have n3 : Nx (C.wg l) [] ad2 s2 ad2 σ2 s3 := by rw [e3]; exact Nx.keeps (by simp [Heap.push]) n2.hr fun b o e => Heap.get?_push_of_some _ e
    refine wpAny_pyIter_range (t := t) (u := u) (v := v) (by rw [hh]; exact Heap.get?_push_size _ rfl) sm ?_
    have hsz : s.heap.objs.size ≤ s3.heap.objs.size := Nat.le_trans n12.size n3.size
    have h0 : 0 ≤ Builtin.Range.rangeSize a b c := by
      unfold Builtin.Range.rangeSize
      split
      · split
        · have := Int.ediv_nonneg (a := b - a - 1) (b := c) (by omega) (by omega); omega
        · omega
      · split
        · have := Int.ediv_nonneg (a := a - b - 1) (b := -c) (by omega) (by omega); omega
        · omega
    refine ⟨ad2, σ2, _, _, _, s3.heap.objs.size, _, rfl, rangeWk (a := a) (c := c) (n := (Builtin.Range.rangeSize a b c).toNat) hA, ?_, hsz, (n3.hr.fresh (Nat.le_refl _)).2, (n12.trans n3).trans (Nx.push _ n3.hr), hk⟩
    show (s3.heap.push _).get? _ = _
    rw [Heap.get?_push_size _ rfl]
    have e1 : ((Builtin.Range.rangeSize a b c).toNat : Int) = Builtin.Range.rangeSize a b c := Int.toNat_of_nonneg h0
    simp [e1]
  show wpAny _ A (call (.type "range") us) _ E s2
  have three : (∃ b', vs = [.int b'] ∧ (0, b', 1) = (a, b, c)) ∨ (∃ a' b', vs = [.int a', .int b'] ∧ (a', b', 1) = (a, b, c)) ∨ vs = [.int a, .int b, .int c] := by
    unfold rngArgs at hv
    split at hv
    · exact .inl ⟨_, rfl, Option.some.inj hv⟩
    · exact .inr (.inl ⟨_, _, rfl, Option.some.inj hv⟩)
    · cases hv; exact .inr (.inr rfl)
    · cases hv
  rcases three with ⟨b', rfl, e⟩ | ⟨a', b', rfl, e⟩ | rfl
  · cases e
    rcases r2 with _ | ⟨⟨t, rfl⟩, _ | _⟩
    exact call_range_1 (fin _ _ _ _ rfl)
  · cases e
    rcases r2 with _ | ⟨⟨t, rfl⟩, _ | ⟨⟨t', rfl⟩, _ | _⟩⟩
    exact call_range_2 (fin _ _ _ _ rfl)
  · rcases r2 with _ | ⟨⟨t, rfl⟩, _ | ⟨⟨t', rfl⟩, _ | ⟨⟨t'', rfl⟩, _ | _⟩⟩⟩
    exact call_range_3 hc0 (fin _ _ _ _ rfl) (.inl (PyProof.noPylong_small (by omega)))
end
end Mine

-- part Aw8
set_option autoImplicit false
set_option linter.unusedVariables false
namespace Mine
open PySem PySem.W PyProof.Rows

theorem szAnd {n : Nat} {P : Prop} (h : P) (hn : n ≤ sizeLine := by exact Nat.le_of_ble_eq_true rfl) : n ≤ sizeLine ∧ P := ⟨hn, h⟩
theorem ite_b {b : Bool} {P Q : Prop} (h1 : b = true → P) (h2 : b = false → Q) : if b = true then P else Q := by
  cases b with
  | true => exact h1 rfl
  | false => exact h2 rfl
theorem mul_small {a b : Int} (h1 : -(2 ^ 63) ≤ a) (h2 : a ≤ 2 ^ 63) : IntMulOk a b := IntMulOk.of_left (intBits_le_64 (by omega) (by omega))
theorem mul_small_r {a b : Int} (h1 : -(2 ^ 63) ≤ b) (h2 : b ≤ 2 ^ 63) : IntMulOk a b := IntMulOk.of_right (intBits_le_64 (by omega) (by omega))
theorem RVs.ints {vs : List Value} {ns : List Int} (h : IntsAre vs ns) : RVs [] (ns.map .int) vs := by
  induction h with
  | nil => exact .nil
  | cons => exact .cons ⟨_, rfl⟩ (by assumption)

/-- from a law's call in the abstract to the claim -/
theorem bridge (l : OpenLaw) {C : Cx} {w : World} {s₁ : Shared} {args : List WData} {cl : Str → Option Addr} {mean : ExcName → Option Value} {f a : Addr} (hp : C.prog = l.row.prog) (hw : C.w = w) (hG : C.G = s₁.heap) (ok : C.Ok) (hg : s₁.gens = #[])
    (h : WC C callerA (.ref f) [.k (.ref a)] [] (fun v _ => v = .bool true) (fun _ _ => False)) :
    wpAny (model l.row.prog w) callerA (call (.ref f) [.ref a]) (fun v s' => GoodWG l.row.claim cl mean args s₁ (.ok (.ret v)) s') (fun e s' => GoodWG l.row.claim cl mean args s₁ (.error e) s') s₁ := by
  subst hw
  rw [← hp]
  have hr : HR C [] [] s₁.heap := ⟨ok, (fun b o e => by rw [← hG]; exact e), rfl, List.nodup_nil, (fun _ h => nomatch h), (fun _ h => nomatch h), (fun i o a h => by simp at h)⟩
  refine wpAny_mono (h.run [] s₁ [.ref a] hr (.cons rfl .nil)) ?_ fun _ _ x => x.elim
  rintro u s' ⟨ad', σ', v, n, rv, rfl⟩
  cases rv
  obtain ⟨h', tk, e⟩ := n.eq
  refine GoodW.toG ⟨.inl ⟨.bool true, .bool true, [], rfl, fun cls => rfl, .bool true, ?_, unshared_nil⟩, fun b o e => n.hr.keep b o (by rw [hG]; exact e), by rw [e], by rw [e]; exact hg⟩
  exact postW_of (r := l.row.toRowW) rfl (w_eq_bool (w_res rfl) w_lit) rfl
end Mine

-- part Aw9
set_option autoImplicit false
set_option linter.unusedVariables false
namespace Mine
open PySem PySem.W PyProof.Rows

theorem ite_t {c : Bool} {P Q : Prop} (hc : c = true) (h : P) : if c = true then P else Q := by rw [if_pos hc]; exact h
theorem ite_f {c : Bool} {P Q : Prop} (hc : c = false) (h : Q) : if c = true then P else Q := by rw [if_neg (by rw [hc]; decide)]; exact h

section
variable {C : Cx} {A : Around} {env : Env} {ρ : Loc} {σ : AH} {E : EX} {Q : V → AH → Prop}

/-- a chain of two, as a test -/
theorem WB_Compare2 {l r r' : Expr} {op op' : CmpOp} {pos : Pos} {Q : Bool → AH → Prop}
    (h : WE C A env l ρ σ (fun a σ1 => WE C A env r ρ σ1 (fun b σ2 => WOp2 C A (compareOp op) a b σ2 (fun c σ3 => WTr C A c σ3 (fun t σ4 =>
      if t then WE C A env r' ρ σ4 (fun b' σ5 => WOp2 C A (compareOp op') b b' σ5 (fun c' σ6 => WTr C A c' σ6 Q E) E) E else Q false σ4) E) E) E) E)
    (hm : isSetE r' = false := by rfl) : WB C A env (.Compare l [op, op'] [r, r'] pos) ρ σ Q E := by
  refine ⟨?_⟩
  intro ad s hr er
  refine isTrue_chain (wpAny_mono (h.run ad s hr er) ?_ fun _ _ x => x) (marks_not hm)
  rintro a s1 ⟨ad1, σ1, va, n1, r1, h1⟩
  refine test_link (wpAny_mono (h1.run ad1 s1 n1.hr (er.next n1)) ?_ fun _ _ x => x)
  rintro b s2 ⟨ad2, σ2, vb, n2, r2, h2⟩
  refine wpAny_mono (h2.run ad2 s2 a b n2.hr (n2.rv r1) r2) ?_ fun _ _ x => x
  rintro c s3 ⟨ad3, σ3, vc, n3, r3, h3⟩
  refine wpAny_mono (h3.run ad3 s3 c n3.hr r3) ?_ fun _ _ x => x
  rintro t s4 ⟨ad4, σ4, n4, h4⟩
  have n14 := ((n1.trans n2).trans n3).trans n4
  cases t with
  | false => exact ⟨ad4, σ4, n14, h4⟩
  | true =>
    refine test_last (wpAny_mono (h4.run ad4 s4 n4.hr (er.next n14)) ?_ fun _ _ x => x)
    rintro b' s5 ⟨ad5, σ5, vb', n5, r5, h5⟩
    refine wpAny_mono (h5.run ad5 s5 b b' n5.hr (n5.rv (n4.rv (n3.rv r2))) r5) ?_ fun _ _ x => x
    rintro c' s6 ⟨ad6, σ6, vc', n6, r6, h6⟩
    exact wpAny_mono (h6.run ad6 s6 c' n6.hr r6) (fun u s' p => PB.trans ((n14.trans n5).trans n6) p) fun _ _ x => x

end
end Mine

-- part Aw10
set_option autoImplicit false
set_option linter.unusedVariables false
namespace Mine
open PySem PySem.W PyProof.Rows PySem.SeqAt

section
variable {C : Cx} {A : Around} {env : Env} {ρ : Loc} {σ : AH} {E : EX} {Q : V → AH → Prop}

/- in, not in -/
theorem nin_tuple_dd {a b : V} {da : PyData} {xs : List PyData} (ra : Rd C σ a da) (rb : Rd C σ b (.tuple xs)) (hb : SeqAt.shaped (PyData.tuple xs) = true) (ha : SeqAt.shaped da = true) (hu : A.units + 65 < cLine)
    (h : Q (.bool (!xs.any (fun y => PyData.eqv y da))) σ) : WOp2 C A (compareOp .NotIn) a b σ Q E := by
  refine ⟨?_⟩
  intro ad s x y hr rx ry
  obtain ⟨as, r1⟩ := ra.reads hr rx
  obtain ⟨bs, r2⟩ := rb.reads hr ry
  exact notIn_tuple_reads r2 r1 (canLay_of_shaped hb) (canLay_of_shaped ha) (room_in_shaped ha hu) (PE.here (v := .bool _) hr rfl h)

/- an item of a dict of the top -/
/- slices of lists -/
def pickV {α : Type} (xs : List α) (lo hi st : Option Int) : List α :=
  (sliceRange (sliceBounds lo hi st xs.length).1 (sliceBounds lo hi st xs.length).2.1 (sliceBounds lo hi st xs.length).2.2).filterMap (xs[·]?)
theorem RVs.none_of {ad : List Addr} {v : List V} {x : List Value} (h : RVs ad v x) {i : Nat} (e : v[i]? = none) : x[i]? = none := by
  rw [List.getElem?_eq_none_iff] at e ⊢
  rw [← h.length]; exact e
theorem RVs.places {ad : List Addr} {v : List V} {x : List Value} (h : RVs ad v x) : ∀ js : List Nat, RVs ad (js.filterMap (v[·]?)) (js.filterMap (x[·]?))
  | [] => .nil
  | j :: js => by
    have ih := h.places js
    cases hn : v[j]? with
    | some n =>
      obtain ⟨u, hv, r⟩ := h.get hn
      simp only [List.filterMap_cons, hn, hv]
      exact .cons r ih
    | none =>
      simp only [List.filterMap_cons, hn, h.none_of hn]
      exact ih
theorem RVs.pick {ad : List Addr} {v : List V} {x : Array Value} (h : RVs ad v x.toList) (lo hi st : Option Int) : RVs ad (pickV v lo hi st) (slicePick x lo hi st).toList := by
  have e : (slicePick x lo hi st).toList = (sliceRange (sliceBounds lo hi st v.length).1 (sliceBounds lo hi st v.length).2.1 (sliceBounds lo hi st v.length).2.2).filterMap (x.toList[·]?) := by
    have := h.length
    simp only [Array.length_toList] at this
    simp [slicePick, this]
  rw [e]
  exact h.places _
theorem exInt {i : Int} {P : Int → Prop} (h : P i) : ∃ j, V.int i = V.int j ∧ P j := ⟨i, rfl, h⟩
theorem ObjAt.new {xs : O} : ∀ {n : Nat}, n = σ.length → ObjAt C (σ ++ [xs]) (.ref n) xs := by rintro n rfl; show (σ ++ [xs])[σ.length]? = _; simp
structure WO (C : Cx) (A : Around) (env : Env) (e : Option Expr) (ρ : Loc) (σ : AH) (Q : Option Int → AH → Prop) (E : EX) : Prop where
  run : ∀ ad (s : Shared), HR C ad σ s.heap → ER C env ρ ad s.heap → wpAny (model C.prog C.w) A (evalPart e env) (fun u s' => ∃ ad' σ' k, Nx C [] ad s ad' σ' s' ∧ IsPart u k ∧ Q k σ') E s
theorem WO_none {Q : Option Int → AH → Prop} (h : Q none σ) : WO C A env none ρ σ Q E := ⟨fun ad s hr er => wpAny_pure ⟨ad, σ, none, Nx.refl hr, .none, h⟩⟩
theorem WO_some {Q : Option Int → AH → Prop} {e : Expr} (h : WE C A env e ρ σ (fun v σ1 => ∃ i, v = .int i ∧ Q (some i) σ1) E) : WO C A env (some e) ρ σ Q E := by
  refine ⟨?_⟩
  intro ad s hr er
  rw [evalPart_some]
  refine wpAny_mono (h.run ad s hr er) ?_ fun _ _ x => x
  rintro u s1 ⟨ad1, σ1, v, n1, r1, i, rfl, h1⟩
  obtain ⟨t, rfl⟩ := r1
  exact ⟨ad1, σ1, some i, n1, .int _ _, h1⟩
theorem sub_ops (lo hi st : Option Expr) (p : Pos) (o i : Value) : ∃ ops, subscripted (.Slice lo hi st p) false o i = operate ops (getItem o i) := by
  cases st
  · exact ⟨[i, o], rfl⟩
  · exact ⟨[o, i], rfl⟩
theorem WE_slice {value : Expr} {lo hi st : Option Expr} {p pos : Pos} (h : WE C A env value ρ σ (fun v σ1 => WO C A env lo ρ σ1 (fun l σ2 => WO C A env hi ρ σ2 (fun u σ3 => WO C A env st ρ σ3 (fun k σ4 =>
      ∃ xs, ObjAt C σ4 v (.list xs) ∧ k ≠ some 0 ∧ xs.length ≤ sizeLine ∧ Q (.ref σ4.length) (σ4 ++ [.list (pickV xs l u k)])) E) E) E) E) : WE C A env (.Subscript value (.Slice lo hi st p) pos) ρ σ Q E := by
  refine ⟨?_⟩
  intro ad s hr er
  refine Subscript_ (wpAny_mono (h.run ad s hr er) ?_ fun _ _ x => x)
  rintro a s1 ⟨ad1, σ1, va, n1, r1, h1⟩
  refine wpAny_Slice (wpAny_mono (h1.run ad1 s1 n1.hr (er.next n1)) ?_ fun _ _ x => x)
  rintro l s2 ⟨ad2, σ2, kl, n2, p2, h2⟩
  refine wpAny_mono (h2.run ad2 s2 n2.hr ((er.next n1).next n2)) ?_ fun _ _ x => x
  rintro u s3 ⟨ad3, σ3, ku, n3, p3, h3⟩
  refine wpAny_mono (h3.run ad3 s3 n3.hr (((er.next n1).next n2).next n3)) ?_ fun _ _ x => x
  rintro k s4 ⟨ad4, σ4, kk, n4, p4, xs, hb, h0, hz, h4⟩
  have n14 := (n1.trans n2).trans (n3.trans n4)
  have n24 := n2.trans (n3.trans n4)
  obtain ⟨b, vs, rfl, hl, rvs⟩ := hb.list n4.hr (n24.rv r1)
  obtain ⟨ops, hops⟩ := sub_ops lo hi st p (.ref b) (.ref s4.heap.objs.size)
  have np := Nx.push (C := C) (s := s4) { cls := .type "slice", data := .fields #[l, u, k] } n4.hr
  refine tail_any (Heap.IsList.typeIs (s := { s4 with heap := s4.heap.push { cls := .type "slice", data := .fields #[l, u, k] } }) (hl.push _)) slot_list_getitem.lookup
    (wpAny_getItem_list_slice (hl.push _) (Heap.IsSliceOf.new ..) p2 p3 p4 h0 ?_ (by rw [← Array.length_toList, ← rvs.length]; exact hz)) hops
  have na := Nx.alloc (o := .list (pickV xs kl ku kk)) np.hr ⟨_, 0, rfl, rvs.pick kl ku kk⟩
  exact PE.trans (n14.trans np) ⟨_, _, .ref σ4.length, na, RV.last np.hr.len.symm, h4⟩

/- list(x) -/
theorem HR.adopt {ad : List Addr} {h h' : Heap} {o : O} {ob : Obj} {a : Addr} (hr : HR C ad σ h) (hk : ∀ b o, h.get? b = some o → h'.get? b = some o) (ha : h.objs.size ≤ a) (hn : h'.get? a = some ob) (ro : RO C.w.params ad o ob) : HR C (ad ++ [a]) (σ ++ [o]) h' := by
  obtain ⟨hG, hn'⟩ := hr.fresh ha
  refine ⟨hr.ok, fun b x e => hk _ _ (hr.keep b x e), by simp [hr.len], ?_, ?_, fun a1 ha1 => (List.mem_append.mp ha1).elim (hr.low a1) (fun hm => by rw [List.mem_singleton.mp hm]; exact hr.freshLow ha), ?_⟩
  · refine List.nodup_append.mpr ⟨hr.nd, by simp, ?_⟩
    intro a1 ha1 b1 hb1 e
    simp only [List.mem_singleton] at hb1
    subst hb1; subst e; exact hn' ha1
  · intro a1 ha1
    rcases List.mem_append.mp ha1 with ha1 | ha1
    · exact hr.off a1 ha1
    · simp only [List.mem_singleton] at ha1; subst ha1; exact hG
  · intro i x a1 h1 h2
    by_cases hi : i < σ.length
    · rw [List.getElem?_append_left hi] at h1
      rw [List.getElem?_append_left (by rw [hr.len]; exact hi)] at h2
      obtain ⟨ob', h3, h4⟩ := hr.obj i x a1 h1 h2
      exact ⟨ob', hk _ _ h3, h4.mono⟩
    · have hi' : i = σ.length := by
        have := (List.getElem?_eq_some_iff.mp h1).1
        simp at this; omega
      subst hi'
      rw [List.getElem?_append_right (Nat.le_refl _)] at h1
      rw [List.getElem?_append_right (by rw [hr.len]; exact Nat.le_refl _)] at h2
      simp [hr.len] at h1 h2
      subst h1; subst h2
      exact ⟨ob, hn, ro.mono⟩
theorem WC_list {v : V} {xs : List V} (b : ObjAt C σ v (.list xs)) (hz : xs.length ≤ sizeLine) (h : Q (.ref σ.length) (σ ++ [.list xs])) : WC C A (.type "list") [v] σ Q E := by
  refine ⟨?_⟩
  rintro ad s us hr (_ | ⟨rv, _ | _⟩)
  obtain ⟨a, vs, rfl, hl, rvs⟩ := b.list hr rv
  obtain ⟨o, ho, hc, n, hd⟩ := id hl
  refine wpAny_sz (call_list_seq a (.inl rfl) ho hc hd (fun h' c' hk hn hsz => ?_) (by rw [← Array.length_toList, ← rvs.length]; exact hz))
  have hnn := hr.fresh (Nat.le_refl _)
  refine ⟨ad ++ [s.heap.objs.size], σ ++ [.list xs], .ref σ.length, ⟨⟨h', s.toks, rfl⟩, ⟨[s.heap.objs.size], rfl, by simp⟩, hsz, fun b o e _ _ => hk b o e, ?_⟩, RV.last hr.len.symm, h⟩
  exact HR.adopt hr hk (Nat.le_refl _) hn ⟨vs, c', rfl, rvs⟩
end
end Mine

-- part Aw11
set_option autoImplicit false
set_option linter.unusedVariables false
namespace Mine
open PySem PySem.W PyProof.Rows

def relab (ns : List (Str × NameKind)) : List (Str × NameKind) := ns.map fun p => if p.2 == .free then (p.1, .cell) else p
def clOf (env : Env) : List (Str × NameKind) → List (Str × Addr) → List (Str × Addr)
  | [], cs => cs
  | p :: r, cs => clOf env r (if p.2 == .free then (p.1, (env.cells.lookup p.1).getD 0) :: cs else cs)
theorem closure_of {env : Env} {sc : Scope} (h : ∀ n, (n, NameKind.free) ∈ sc.names → (env.cells.lookup n).isSome = true) : closureFor sc env = pure (clOf env sc.names []) := by
  simp only [closureFor]
  generalize sc.names = ns at h ⊢
  generalize ([] : List (Str × Addr)) = cs
  induction ns generalizing cs with
  | nil => rfl
  | cons p r ih =>
    obtain ⟨n, k⟩ := p
    have ihr := fun cs => ih (fun n hn => h n (List.mem_cons_of_mem _ hn)) cs
    rw [List.forIn_cons]
    by_cases hk : (k == NameKind.free) = true
    · have hk' : k = .free := by simpa using hk
      subst hk'
      have hn := h n List.mem_cons_self
      obtain ⟨c, hc⟩ := Option.isSome_iff_exists.mp hn
      have e1 : cellOf env n = pure c := by unfold cellOf; rw [hc]
      rw [if_pos hk, e1]
      have := ihr ((n, c) :: cs)
      simpa [clOf, hc] using this
    · rw [if_neg hk]
      have := ihr cs
      simpa [clOf, hk] using this

theorem clOf_mem {env : Env} : ∀ {ns : List (Str × NameKind)} {cs : List (Str × Addr)}, (∀ n, (n, NameKind.free) ∈ ns → (env.cells.lookup n).isSome = true) → (∀ p ∈ cs, env.cells.lookup p.1 = some p.2) → ∀ p ∈ clOf env ns cs, env.cells.lookup p.1 = some p.2
  | [], _, _, h, p, hp => h p hp
  | q :: r, cs, h0, h, p, hp => by
    refine clOf_mem (ns := r) (fun n hn => h0 n (List.mem_cons_of_mem _ hn)) ?_ p hp
    obtain ⟨n, k⟩ := q
    split
    · rename_i hk
      have hk' : k = .free := by simpa using hk
      subst hk'
      obtain ⟨c, hc⟩ := Option.isSome_iff_exists.mp (h0 n List.mem_cons_self)
      intro p hp
      rcases List.mem_cons.mp hp with rfl | hp
      · simp [hc]
      · exact h p hp
    · exact h
theorem lookup_cons_isSome {α : Type} {y : Str} {p : Str × α} {cs : List (Str × α)} (h : (cs.lookup y).isSome = true) : ((p :: cs).lookup y).isSome = true := by
  rw [List.lookup_cons]
  split
  · rfl
  · exact h
theorem clOf_some {env : Env} {y : Str} : ∀ {ns : List (Str × NameKind)} {cs : List (Str × Addr)}, ((y, NameKind.free) ∈ ns ∨ (cs.lookup y).isSome = true) → ((clOf env ns cs).lookup y).isSome = true
  | [], _, h => by
    rcases h with h | h
    · cases h
    · exact h
  | q :: r, cs, h => by
    refine clOf_some (ns := r) ?_
    rcases h with h | h
    · rcases List.mem_cons.mp h with e | h
      · subst e; right; simp [List.lookup_cons]
      · exact .inl h
    · right
      split
      · exact lookup_cons_isSome h
      · exact h
theorem mem_of_lookup {α : Type} {y : Str} : ∀ {cs : List (Str × α)} {c : α}, cs.lookup y = some c → (y, c) ∈ cs
  | [], _, h => by cases h
  | (n, d) :: r, c, h => by
    rw [List.lookup_cons] at h
    split at h
    · rename_i e
      have : y = n := by simpa using e
      cases h; subst this; exact List.mem_cons_self
    · exact List.mem_cons_of_mem _ (mem_of_lookup h)
theorem relab_lookup {y : Str} : ∀ {ns : List (Str × NameKind)} {k : NameKind}, ns.lookup y = some k → (relab ns).lookup y = some (if k == .free then .cell else k)
  | [], _, h => by cases h
  | (n, d) :: r, k, h => by
    have ih := fun k => @relab_lookup y r k
    rw [List.lookup_cons] at h
    show List.lookup y ((if (d == NameKind.free) = true then (n, NameKind.cell) else (n, d)) :: relab r) = _
    by_cases hd : (d == NameKind.free) = true
    · rw [if_pos hd, List.lookup_cons]
      split at h
      · cases h; simp [*]
      · simp [*]
    · rw [if_neg hd, List.lookup_cons]
      split at h
      · cases h; simp [*]
      · simp [*]
/-- the comprehension's names are as wished -/
def compOk (onames : List (Str × NameKind)) (sc : Scope) (x : Str) (capt gl : List Str) : Bool :=
  sc.names.all (fun p => p.2 != .cell && (p.2 != .local || sc.names.lookup p.1 == some .local) && (p.2 != .free || (capt.contains p.1 && onames.lookup p.1 == some .cell)))
  && sc.names.lookup x == some .local && nmOk x && !capt.contains x
  && capt.all (fun y => nmOk y && sc.names.lookup y == some .free)
  && gl.all (fun y => nmOk y && sc.names.lookup y == some .globalImplicit)
structure CompOk (onames : List (Str × NameKind)) (sc : Scope) (x : Str) (capt gl : List Str) : Prop where
  nocell : ∀ y ∈ sc.names, y.2 ≠ .cell
  locs : ∀ y ∈ sc.names, y.2 = .local → sc.names.lookup y.1 = some .local
  free : ∀ n, (n, NameKind.free) ∈ sc.names → n ∈ capt ∧ onames.lookup n = some .cell
  xl : sc.names.lookup x = some .local
  xn : nmOk x = true
  xc : x ∉ capt
  cap : ∀ y ∈ capt, nmOk y = true ∧ sc.names.lookup y = some .free
  glo : ∀ y ∈ gl, nmOk y = true ∧ sc.names.lookup y = some .globalImplicit
theorem compOk.ok {onames : List (Str × NameKind)} {sc : Scope} {x : Str} {capt gl : List Str} (h : compOk onames sc x capt gl = true) : CompOk onames sc x capt gl := by
  unfold compOk at h
  simp only [Bool.and_eq_true, List.all_eq_true, Bool.or_eq_true, bne_iff_ne, beq_iff_eq, Bool.not_eq_true', List.contains_eq_mem, decide_eq_true_eq, decide_eq_false_iff_not] at h
  obtain ⟨⟨⟨⟨⟨h1, h2⟩, h3⟩, h4⟩, h5⟩, h6⟩ := h
  refine ⟨fun y hy => (h1 y hy).1.1, fun y hy e => ?_, fun n hn => ?_, h2, h3, h4, h5, h6⟩
  · exact ((h1 y hy).1.2).resolve_left fun h => h e
  · exact ((h1 _ hn).2).resolve_left fun h => h rfl

section
variable {C : Cx} {A : Around} {env : Env} {ρ : Loc} {σ : AH} {E : EX} {Q : V → AH → Prop}
theorem HR.own {ad : List Addr} {h : Heap} {o : O} {ob : Obj} {a : Addr} (hr : HR C ad σ h) (hn : h.get? a = some ob) (hG : C.G.get? a = none) (hn' : a ∉ ad) (hs : a ≠ sysModules) (ro : RO C.w.params ad o ob) : HR C (ad ++ [a]) (σ ++ [o]) h := by
  refine ⟨hr.ok, fun b x e => (hr.keep b x e), by simp [hr.len], ?_, ?_, fun a1 ha1 => (List.mem_append.mp ha1).elim (hr.low a1) (fun hm => by rw [List.mem_singleton.mp hm]; exact hs), ?_⟩
  · refine List.nodup_append.mpr ⟨hr.nd, by simp, ?_⟩
    intro a1 ha1 b1 hb1 e
    simp only [List.mem_singleton] at hb1
    subst hb1; subst e; exact hn' ha1
  · intro a1 ha1
    rcases List.mem_append.mp ha1 with ha1 | ha1
    · exact hr.off a1 ha1
    · simp only [List.mem_singleton] at ha1; subst ha1; exact hG
  · intro i x a1 h1 h2
    by_cases hi : i < σ.length
    · rw [List.getElem?_append_left hi] at h1
      rw [List.getElem?_append_left (by rw [hr.len]; exact hi)] at h2
      obtain ⟨ob', h3, h4⟩ := hr.obj i x a1 h1 h2
      exact ⟨ob', h3, h4.mono⟩
    · have hi' : i = σ.length := by
        have := (List.getElem?_eq_some_iff.mp h1).1
        simp at this; omega
      subst hi'
      rw [List.getElem?_append_right (Nat.le_refl _)] at h1
      rw [List.getElem?_append_right (by rw [hr.len]; exact Nat.le_refl _)] at h2
      simp [hr.len] at h1 h2
      subst h1; subst h2
      exact ⟨ob, hn, ro.mono⟩

/-- the tests of a comprehension -/
structure WIf (C : Cx) (A : Around) (env : Env) (r : Bool) (ifs : List Expr) (ρ : Loc) (σ : AH) (Q : Bool → AH → Prop) (E : EX) : Prop where
  run : ∀ ad (s : Shared), HR C ad σ s.heap → ER C env ρ ad s.heap → wpAny (model C.prog C.w) A (forIn ifs r fun c r => if r = true then do let ok ← isTrue c env (eval c env); pure (ForInStep.yield ok) else pure (ForInStep.yield r)) (PB C ad s Q) E s
theorem WIf_nil {r : Bool} {Q : Bool → AH → Prop} (h : Q r σ) : WIf C A env r [] ρ σ Q E := ⟨fun ad s hr er => wpAny_pure ⟨ad, σ, Nx.refl hr, h⟩⟩

theorem Nx.toWg {l l2 : List (Str × Value)} {ch ad ad' : List Addr} {σ' : AH} {s s' : Shared} (n : Nx (C.wg l2) ch ad s ad' σ' s') (ok : (C.wg l).Ok) : Nx (C.wg l) ch ad s ad' σ' s' :=
  ⟨n.eq, n.pre, n.size, n.same, ⟨ok, n.hr.keep, n.hr.len, n.hr.nd, n.hr.off, n.hr.low, n.hr.obj⟩⟩
/-- a name's meaning in the globals or the built-ins -/
def GloIs (C : Cx) (p : Str × Value) : Prop := C.mg p.1 = some p.2 ∨ (C.mg p.1 = none ∧ C.mb p.1 = some p.2)
theorem HR.toWg {l l2 : List (Str × Value)} {ad : List Addr} {h : Heap} (hr : HR (C.wg l) ad σ h) (hl : ∀ p ∈ l2, p ∈ l ∨ GloIs C p) : HR (C.wg l2) ad σ h :=
  ⟨⟨hr.ok.gob, hr.ok.g, hr.ok.b, fun x v hx => (hl _ hx).elim (hr.ok.glo x v) (fun z => z), hr.ok.lim⟩, hr.keep, hr.len, hr.nd, hr.off, hr.low, hr.obj⟩

end
end Mine

-- part Aw12
set_option autoImplicit false
set_option linter.unusedVariables false
namespace Mine
open PySem PySem.W PyProof.Rows

section
variable {C : Cx} {A : Around} {env : Env} {ρ : Loc} {σ : AH} {E : EX} {Q : V → AH → Prop}
theorem adr_ne {a b : Nat} (h : a < b ∨ b < a) : @Ne Addr a b := by
  intro e
  have e' : (a : Nat) = b := e
  omega
theorem nlt {a b : Addr} (h : a < b) : @LT.lt Nat instLTNat a b := h
theorem Nx.touch {ad ad' : List Addr} {σ' : AH} {s2 s' : Shared} {I : Addr} {h' : Heap} {tk : Nat} (n : Nx C [I] ad s2 ad' σ' s') (hr' : HR C ad' σ' h') (hz : s'.heap.objs.size ≤ h'.objs.size)
    (hk : ∀ b o, b ≠ I → b < s2.heap.objs.size → s'.heap.get? b = some o → h'.get? b = some o) : Nx C [I] ad s2 ad' σ' { s' with heap := h', toks := tk } := by
  obtain ⟨h1, t1, e1⟩ := n.eq
  refine ⟨⟨h', tk, by rw [e1]⟩, n.pre, Nat.le_trans n.size hz, fun b o e hb hc => ?_, hr'⟩
  exact hk b o (by simpa using hc) (Heap.lt_size e) (n.same b o e hb hc)
theorem ER.keep {ad ad' : List Addr} {s : Shared} {h' : Heap} (r : ER C env ρ ad s.heap) (hp : ∃ nw, ad' = ad ++ nw ∧ ∀ a ∈ nw, s.heap.objs.size ≤ a) (keep : ∀ b ∈ fa env, ∀ o, s.heap.get? b = some o → h'.get? b = some o) (hz : s.heap.objs.size ≤ h'.objs.size) : ER C env ρ ad' h' := by
  obtain ⟨nw, rfl, hnw⟩ := hp
  refine ⟨r.kind, r.glob, r.blt, r.nd, r.kd, ?_, ?_, r.cinj, r.cl, ?_, fun b hb => Nat.lt_of_lt_of_le (r.lt b hb) hz, r.nm, r.gk⟩
  · obtain ⟨m, hm, h⟩ := r.m
    refine ⟨m, hm.at' fun o e => keep _ (by simp [fa]) o e, fun x v hx hk => ?_⟩
    obtain ⟨u, h1, h2⟩ := h x v hx hk
    exact ⟨u, h1, h2.mono⟩
  · intro x c hc
    obtain ⟨o, w, h1, h2, h3⟩ := r.cell x c hc
    refine ⟨o, w, keep c (mem_cells hc) o h1, h2, fun v hv hk => ?_⟩
    obtain ⟨u, h4, h5⟩ := h3 v hv hk
    exact ⟨u, h4, h5.mono⟩
  · intro a ha
    refine ⟨(r.off a ha).1, fun hm => ?_⟩
    rcases List.mem_append.mp hm with hm | hm
    · exact (r.off a ha).2 hm
    · exact absurd (r.lt a ha) (Nat.not_lt.mpr (hnw a hm))

/-- what a comprehension asks -/
def CompGo (C : Cx) (A : Around) (l2 : List (Str × Value)) (sc : Scope) (x : Str) (ifs : List Expr) (elt : Expr) (capt : Loc) (K : List V → AH → Prop) (n : Nat) (P : Nat → V) (Cd : AH → Prop) (σ1 : AH) : Prop :=
  n ≤ sizeLine ∧ ∃ Inv : Nat → List V → AH → Prop, Inv 0 [] σ1 ∧ (∀ i acc σ' pv, i < n → P i = pv → Inv i acc σ' → Cd σ' ∧ ∀ cenv, Kn cenv (relab sc.names) → WIf (C.wg l2) A cenv true ifs ((x, some pv) :: capt) σ'
      (fun b σ2 => if b = true then WE (C.wg l2) A cenv elt ((x, some pv) :: capt) σ2 (fun v σ3 => Inv (i + 1) (acc ++ [v]) σ3) (fun _ _ => False) else Inv (i + 1) acc σ2) (fun _ _ => False)) ∧
    ∀ acc σ', Inv n acc σ' → Cd σ' ∧ K acc σ'
end
end Mine

-- part Aw13
set_option autoImplicit false
set_option linter.unusedVariables false
namespace Mine
open PySem PySem.W PyProof.Rows

section
variable {C : Cx} {A : Around} {env : Env} {ρ : Loc} {σ : AH} {E : EX} {Q : V → AH → Prop}
theorem sum_snoc (x : Int) : ∀ xs : List Int, (xs ++ [x]).sum = xs.sum + x
  | [] => by simp
  | y :: r => by
    have := sum_snoc x r
    rw [List.cons_append, List.sum_cons, List.sum_cons, this]; omega
theorem preSum_getD (ns : List Int) : ∀ n, n ≤ ns.length → preSum (fun i => ns.getD i 0) n = (ns.take n).sum
  | 0, _ => by simp [preSum]
  | n + 1, h => by
    have ih := preSum_getD ns n (by omega)
    have hl : n < ns.length := by omega
    have e : ns.take (n + 1) = ns.take n ++ [ns.getD n 0] := by rw [List.take_add_one]; simp [List.getD, hl]
    rw [preSum, ih, e, sum_snoc]
theorem WC_sum {v : V} {ns : List Int} (hA : A.handled = none) (b : ObjAt C σ v (.list (ns.map .int))) (h : Q (.int ns.sum) σ) : WC C A (.builtin "sum") [v] σ Q E := by
  refine ⟨?_⟩
  rintro ad s us hr (_ | ⟨rv, _ | _⟩)
  obtain ⟨a, vs, rfl, hl, rvs⟩ := b.list hr rv
  obtain ⟨o, ho, hc, n, hd⟩ := id hl
  have hne : a ≠ s.heap.objs.size := fun e => Nat.lt_irrefl _ (e ▸ Heap.lt_size ho)
  refine wpAny_sz (call_sum_walkG (wpAny_pyIter_list hl ⟨s.heap.objs.size, _, _, _, _, _, fun i => ns.getD i 0, rfl, Walks.list (A := A.in1) hA s.heap.objs.size a hne vs, ⟨⟨_, Heap.get?_push_size _ rfl, rfl, rfl⟩, hl.push _⟩, ?_, ?_, ?_⟩))
  · intro b hb
    simp only [List.mem_cons, List.not_mem_nil, or_false] at hb
    rcases hb with rfl | rfl
    · show s.heap.objs.size < (s.heap.push _).objs.size
      rw [Heap.size_push]; exact Nat.lt_succ_self _
    · show _ < (s.heap.push _).objs.size
      rw [Heap.size_push]; exact Nat.lt_succ_of_lt (Heap.lt_size ho)
  · intro i u hu
    have hlt : i < ns.length := by
      have h1 := (Array.getElem?_eq_some_iff.mp hu).1
      have h2 := rvs.length
      simp at h2; omega
    obtain ⟨u', h1, t, h2⟩ := rvs.get (i := i) (a := .int (ns.getD i 0)) (by simp [List.getD, hlt])
    have e : u' = u := by
      rw [Array.getElem?_toList] at h1
      rw [h1] at hu; exact Option.some.inj hu
    subst e; exact ⟨t, h2⟩
  · intro h' tk t' hk hz
    have hlen : vs.size = ns.length := by have := rvs.length; simp at this; omega
    refine ⟨ad, σ, .int ns.sum, Nx.keeps hz hr fun b o e => hk b o (by simp; rintro rfl; exact Nat.lt_irrefl _ (Heap.lt_size e)) (Heap.get?_push_of_some _ e), ⟨t', ?_⟩, h⟩
    rw [hlen, preSum_getD ns _ (Nat.le_refl _), List.take_length]

/- reversed lists -/
end
end Mine

-- part Aw14
set_option autoImplicit false
set_option linter.unusedVariables false
namespace Mine
open PySem PySem.W PyProof.Rows

section
variable {C : Cx} {A : Around} {env : Env} {ρ : Loc} {σ : AH} {E : EX} {Q : V → AH → Prop}
theorem Rd.ints {xs : List Int} : RdAll C σ (xs.map V.int) (xs.map PyData.int) := by
  induction xs with
  | nil => exact .nil
  | cons x r ih => exact .cons .int ih
theorem Rd.lst {v : V} {xs : List Int} (o : ObjAt C σ v (.list (xs.map V.int))) : Rd C σ v (.list (xs.map PyData.int)) := .list o Rd.ints
theorem eqv_ints (xs : List Int) : PyData.eqvAll (xs.map PyData.int) (xs.map PyData.int) = true := by
  induction xs with
  | nil => rfl
  | cons x r ih => simp [PyData.eqvAll, PyData.eqv, ih]
theorem canLay_ints (xs : List Int) : PyData.canLayAll0 (xs.map PyData.int) = true := by
  induction xs with
  | nil => rfl
  | cons x r ih => simp [PyData.canLayAll0, PyData.canLay0, ih]
theorem depth_ints (xs : List Int) : PyData.depthAll (xs.map PyData.int) ≤ 1 := by
  induction xs with
  | nil => simp [PyData.depthAll]
  | cons x r ih => simp [PyData.depthAll, PyData.depth]; omega
theorem getD_v (ns : List Int) {i : Nat} (h : i < ns.length) : (ns.map V.int).getD i .none = .int (ns.getD i 0) := by simp [List.getD, h]
end
end Mine

-- part Aw15
set_option autoImplicit false
set_option linter.unusedVariables false
namespace Mine
open PySem PySem.W PyProof.Rows

section
variable {C : Cx} {A : Around} {env : Env} {ρ : Loc} {σ : AH} {E : EX}
theorem foldl_rep (items : Array Value) : ∀ (n : Nat) (acc : Array Value), (List.foldl (fun x1 x2 => x1 ++ x2) acc (List.replicate n items)).toList = acc.toList ++ (List.replicate n items.toList).flatten
  | 0, acc => by simp
  | n + 1, acc => by
    rw [List.replicate_succ, List.foldl_cons, foldl_rep items n, List.replicate_succ, List.flatten_cons, Array.toList_append, List.append_assoc]
theorem RVs.rep {ad : List Addr} {v : List V} {x : List Value} (h : RVs ad v x) : ∀ n : Nat, RVs ad (List.replicate n v).flatten (List.replicate n x).flatten
  | 0 => .nil
  | n + 1 => by rw [List.replicate_succ, List.replicate_succ, List.flatten_cons, List.flatten_cons]; exact h.append (h.rep n)
theorem mul_li {j : Nat} {xs : List V} {x : Int} {Q : V → AH → Prop} (b : σ[j]? = some (.list xs)) (hlo : -(2 ^ 63 : Int) ≤ x) (hhi : x < 2 ^ 63) (hsz : xs.length * x.toNat ≤ 2 ^ 24)
    (h : Q (.ref σ.length) (σ ++ [.list (List.replicate x.toNat xs).flatten])) : WOp2 C A (binaryOp .Mult) (.ref j) (.int x) σ Q E := by
  refine ⟨?_⟩
  rintro ad s y z hr ⟨a, ha, rfl⟩ ⟨u, rfl⟩
  obtain ⟨ob, h1, vs, n, e2, rvs⟩ := hr.obj j _ a b ha
  subst e2
  have hlen : vs.size = xs.length := by have := rvs.length; simp at this; omega
  rw [← hlen] at hsz
  refine wpAny_binaryOp_repeat_ref (T := "list") (U := "int") (by decide) ⟨_, h1, rfl⟩ (fun s' => typeIs_int s' x u) noFill_list_mul F.fills_int_mul F.slot_int_rmul repeat_list F.slot_int_index.lookup
    (call_meets F.slot_int_rmul (typeIs_int s x u) F.entry_int_rmul (F.args_int_rmul_2 _ _) (int___rmul___int_list x u a vs n)
      ⟨h1, rfl, ⟨_, h1, rfl⟩, call_meets F.slot_list_mul ⟨_, h1, rfl⟩ F.entry_list_mul (F.args_list_mul_2 _ _)
        (AutoListH.list___mul___list_int_3 a vs n x u (by simp [Builtin.List.listFitsIndex]; omega) (by omega) (by simp [Builtin.List.listTooLong, sizeLine]; omega))
        ⟨h1, ?_⟩⟩)
  have ro : RVs ad (List.replicate x.toNat xs).flatten (List.foldl (fun x1 x2 => x1 ++ x2) #[] (List.replicate (if vs.isEmpty = true then 0 else x.toNat) vs)).toList := by
    rw [foldl_rep]
    by_cases he : vs.isEmpty = true
    · have hx : xs = [] := by
        have : vs.size = 0 := by simpa [Array.isEmpty] using he
        exact List.eq_nil_of_length_eq_zero (by omega)
      rw [if_pos he, hx]
      simp
      exact .nil
    · rw [if_neg he]
      exact rvs.rep _
  exact ⟨_, _, .ref σ.length, Nx.alloc hr (o := .list (List.replicate x.toNat xs).flatten) ⟨_, 0, rfl, ro⟩, RV.last hr.len.symm, h⟩
theorem rep_one {α : Type} (x : α) : ∀ n : Nat, (List.replicate n [x]).flatten = List.replicate n x
  | 0 => rfl
  | n + 1 => by rw [List.replicate_succ, List.flatten_cons, rep_one x n, List.replicate_succ]; rfl
end
end Mine

-- part Aw16
set_option autoImplicit false
set_option linter.unusedVariables false
namespace Mine
open PySem PySem.W PyProof.Rows

section
variable {C : Cx} {A : Around} {env : Env} {ρ : Loc} {σ : AH} {E : EX}
theorem WE.conseq {e : Expr} {Q Q' : V → AH → Prop} (h : WE C A env e ρ σ Q E) (hq : ∀ v σ1, Q v σ1 → Q' v σ1) : WE C A env e ρ σ Q' E := by
  refine ⟨?_⟩
  intro ad s hr er
  refine wpAny_mono (h.run ad s hr er) ?_ fun _ _ x => x
  rintro u s1 ⟨ad1, σ1, v, n1, r1, h1⟩
  exact ⟨ad1, σ1, v, n1, r1, hq _ _ h1⟩
/-- a comprehension of ints that makes nothing else -/
theorem CompGo_ints {l2 : List (Str × Value)} {sc : Scope} {x : Str} {elt : Expr} {capt : Loc} {K : List V → AH → Prop} {n : Nat} {P : Nat → V} {Cd : AH → Prop} {σ1 : AH} (f : Nat → Int) (hz : n ≤ sizeLine) (hcd : Cd σ1)
    (h : ∀ i pv, i < n → P i = pv → ∀ cenv, Kn cenv (relab sc.names) → WE (C.wg l2) A cenv elt ((x, some pv) :: capt) σ1 (fun v σ3 => v = .int (f i) ∧ σ3 = σ1) (fun _ _ => False))
    (hk : K (((List.range n).map f).map V.int) σ1) : CompGo C A l2 sc x [] elt capt K n P Cd σ1 := by
  refine ⟨hz, fun i acc σ' => σ' = σ1 ∧ acc = ((List.range i).map f).map V.int, ⟨rfl, rfl⟩, ?_, ?_⟩
  · rintro i acc σ' pv hi hp ⟨rfl, rfl⟩
    refine ⟨hcd, fun cenv hc => WIf_nil ?_⟩
    rw [if_pos rfl]
    refine (h i pv hi hp cenv hc).conseq ?_
    rintro v σ3 ⟨rfl, rfl⟩
    refine ⟨rfl, ?_⟩
    rw [List.range_succ]; simp
  · rintro acc σ' ⟨rfl, rfl⟩
    exact ⟨hcd, hk⟩
end
end Mine

-- part Aw17
set_option autoImplicit false
set_option linter.unusedVariables false
namespace Mine
open PySem PySem.W PyProof.Rows

section
variable {C : Cx} {A : Around} {env : Env} {ρ : Loc} {σ : AH} {E : EX}
theorem ObjAt.up {J : AH} {v : V} {o : O} (h : ObjAt C σ v o) : ObjAt C (σ ++ J) v o := by
  cases v with
  | ref j =>
    have h : σ[j]? = some o := h
    show (σ ++ J)[j]? = some o
    rw [List.getElem?_append_left (List.getElem?_eq_some_iff.mp h).1]; exact h
  | k x => cases x <;> exact h
  | _ => exact h.elim
end
end Mine

-- part Aw18
set_option autoImplicit false
set_option linter.unusedVariables false
namespace Mine
open PySem PySem.W PyProof.Rows

/- dicts whose keys are strs -/
def putNs (k : Str) (v : V) : List (Str × V) → List (Str × V)
  | [] => [(k, v)]
  | (x, u) :: r => if x = k then (x, v) :: r else (x, u) :: putNs k v r
def putEs (name : Str) (hs : Int) (key v : Value) : List DictEntry → List DictEntry
  | [] => [⟨hs, key, v⟩]
  | e :: r => if e.key.isStr name = true then { e with val := v } :: r else e :: putEs name hs key v r
theorem REs.length {P : Params} {ad : List Addr} {es : List (Str × V)} {ds : List DictEntry} (h : REs P ad es ds) : es.length = ds.length := by
  induction h with
  | nil => rfl
  | cons _ _ ih => simp [ih]
theorem putNs_len {k : Str} {v : V} : ∀ {es : List (Str × V)}, (putNs k v es).length ≤ es.length + 1
  | [] => by simp [putNs]
  | (x, u) :: r => by
    have := putNs_len (k := k) (v := v) (es := r)
    unfold putNs
    split <;> simp <;> omega
theorem REs.put {P : Params} {ad : List Addr} {es : List (Str × V)} {ds : List DictEntry} {k : Str} {v : V} {t : Tok} {x : Value} (h : REs P ad es ds) (rv : RV ad v x) : REs P ad (putNs k v es) (putEs k (PyData.keyHash P k) (.str k t) x ds) := by
  induction h with
  | nil => exact .cons rv .nil
  | @cons k' v' t' x' es ds r h' ih =>
    unfold putNs putEs
    by_cases hk : k' = k
    · subst hk
      rw [if_pos rfl, if_pos (by show (k' == k') = true; simp)]
      exact .cons rv h'
    · rw [if_neg hk, if_neg (by show ¬ (k' == k) = true; simp [hk])]
      exact .cons r ih
theorem findIdx_put (name : Str) (hs : Int) (key v : Value) : ∀ ds : List DictEntry, (match ds.findIdx? (fun e => e.key.isStr name) with | some i => ds.modify i (fun e => { e with val := v }) | none => ds ++ [⟨hs, key, v⟩]) = putEs name hs key v ds
  | [] => rfl
  | e :: r => by
    have ih := findIdx_put name hs key v r
    rw [List.findIdx?_cons]
    unfold putEs
    cases hb : e.key.isStr name with
    | true => simp
    | false =>
      cases hi : r.findIdx? (fun e => e.key.isStr name) with
      | none => rw [hi] at ih; simp at ih ⊢; exact ih
      | some i => rw [hi] at ih; simp at ih ⊢; exact ih
theorem putName_at {c : Value} {d : Option Addr} {es : Array DictEntry} {n : Nat} {sl : Array (Option Value)} {name : Str} {hs : Int} {key v : Value} :
    ∃ es' n', Obj.putName name hs key v ⟨c, d, .dict es n, sl⟩ = ⟨c, d, .dict es' n', sl⟩ ∧ es'.toList = putEs name hs key v es.toList := by
  have e := findIdx_put name hs key v es.toList
  have hi : es.findIdx? (fun e => e.key.isStr name) = es.toList.findIdx? (fun e => e.key.isStr name) := by obtain ⟨l⟩ := es; simp
  rw [Obj.putName_eq]
  unfold Obj.putNameByArray
  cases h : es.findIdx? (fun e => e.key.isStr name) with
  | some i =>
    rw [← hi, h] at e
    exact ⟨_, _, by simp only [h]; rfl, by rw [← e]; obtain ⟨l⟩ := es; simp⟩
  | none =>
    rw [← hi, h] at e
    exact ⟨_, _, by simp only [h]; rfl, by rw [← e]; obtain ⟨l⟩ := es; simp⟩
theorem REs.look {P : Params} {ad : List Addr} {es : List (Str × V)} {ds : List DictEntry} (h : REs P ad es ds) (k : Str) :
    (∀ v, es.lookup k = some v → ∃ e, ds.find? (fun e => e.key.isStr k) = some e ∧ RV ad v e.val) ∧ (es.lookup k = none → ds.find? (fun e => e.key.isStr k) = none) ∧ ds.any (·.refKey) = false := by
  induction h with
  | nil => exact ⟨by simp, by simp, rfl⟩
  | @cons k' v' t' x' es ds r h' ih =>
    obtain ⟨i1, i2, i3⟩ := ih
    have hb : (Value.isStr (.str k' t') k) = (k' == k) := rfl
    by_cases hk : k = k'
    · subst hk
      refine ⟨?_, ?_, ?_⟩
      · intro v hv
        rw [List.lookup_cons, beq_self_eq_true] at hv
        cases hv
        exact ⟨_, by rw [List.find?_cons]; show (match (Value.isStr (.str k t') k) with | true => _ | false => _) = _; rw [hb, beq_self_eq_true], r⟩
      · intro hv
        rw [List.lookup_cons, beq_self_eq_true] at hv
        cases hv
      · rw [List.any_cons, i3]; rfl
    · have e1 : (k == k') = false := by simp [hk]
      have e2 : (k' == k) = false := by simp [Ne.symm hk]
      refine ⟨?_, ?_, ?_⟩
      · intro v hv
        rw [List.lookup_cons, e1] at hv
        obtain ⟨e, h1, h2⟩ := i1 v hv
        exact ⟨e, by rw [List.find?_cons]; show (match (Value.isStr (.str k' t') k) with | true => _ | false => _) = _; rw [hb, e2]; exact h1, h2⟩
      · intro hv
        rw [List.lookup_cons, e1] at hv
        rw [List.find?_cons]; show (match (Value.isStr (.str k' t') k) with | true => _ | false => _) = _; rw [hb, e2]; exact i2 hv
      · rw [List.any_cons, i3]; rfl
theorem lookIn_some {P : Params} {ad : List Addr} {es : List (Str × V)} {ds : Array DictEntry} {c : Value} {d : Option Addr} {n : Nat} {sl : Array (Option Value)} {k : Str} {v : V} (h : REs P ad es ds.toList) (hv : es.lookup k = some v) :
    ∃ x, lookIn k ⟨c, d, .dict ds n, sl⟩ = some (some x) ∧ RV ad v x := by
  obtain ⟨e, he, re⟩ := (h.look k).1 v hv
  exact ⟨e.val, by unfold lookIn; simp only [he], re⟩
theorem lookIn_none {P : Params} {ad : List Addr} {es : List (Str × V)} {ds : Array DictEntry} {c : Value} {d : Option Addr} {n : Nat} {sl : Array (Option Value)} {k : Str} (h : REs P ad es ds.toList) (hv : es.lookup k = none) :
    lookIn k ⟨c, d, .dict ds n, sl⟩ = some none := by
  obtain ⟨_, h2, h3⟩ := h.look k
  unfold lookIn
  simp only [h2 hv]
  rw [if_neg (by rw [h3]; decide)]

/- classes -/
structure ClsOk (K : Frag) (Cl : Addr) : Prop where
  makes : makesIn K Cl = true
  ga : findIn K (.ref Cl) "__getattribute__" = some (some (.builtin "object.__getattribute__"))
  gx : findIn K (.ref Cl) "__getattr__" = some none
  sa : findIn K (.ref Cl) "__setattr__" = some (some (.builtin "object.__setattr__"))
  po : plainOver K Cl = true
  hd : (clsIn K Cl).any (·.hasDict) = true
theorem findObj_own {K : Frag} {Cl : Addr} {od : Obj} {name : Str} {x : Value} (hc : (clsIn K Cl).any (·.hasDict) = true) (hn : findIn K (.ref Cl) name = some none) (hl : lookIn name od = some (some x)) : findObj K Cl (some od) name = some (.value x) := by
  obtain ⟨cd, h1, h2⟩ := any_some hc
  unfold findObj PySem.W.ownOf
  rw [h1, hn]
  simp [h2, hl]
def plainV : V → Bool
  | .k _ => false
  | _ => true
theorem handed_of {ad : List Addr} {v : V} {x : Value} (h : RV ad v x) (hp : plainV v = true) : handedIn x = true := by
  cases v with
  | none => cases h; rfl
  | bool b => cases h; rfl
  | int i => obtain ⟨t, rfl⟩ := h; rfl
  | str s => obtain ⟨t, rfl⟩ := h; rfl
  | bytes b => obtain ⟨t, rfl⟩ := h; rfl
  | ref i => obtain ⟨a, _, rfl⟩ := h; rfl
  | k v => cases hp

section
variable {C : Cx} {A : Around} {env : Env} {ρ : Loc} {σ : AH} {E : EX} {Q : V → AH → Prop}
theorem HR.inst {ad : List Addr} {h : Heap} {i d : Nat} {es : List (Str × V)} {Cl : Addr} {a : Addr} (hr : HR C ad σ h) (b : σ[i]? = some (.inst Cl d)) (bd : σ[d]? = some (.ns es)) (ha : ad[i]? = some a) :
    ∃ dA ds n, ad[d]? = some dA ∧ h.get? dA = some ⟨.type "dict", none, .dict ds n, #[]⟩ ∧ REs C.w.params ad es ds.toList ∧ PySem.W.InstAt h a ⟨.ref Cl, some dA, .plain, #[]⟩ Cl (some ⟨.type "dict", none, .dict ds n, #[]⟩) := by
  obtain ⟨ob, h1, dA, h2, rfl⟩ := hr.obj i _ a b ha
  obtain ⟨od, h3, ds, n, rfl, h4⟩ := hr.obj d _ dA bd h2
  exact ⟨dA, ds, n, h2, h3, h4, ⟨h1, rfl, rfl, h3⟩⟩

/- attributes -/
structure WAt (C : Cx) (A : Around) (v : V) (name : Str) (σ : AH) (Q : V → AH → Prop) (E : EX) : Prop where
  run : ∀ ad s x, HR C ad σ s.heap → RV ad v x → wpAny (model C.prog C.w) A (getAttr x name true) (PE C ad s Q) E s
theorem WE_attr {value : Expr} {attr : Str} {pos : Pos} (h : WE C A env value ρ σ (fun v σ1 => WAt C A v attr σ1 Q E) E) (hv : plainBase value = true := by rfl) : WE C A env (.Attribute value attr pos) ρ σ Q E := by
  refine ⟨?_⟩
  intro ad s hr er
  have e1 : attributeBase value attr env (eval value env) = eval value env := by cases value <;> first | rfl | cases hv
  refine Attribute_any_ (wpAny_mono (h.run ad s hr er) ?_ fun _ _ x => x) (by rw [arm_eval_Attribute, e1])
  rintro u s1 ⟨ad1, σ1, v, n1, r1, h1⟩
  exact wpAny_mono (h1.run ad1 s1 u n1.hr r1) (fun u s' p => PE.trans n1 p) fun _ _ x => x
theorem at_inst {K : Frag} {Cl : Addr} {i d : Nat} {es : List (Str × V)} {name : Str} {v : V} (X : K.In C.G) (ok : ClsOk K Cl) (hn : findIn K (.ref Cl) name = some none) (b : σ[i]? = some (.inst Cl d)) (bd : σ[d]? = some (.ns es))
    (hv : es.lookup name = some v) (hp : plainV v = true) (h : Q v σ) : WAt C A (.ref i) name σ Q E := by
  refine ⟨?_⟩
  rintro ad s x hr ⟨a, ha, rfl⟩
  obtain ⟨dA, ds, n, h2, h3, h4, I⟩ := hr.inst b bd ha
  obtain ⟨x, hx, rx⟩ := lookIn_some (c := .type "dict") (d := none) (n := n) (sl := #[]) h4 hv
  exact get_value (X.keeps hr.keep) I ok.ga (findObj_own ok.hd hn hx) (handed_of rx hp) (PE.tok _ hr rx h)
theorem WM_inst {K : Frag} {Cl : Addr} {i d : Nat} {es : List (Str × V)} {name : Str} {f : Addr} {KK : Value → List V → AH → Prop} (X : K.In C.G) (ok : ClsOk K Cl) (hf : findIn K (.ref Cl) name = some (some (.ref f))) (ht : typeIn K (.ref f) = some (.type "function"))
    (b : σ[i]? = some (.inst Cl d)) (bd : σ[d]? = some (.ns es)) (hs : es.lookup name = none) (h : KK (.ref f) [.ref i] σ) : WM C A (.ref i) name σ KK E := by
  refine ⟨?_⟩
  rintro ad s x pl hr ⟨a, ha, rfl⟩
  obtain ⟨dA, ds, n, h2, h3, h4, I⟩ := hr.inst b bd ha
  have hx := lookIn_none (c := .type "dict") (d := none) (n := n) (sl := #[]) h4 hs
  refine method_fn (X.keeps hr.keep) I ok.ga ok.gx hf ht (by unfold shadowIn; simp only [hx]; rfl) ⟨ad, σ, [.ref i], Nx.refl hr, .cons ⟨a, ha, rfl⟩ .nil, h⟩

/- stores to attributes -/
structure WSt (C : Cx) (A : Around) (v : V) (name : Str) (x : V) (σ : AH) (Q : AH → Prop) (E : EX) : Prop where
  run : ∀ ad s vx xx, HR C ad σ s.heap → RV ad v vx → RV ad x xx → wpAny (model C.prog C.w) A (setAttr vx name xx) (fun _ s' => ∃ ad' σ', Nx C [] ad s ad' σ' s' ∧ Q σ') E s
theorem WS_setattr {o e : Expr} {attr : Str} {p pos : Pos} {Q : Fl → Loc → AH → Prop} (h : WE C A env e ρ σ (fun x σ1 => WE C A env o ρ σ1 (fun v σ2 => WSt C A v attr x σ2 (fun σ3 => Q .next ρ σ3) E) E) E)
    (hs : isCompE e = false := by rfl) : WS C A env (.Assign [.Attribute o attr p] e pos) ρ σ Q E := by
  refine ⟨?_⟩
  intro ad s hr er
  refine plainObj_wpAny_Assign_Attribute (wpAny_mono (h.run ad s hr er) ?_ fun _ _ x => x) (swaps_not hs)
  rintro x s1 ⟨ad1, σ1, vx, n1, r1, h1⟩
  refine wpAny_mono (h1.run ad1 s1 n1.hr (er.next n1)) ?_ fun _ _ x => x
  rintro ov s2 ⟨ad2, σ2, vo, n2, r2, h2⟩
  refine wpAny_mono (h2.run ad2 s2 ov x n2.hr r2 (n2.rv r1)) ?_ fun _ _ x => x
  rintro _ s3 ⟨ad3, σ3, n3, h3⟩
  exact PS.ofE er (n1.trans (n2.trans n3)) (fl := .next) rfl h3
theorem set_inst {K : Frag} {Cl : Addr} {i d : Nat} {es : List (Str × V)} {name : Str} {x : V} {Q : AH → Prop} (X : K.In C.G) (ok : ClsOk K Cl) (ht : takerIn K Cl name = some none) (b : σ[i]? = some (.inst Cl d)) (bd : σ[d]? = some (.ns es))
    (hz : es.length ≤ sizeLine) (h : Q (σ.set d (.ns (putNs name x es)))) : WSt C A (.ref i) name x σ Q E := by
  refine ⟨?_⟩
  rintro ad s vx xx hr ⟨a, ha, rfl⟩ rx
  obtain ⟨dA, ds, n, h2, h3, h4, I⟩ := hr.inst b bd ha
  have X' := X.keeps hr.keep
  refine set_plain X' I ok.sa ?_
  refine osa_open (s := { s with toks := s.toks + 1 }) X' I ok.po ht fun bb => ?_
  obtain ⟨cd, hc, hd'⟩ := any_some ok.hd
  obtain ⟨ds', n', e', hl'⟩ := putName_at (c := .type "dict") (d := none) (es := ds) (n := n) (sl := #[]) (name := name) (hs := PyData.keyHash C.w.params name) (key := .str name (s.toks + 1)) (v := xx)
  refine wpAny_bind (wpAny_pure (wpAny_bind (wpAny_bind (wpAny_loadPart I.at_ (wpAny_bind (Looks.here (s := { s with toks := s.toks + 1 }) (looks_clsIn X' hc) ?_))))))
  rw [hd']
  refine wpAny_pure (a := some dA) (wpAny_bind (wpAny_pure (wpAny_bind ?_)))
  unfold nsSet
  refine wpAny_bind (wpAny_bind (wpAny_askSetting (wpAny_pure (wpAny_bind (wpAny_mkText (wpAny_bind (wpAny_loadPart h3 ?_)))))))
  dsimp only
  have c0 : (!ds.any (·.key.isStr name) && ds.any (·.refKey)) = false := by
    rw [← Array.any_toList, ← Array.any_toList, (h4.look name).2.2, Bool.and_false]
  rw [aRefKeyMayBeTheName_at, c0]
  refine wpAny_updatePart h3 ?_
  have D' := Heap.get?_update_self (Obj.putName name (PyData.keyHash C.w.params name) (.str name (s.toks + 1)) xx) h3 (by rw [e']; rfl)
  rw [e'] at D'
  have hsz : ds'.size ≤ sizeLine + 1 := by
    have r1 := (h4.put (k := name) (t := s.toks + 1) rx).length
    rw [← hl'] at r1
    have e3 : ds'.toList.length = ds'.size := Array.length_toList
    have := putNs_len (k := name) (v := x) (es := es)
    omega
  refine wpAny_bind (wpAny_lookBehind D' (pastItsLine_dict hsz) ?_)
  exact wpAny_pure ⟨ad, _, Nx.set (o := .ns (putNs name x es)) hr h2 (Heap.SameBut.update ..) D' ⟨ds', n', rfl, by rw [hl']; exact h4.put rx⟩, h⟩

/- a class called -/
theorem WC_new {K : Frag} {Cl fI : Addr} {vs : List V} (X : K.In C.G) (ok : ClsOk K Cl) (hi : findIn K (.ref Cl) "__init__" = some (some (.ref fI))) (hf : typeIn K (.ref fI) = some (.type "function"))
    (h : ∀ xs, WCc C (A.under (.builtin "type.__call__" ⟨.ref Cl :: xs, []⟩)) (.ref fI) (.ref (σ.length + 1) :: vs) (σ ++ [.ns []] ++ [.inst Cl σ.length]) (fun v σ' => v = .none ∧ Q (.ref (σ.length + 1)) σ') E) : WC C A (.ref Cl) vs σ Q E := by
  refine ⟨?_⟩
  rintro ad ⟨hh, g, dr, t, os⟩ xs hr rv
  have X' := X.keeps hr.keep
  refine wpAny_call (make_core (makes_of X' ok.makes) (looks_findIn X' hi) (fun self => bind_fn X' self hf) (.inl rfl) ?_)
  have n1 := Nx.alloc (s := ⟨hh, g, dr, t, os⟩) (o := .ns []) (ob := emptyDict) hr ⟨#[], 0, rfl, .nil⟩
  have n2 := Nx.alloc (o := .inst Cl σ.length) (ob := instObj Cl hh.objs.size) n1.hr ⟨hh.objs.size, by rw [← hr.len]; simp, rfl⟩
  have n12 := n1.trans n2
  have hsz : (hh.push emptyDict).objs.size = hh.objs.size + 1 := Heap.size_push ..
  have rx : RV (ad ++ [hh.objs.size] ++ [hh.objs.size + 1]) (.ref (σ.length + 1)) (.ref (hh.objs.size + 1)) := ⟨_, by rw [← hr.len]; simp, rfl⟩
  have e2 : (ad ++ [hh.objs.size] ++ [(hh.push emptyDict).objs.size]) = ad ++ [hh.objs.size] ++ [hh.objs.size + 1] := by rw [hsz]
  simp only [hsz] at n12 n2
  refine codeAny_mono ((h _).run _ _ _ n2.hr (.cons rx (n12.rvs rv))) fun r s' z => ?_
  rcases r with e | (v | _ | _ | _) <;> first | exact z | exact z.elim | skip
  obtain ⟨ad', σ', v', n3, r3, rfl, hq⟩ := z
  cases r3
  exact ⟨rfl, ad', σ', _, n12.trans n3, n3.rv rx, hq⟩
end
end Mine

-- part Aw19
set_option autoImplicit false
set_option linter.unusedVariables false
namespace Mine
open PySem PySem.W PyProof.Rows

section
variable {prog : Program} {w : World} {A : Around} {E : Value → Shared → Prop} {s : Shared}
end

/- dicts -/
inductive RKs (ad : List Addr) : List (Str × V) → List (Str × Value) → Prop
  | nil : RKs ad [] []
  | cons {k : Str} {v : V} {x : Value} {es : List (Str × V)} {kvs : List (Str × Value)} : RV ad v x → RKs ad es kvs → RKs ad ((k, v) :: es) ((k, x) :: kvs)
section
variable {C : Cx} {A : Around} {env : Env} {ρ : Loc} {σ : AH} {E : EX} {Q : V → AH → Prop}
/- stores to items -/
structure WSi (C : Cx) (A : Around) (o i x : V) (σ : AH) (Q : AH → Prop) (E : EX) : Prop where
  run : ∀ ad s vo vi vx, HR C ad σ s.heap → RV ad o vo → RV ad i vi → RV ad x vx → wpAny (model C.prog C.w) A (setItem vo vi vx) (fun _ s' => ∃ ad' σ', Nx C [] ad s ad' σ' s' ∧ Q σ') E s
/- ints -/
theorem pow_ii {i n : Int} (hn : 0 ≤ n) (hn2 : n ≤ 1000000) (ha : i.natAbs < 2 ^ 64) (h : Q (.int (i ^ n.toNat)) σ) : WOp2 C A (binaryOp .Pow) (.int i) (.int n) σ Q E := by
  refine ⟨?_⟩
  rintro ad s x y hr ⟨t, rfl⟩ ⟨u, rfl⟩
  exact pow_int_small hn hn2 ha (PE.tok (v := .int (i ^ n.toNat)) _ hr ⟨_, rfl⟩ h)
theorem WE_globi {C : Cx} {l : List (Str × Value)} {x : Str} {pos : Pos} {i : Int} {t : Tok} {Q : V → AH → Prop} (hx : (x, Value.int i t) ∈ l) (h : Q (.int i) σ) : WE (C.wg l) A env (.Name x pos) ρ σ Q E := by
  refine ⟨?_⟩
  intro ad s hr er
  have := (WE_glob (C := C) (A := A) (env := env) (ρ := ρ) (σ := σ) (E := E) (pos := pos) (Q := fun v σ1 => v = .k (.int i t) ∧ σ1 = σ) hx ⟨rfl, rfl⟩).run ad s hr er
  refine wpAny_mono this ?_ fun _ _ x => x
  rintro u s1 ⟨ad1, σ1, v, n1, r1, rfl, rfl⟩
  cases r1
  exact ⟨ad1, _, .int i, n1, ⟨t, rfl⟩, h⟩
end
end Mine

-- part Aw20
set_option autoImplicit false
set_option linter.unusedVariables false
namespace Mine
open PySem PySem.W PyProof.Rows

theorem wpAny_szE {α : Type} {M : Model} {A : Around} {s : Shared} {t : Sem α} {Q : α → Shared → Prop} {E : Value → Shared → Prop}
    (h : wpAny M A t Q (fun e s' => s.heap.objs.size ≤ s'.heap.objs.size → E e s') s) : wpAny M A t Q E s :=
  have h2 : wpAny M A t (fun a s' => s.heap.objs.size ≤ s'.heap.objs.size ∧ Q a s') (fun e s' => s.heap.objs.size ≤ s'.heap.objs.size ∧ (s.heap.objs.size ≤ s'.heap.objs.size → E e s')) s :=
    fun Γ p hΓ => wp_sz M Γ s.heap.objs.size t _ _ p s (Nat.le_refl _) (h Γ p hΓ)
  wpAny_mono h2 (fun _ _ x => x.2) (fun _ _ x => x.2 x.1)

/- the frames around -/
def frs (l : List Env) : List Addr := l.filterMap (·.frame)
def Frs (C : Cx) (ad : List Addr) (h : Heap) (l : List Env) : Prop := ∀ env ∈ l, env.scope.kind ≠ .module ∧ ∃ L o, env.frame = some L ∧ C.G.get? L = none ∧ L ∉ ad ∧ h.get? L = some o ∧ ∀ vs, o.data ≠ .fields vs
section
variable {C : Cx} {A : Around} {env : Env} {ρ : Loc} {σ : AH} {E : EX}
theorem Frs.mem {ad : List Addr} {h : Heap} {l : List Env} (f : Frs C ad h l) {b : Addr} (hb : b ∈ frs l) : C.G.get? b = none ∧ b ∉ ad ∧ ∃ o, h.get? b = some o ∧ ∀ vs, o.data ≠ .fields vs := by
  obtain ⟨env, he, hf⟩ := List.mem_filterMap.mp hb
  obtain ⟨_, L, o, h1, h2, h3, h4, h5⟩ := f env he
  rw [h1] at hf; cases hf
  exact ⟨h2, h3, o, h4, h5⟩
theorem Nx.notin {ch ad ad1 : List Addr} {σ1 : AH} {s s1 : Shared} (n : Nx C ch ad s ad1 σ1 s1) {b : Addr} {o : Obj} (e : s.heap.get? b = some o) (hb : b ∉ ad) : b ∉ ad1 := by
  obtain ⟨nw, e1, hn⟩ := n.pre
  rw [e1]; intro hm
  rcases List.mem_append.mp hm with hm | hm
  · exact hb hm
  · exact absurd (Heap.lt_size e) (Nat.not_lt.mpr (hn b hm))
theorem Frs.next {ch ad ad1 : List Addr} {σ1 : AH} {s s1 : Shared} {l : List Env} (f : Frs C ad s.heap l) (n : Nx C ch ad s ad1 σ1 s1) (hc : ∀ b ∈ frs l, b ∉ ch) : Frs C ad1 s1.heap l := by
  intro env he
  obtain ⟨hk, L, o, h1, h2, h3, h4, h5⟩ := f env he
  have hb : L ∈ frs l := List.mem_filterMap.mpr ⟨env, he, h1⟩
  exact ⟨hk, L, o, h1, h2, n.notin h4 h3, n.same L o h4 h3 (hc L hb), h5⟩
theorem Frs.fun {ad : List Addr} {h : Heap} {l0 : List Env} : ∀ {l : List Env}, Frs C ad h l → (∀ env ∈ l, env ∈ l0) → h.FunFrames (hideAll h (frs l0)) l
  | [], _, _ => trivial
  | env :: r, f, hs => by
    obtain ⟨hk, L, o, h1, h2, h3, h4, h5⟩ := f env (.head _)
    exact ⟨hk, ⟨L, o, h1, hideAll_none _ (List.mem_filterMap.mpr ⟨env, hs env (.head _), h1⟩), h4, h5⟩, Frs.fun (fun e he => f e (.tail _ he)) (fun e he => hs e (.tail _ he))⟩
theorem HR.hide {ad : List Addr} {h : Heap} {l : List Env} (hr : HR C ad σ h) (f : Frs C ad h l) : HR C ad σ (hideAll h (frs l)) :=
  ⟨hr.ok, fun b o e => hideAll_get _ (hr.keep b o e) (fun hm => by rw [(f.mem hm).1] at e; cases e), hr.len, hr.nd, hr.off, hr.low,
    fun i o a h1 h2 => let ⟨ob, h3, h4⟩ := hr.obj i o a h1 h2; ⟨ob, hideAll_get _ h3 (fun hm => (f.mem hm).2.1 (List.mem_of_getElem? h2)), h4⟩⟩

/-- an exception of the class at PC on its way through the frames l -/
structure Fly (C : Cx) (ch : List Addr) (l : List Env) (PC : Addr) (ad : List Addr) (s : Shared) (ad' : List Addr) (σ' : AH) (x : Addr) (s' : Shared) : Prop where
  eq : ∃ h tk, s' = { s with heap := h, toks := tk }
  pre : ∃ nw, ad' = ad ++ nw ∧ ∀ a ∈ nw, s.heap.objs.size ≤ a
  size : s.heap.objs.size ≤ s'.heap.objs.size
  fl : ∃ B a0, Heap.FlyingW B l x (.ref PC) a0 s'.heap ∧ HR C ad' σ' B ∧ ∀ b o, s.heap.get? b = some o → b ∉ ad → b ∉ ch → b ∉ frs l → B.get? b = some o
  up : ∀ b ∈ frs l, ∀ o, s.heap.get? b = some o → b ∉ ch → ∃ sl, s'.heap.get? b = some { o with slots := sl }
theorem Fly.of_nx {ch ad ad1 ad' : List Addr} {σ1 σ' : AH} {s s1 s' : Shared} {l : List Env} {PC x : Addr} (n : Nx C ch ad s ad1 σ1 s1) (f : Fly C ch l PC ad1 s1 ad' σ' x s') (hl : ∀ b ∈ frs l, b ∉ ad) : Fly C ch l PC ad s ad' σ' x s' := by
  obtain ⟨h1, t1, e1⟩ := n.eq
  obtain ⟨h2, t2, e2⟩ := f.eq
  obtain ⟨n1, p1, q1⟩ := n.pre
  obtain ⟨n2, p2, q2⟩ := f.pre
  obtain ⟨B, a0, g1, g2, g3⟩ := f.fl
  refine ⟨⟨h2, t2, by rw [e2, e1]⟩, ⟨n1 ++ n2, by rw [p2, p1, List.append_assoc], ?_⟩, Nat.le_trans n.size f.size, ⟨B, a0, g1, g2, fun b o e hb hc hf => g3 b o (n.same b o e hb hc) (n.notin e hb) hc hf⟩, fun b hb o e hc => f.up b hb o (n.same b o e (hl b hb) hc) hc⟩
  intro x hx
  rcases List.mem_append.mp hx with hx | hx
  · exact q1 x hx
  · exact Nat.le_trans n.size (q2 x hx)
theorem Fly.weak {ch ad ad' : List Addr} {σ' : AH} {s s' : Shared} {l : List Env} {PC x : Addr} (f : Fly C [] l PC ad s ad' σ' x s') : Fly C ch l PC ad s ad' σ' x s' :=
  let ⟨B, a0, g1, g2, g3⟩ := f.fl
  ⟨f.eq, f.pre, f.size, ⟨B, a0, g1, g2, fun b o e hb _ hf => g3 b o e hb (by simp) hf⟩, fun b hb o e _ => f.up b hb o e (by simp)⟩
/- what raises for sure -/
structure RC (C : Cx) (A : Around) (f : Value) (vs : List V) (σ : AH) (PC : Addr) (X : AH → Prop) : Prop where
  run : ∀ ad s xs l, A.frames = some l → Frs C ad s.heap l → HR C ad σ s.heap → RVs ad vs xs → wpAny (model C.prog C.w) A (call f xs) (fun _ _ => False) (fun e s' => ∃ ad' σ' x, e = .ref x ∧ X σ' ∧ Fly C [] l PC ad s ad' σ' x s') s
structure RCc (C : Cx) (A : Around) (f : Value) (vs : List V) (σ : AH) (PC : Addr) (X : AH → Prop) : Prop where
  run : ∀ ad s xs l, A.frames = some l → Frs C ad s.heap l → HR C ad σ s.heap → RVs ad vs xs → codeAny (model C.prog C.w) A (.call f ⟨xs, []⟩) (fun r s' => match r with | .ok _ => False | .error e => ∃ ad' σ' x, e = .ref x ∧ X σ' ∧ Fly C [] l PC ad s ad' σ' x s') s
theorem RCc.toRC {f : Value} {vs : List V} {PC : Addr} {X : AH → Prop} (h : RCc C A f vs σ PC X) : RC C A f vs σ PC X :=
  ⟨fun ad s xs l hl hf hr rv => wpAny_call (codeAny_mono (h.run ad s xs l hl hf hr rv) fun r s' z => by
    rcases r with e | (v | _ | _ | _) <;> first | exact z | exact z.elim)⟩
structure Fx (C : Cx) (A : Around) (env : Env) (outer : List Env) (ad : List Addr) (h : Heap) : Prop where
  st : A.frames = some (env :: outer)
  fr : env.frame = some env.locals
  ou : Frs C ad h outer
  ap : ∀ b ∈ frs outer, b ∉ fa env
theorem Fx.next {outer : List Env} {ad ad1 : List Addr} {σ1 : AH} {s s1 : Shared} (f : Fx C A env outer ad s.heap) (n : Nx C (fa env) ad s ad1 σ1 s1) : Fx C A env outer ad1 s1.heap := ⟨f.st, f.fr, f.ou.next n f.ap, f.ap⟩
theorem ER.loc {ad : List Addr} {h : Heap} (er : ER C env ρ ad h) : ∃ o, h.get? env.locals = some o ∧ ∀ vs, o.data ≠ .fields vs := by
  obtain ⟨m, ⟨o, es, ep, ho, hd, _⟩, _⟩ := er.m
  exact ⟨o, ho, fun vs e => by rw [hd] at e; cases e⟩
theorem Fx.all {outer : List Env} {ad : List Addr} {h : Heap} (f : Fx C A env outer ad h) (er : ER C env ρ ad h) : Frs C ad h (env :: outer) := by
  intro e he
  rcases List.mem_cons.mp he with rfl | he
  · obtain ⟨o, ho, hd⟩ := er.loc
    obtain ⟨h1, h2⟩ := er.off e.locals (by simp [fa])
    exact ⟨by rw [er.kind]; decide, e.locals, o, f.fr, h1, h2, ho, hd⟩
  · exact f.ou e he
theorem frs_cons {outer : List Env} (h : env.frame = some env.locals) {b : Addr} : b ∈ frs (env :: outer) ↔ b = env.locals ∨ b ∈ frs outer := by
  unfold frs
  rw [List.filterMap_cons, h]
  simp
theorem ER.up {ad : List Addr} {h h' : Heap} (er : ER C env ρ ad h) (u : h.UpToSlots h') (hz : h.objs.size ≤ h'.objs.size) : ER C env ρ ad h' := by
  refine ⟨er.kind, er.glob, er.blt, er.nd, er.kd, ?_, ?_, er.cinj, er.cl, er.off, fun a ha => Nat.lt_of_lt_of_le (er.lt a ha) hz, er.nm, er.gk⟩
  · obtain ⟨m, hm, h1⟩ := er.m
    exact ⟨m, u.ns hm, h1⟩
  · intro x c hc
    obtain ⟨o, w, h1, h2, h3⟩ := er.cell x c hc
    obtain ⟨sl, h4⟩ := u c o h1 fun vs e => by rw [h2] at e; cases e
    exact ⟨_, w, h4, h2, h3⟩
theorem ER.fly {outer : List Env} {ad ad' : List Addr} {σ' : AH} {s s' : Shared} {PC x : Addr} (er : ER C env ρ ad s.heap) (hf : env.frame = some env.locals) (ap : ∀ b ∈ frs outer, b ∉ fa env) (f : Fly C [] (env :: outer) PC ad s ad' σ' x s') : ER C env ρ ad' s'.heap := by
  obtain ⟨B, a0, g1, g2, g3⟩ := f.fl
  obtain ⟨nw, p1, q1⟩ := f.pre
  refine ⟨er.kind, er.glob, er.blt, er.nd, er.kd, ?_, ?_, er.cinj, er.cl, ?_, fun a ha => Nat.lt_of_lt_of_le (er.lt a ha) f.size, er.nm, er.gk⟩
  · obtain ⟨m, ⟨o, es, ep, ho, hd, hr⟩, h1⟩ := er.m
    obtain ⟨sl, hs⟩ := f.up env.locals (by rw [frs_cons hf]; exact .inl rfl) o ho (by simp)
    refine ⟨m, ⟨_, es, ep, hs, hd, hr⟩, fun y v hy hk => ?_⟩
    obtain ⟨u, h2, h3⟩ := h1 y v hy hk
    exact ⟨u, h2, by rw [p1]; exact h3.mono⟩
  · intro y c hc
    obtain ⟨o, w, h1, h2, h3⟩ := er.cell y c hc
    refine ⟨o, w, g1.1 c o (g3 c o h1 (er.off c (mem_cells hc)).2 (by simp) ?_), h2, fun v hv hk => ?_⟩
    · rw [frs_cons hf]
      rintro (e | hm)
      · exact er.cl y c hc e
      · exact ap c hm (mem_cells hc)
    · obtain ⟨u, h4, h5⟩ := h3 v hv hk
      exact ⟨u, h4, by rw [p1]; exact h5.mono⟩
  · intro b hb
    refine ⟨(er.off b hb).1, ?_⟩
    rw [p1]; intro hm
    rcases List.mem_append.mp hm with hm | hm
    · exact (er.off b hb).2 hm
    · exact absurd (er.lt b hb) (Nat.not_lt.mpr (q1 b hm))
structure RE (C : Cx) (A : Around) (env : Env) (e : Expr) (ρ : Loc) (σ : AH) (PC : Addr) (X : AH → Prop) : Prop where
  run : ∀ ad s outer, Fx C A env outer ad s.heap → HR C ad σ s.heap → ER C env ρ ad s.heap → wpAny (model C.prog C.w) A (eval e env) (fun _ _ => False) (fun e s' => ∃ ad' σ' x, e = .ref x ∧ X σ' ∧ Fly C [] (env :: outer) PC ad s ad' σ' x s') s
/-- made in this frame, not yet on its way -/
def Mk (C : Cx) (env : Env) (PC : Addr) (ad : List Addr) (s : Shared) (ad' : List Addr) (σ' : AH) (x : Addr) (s' : Shared) : Prop :=
  s.heap.objs.size ≤ s'.heap.objs.size ∧ ∃ s2 vs, Nx C (fa env) ad s ad' σ' s2 ∧ (∃ o, s2.heap.get? env.locals = some o ∧ ∀ vs, o.data ≠ .fields vs) ∧ Heap.MadeExcOf s2.heap s'.heap x (.ref PC) vs ∧ ∃ h', s' = { s2 with heap := h' }
def PX (C : Cx) (env : Env) (outer : List Env) (mk : Bool) (PC : Addr) (X : Loc → AH → Prop) (ad : List Addr) (s : Shared) : EX :=
  fun e s' => ∃ ad' σ' ρ' x, e = .ref x ∧ X ρ' σ' ∧ ((Fly C (fa env) (env :: outer) PC ad s ad' σ' x s' ∧ ER C env ρ' ad' s'.heap) ∨ (mk = true ∧ Mk C env PC ad s ad' σ' x s'))
structure RS (C : Cx) (A : Around) (env : Env) (st : Stmt) (ρ : Loc) (σ : AH) (mk : Bool) (PC : Addr) (X : Loc → AH → Prop) : Prop where
  run : ∀ ad s outer, Fx C A env outer ad s.heap → HR C ad σ s.heap → ER C env ρ ad s.heap → wpAny (model C.prog C.w) A (exec st env) (fun _ _ => False) (PX C env outer mk PC X ad s) s
structure RSs (C : Cx) (A : Around) (env : Env) (st : List Stmt) (ρ : Loc) (σ : AH) (mk : Bool) (PC : Addr) (X : Loc → AH → Prop) : Prop where
  run : ∀ ad s outer, Fx C A env outer ad s.heap → HR C ad σ s.heap → ER C env ρ ad s.heap → wpAny (model C.prog C.w) A (execs st env) (fun _ _ => False) (PX C env outer mk PC X ad s) s
theorem PX.of_nx {outer : List Env} {mk : Bool} {PC : Addr} {X : Loc → AH → Prop} {ad ad1 : List Addr} {σ1 : AH} {s s1 s' : Shared} {e : Value} (n : Nx C (fa env) ad s ad1 σ1 s1) (hl : ∀ b ∈ frs (env :: outer), b ∉ ad) (p : PX C env outer mk PC X ad1 s1 e s') : PX C env outer mk PC X ad s e s' := by
  obtain ⟨ad', σ', ρ', x, rfl, hX, h⟩ := p
  refine ⟨ad', σ', ρ', x, rfl, hX, ?_⟩
  rcases h with ⟨f, er⟩ | ⟨hm, hz, s2, vs, n2, ho, hx, he⟩
  · exact .inl ⟨f.of_nx n hl, er⟩
  · exact .inr ⟨hm, Nat.le_trans n.size hz, s2, vs, n.trans n2, ho, hx, he⟩
theorem Fx.nin {outer : List Env} {ad : List Addr} {h : Heap} (f : Fx C A env outer ad h) (er : ER C env ρ ad h) : ∀ b ∈ frs (env :: outer), b ∉ ad := fun b hb => ((f.all er).mem hb).2.1
end
end Mine

-- part Aw21
set_option autoImplicit false
set_option linter.unusedVariables false
namespace Mine
open PySem PySem.W PyProof.Rows

section
variable {C : Cx} {A : Around} {env : Env} {ρ : Loc} {σ : AH} {E : EX}
theorem RCc_def {f : Addr} {o : Obj} {name qual : Str} {params : Arguments} {body : List Stmt} {scope : Scope} {dV kV doc pm cdv ct : Value} {an : Option Addr} {pn ln : List Str} {gl : List (Str × Value)} {vs dv : List V} {ds : List Value} {PC : Addr} {X : AH → Prop}
    (ho : C.G.get? f = some o) (hd : o.data = .func (mkFd name qual params body scope dV kV doc pm an cdv ct)) (hcd : C.G.CodeRec cdv qual) (hroom : A.depth < recursionLimit)
    (hds : RVs [] dv ds) (hlen : pn.length = vs.length + dv.length) (hgl : ∀ x v, (x, v) ∈ gl → C.mg x = some v ∨ (C.mg x = none ∧ C.mb x = some v))
    (hbind : ∀ (s : Shared) (xs : List Value), (∀ b o, C.G.get? b = some o → s.heap.get? b = some o) → xs.length = vs.length → BindsTo s (mkFd name qual params body scope dV kV doc pm an cdv ct) ⟨xs, []⟩ (pn.zip (xs ++ ds)))
    (hnd : (pn ++ ln).Nodup) (hcn : ((cellsFrom 0 scope.names []).map (·.1)).Nodup)
    (hkd : ((pn ++ ln).all fun x => nmOk x && (scope.names.lookup x == some .local || (scope.names.lookup x == some .cell && ((cellsFrom 0 scope.names []).lookup x).isSome))) = true)
    (hgk : (gl.all fun p => nmOk p.1 && scope.names.lookup p.1 == some .globalImplicit) = true)
    (h : ∀ env, Kn env scope.names → RSs (C.wg gl) (A.deeper env) env body (pn.zip ((vs ++ dv).map some) ++ ln.map fun x => (x, none)) σ true PC (fun _ σ' => X σ'))
    (hco : scope.isCoroutine = false := by rfl) (hgen : scope.isGenerator = false := by rfl) (hk : scope.kind = .function := by rfl) : RCc C A (.ref f) vs σ PC X := by
  refine ⟨?_⟩
  intro ad s xs l hl hF hr rv
  refine def_entry ho hd hcd hroom hds hlen hgl hbind hnd hcn hkd hgk hr rv (fun env s1 hkn hfr keep hsz e1 hfa hr1 er1 => ?_) hco hgen hk
  obtain ⟨h1, tk, e1⟩ := e1
  have nfa : ∀ b o, s.heap.get? b = some o → b ∉ fa env := fun b o e hm => absurd (Heap.lt_size e) (Nat.not_lt.mpr (hfa b hm))
  have nloc : ∀ b o, s.heap.get? b = some o → b ≠ env.locals := fun b o e q => nfa b o e (by rw [q]; simp [fa])
  have ap : ∀ b ∈ frs l, b ∉ fa env := fun b hb => by
    obtain ⟨_, _, o, ho, _⟩ := hF.mem hb
    exact nfa b o ho
  have fx : Fx (C.wg gl) (A.deeper env) env l ad s1.heap := by
    refine ⟨by show A.frames.map _ = _; rw [hl]; rfl, hfr, fun e he => ?_, ap⟩
    obtain ⟨k1, L, o, k2, k3, k4, k5, k6⟩ := hF e he
    exact ⟨k1, L, o, k2, k3, k4, keep L o k5, k6⟩
  refine wpAny_mono ((h env hkn).run ad s1 l fx hr1 er1) (fun _ _ z => z.elim) ?_
  rintro e s' ⟨ad', σ', ρ', x, rfl, hX, hcase⟩
  rcases hcase with ⟨f, er'⟩ | ⟨_, hz, s2, vs2, n, ⟨oL, hoL, hdL⟩, hx, h2, e2⟩
  · obtain ⟨B, a0, g1, g2, g3⟩ := f.fl
    obtain ⟨hh, tk', e3⟩ := f.eq
    obtain ⟨nw, p1, q1⟩ := f.pre
    refine wpAny_sz (wpAny_leaves_onW fx.st hfr g1 fun h' hfl' hup hz' => ⟨ad', σ', x, rfl, hX, ⟨⟨h', tk', by rw [e3, e1]⟩, ⟨nw, p1, fun a ha => Nat.le_trans hsz (q1 a ha)⟩, Nat.le_trans hsz (Nat.le_trans f.size hz'), ⟨B, a0, hfl', g2.gw hr.ok, fun b o e hb _ hf => ?_⟩, fun b hb o e _ => ?_⟩⟩)
    · refine g3 b o (keep b o e) hb (nfa b o e) ?_
      rw [frs_cons hfr]
      rintro (q | q)
      · exact nloc b o e q
      · exact hf q
    · obtain ⟨_, _, o', ho', hd'⟩ := hF.mem hb
      rw [e] at ho'; cases ho'
      obtain ⟨sl, hs⟩ := f.up b (by rw [frs_cons hfr]; exact .inr hb) o (keep b o e) (nfa b o e)
      obtain ⟨sl', hs'⟩ := hup b _ hs hd'
      exact ⟨sl', hs'⟩
  · have F2 : Frs (C.wg gl) ad' s2.heap (env :: l) := by
      intro e he
      rcases List.mem_cons.mp he with rfl | he
      · obtain ⟨k1, k2⟩ := er1.off e.locals (by simp [fa])
        obtain ⟨o1, ho1, _⟩ := er1.loc
        exact ⟨by rw [er1.kind]; decide, e.locals, oL, hfr, k1, n.notin ho1 k2, hoL, hdL⟩
      · exact (fx.ou.next n fx.ap) e he
    obtain ⟨hh, tk', e3⟩ := n.eq
    obtain ⟨nw, p1, q1⟩ := n.pre
    refine wpAny_sz (wpAny_leaves_madeW (base := hideAll s2.heap (frs (env :: l))) fx.st hfr (fun b o q => of_hideAll _ q) (F2.fun fun _ z => z) hx fun h' t hfl' htup hnone hup hz' => ⟨ad', σ', x, rfl, hX, ⟨⟨h', tk', by rw [e2, e3, e1]⟩, ⟨nw, p1, fun a ha => Nat.le_trans hsz (q1 a ha)⟩, Nat.le_trans hsz (Nat.le_trans hz hz'), ⟨_, _, hfl', (n.hr.hide F2).gw hr.ok, fun b o e hb _ hf => ?_⟩, fun b hb o e _ => ?_⟩⟩)
    · refine hideAll_get _ (n.same b o (keep b o e) hb (nfa b o e)) ?_
      rw [frs_cons hfr]
      rintro (q | q)
      · exact nloc b o e q
      · exact hf q
    · obtain ⟨_, hb', o', ho', hd'⟩ := hF.mem hb
      rw [e] at ho'; cases ho'
      exact hup b o (hx.keeps b o (n.same b o (keep b o e) hb' (nfa b o e))) hd'

abbrev EF : EX := fun _ _ => False
theorem evalArgs_ns {f : Value} {e₀ : Expr} {rest : List Expr} {pos : Pos} {s : Shared} {M : Model} {Q : Args → Shared → Prop} (hns : noStar (e₀ :: rest) = true) (h : wpAny M A (spliced (backTo pos (starEach (e₀ :: rest) env))) (fun vs s' => Q ⟨vs, []⟩ s') E s) :
    wpAny M A (evalArgs f true (backTo pos (starEach (e₀ :: rest) env)) []) Q E s := by
  obtain ⟨g1, _⟩ := noStar_cons env hns
  rw [g1] at h ⊢
  exact Calls.evalArgs_plain h
theorem glob_same {C : Cx} {l : List (Str × Value)} {x : Str} {pos : Pos} {v : Value} {ad : List Addr} {s : Shared} {P : Value → Shared → Prop} (hx : (x, v) ∈ l) (hr : HR (C.wg l) ad σ s.heap) (er : ER (C.wg l) env ρ ad s.heap) (h : P v s) : wpAny (model C.prog C.w) A (eval (.Name x pos) env) P E s := by
  obtain ⟨hk, hn⟩ := er.gk x v hx
  refine Calls.Name_function_global er.kind hk ?_ (nmOk_d hn)
  rcases hr.ok.glo x v hx with e | ⟨e1, e2⟩
  · exact Calls.loadGlobal_global (by rw [er.glob]; exact hr.ok.g.keeps hr.keep) e h
  · exact Calls.loadGlobal_builtin (by rw [er.glob]; exact hr.ok.g.keeps hr.keep) e1 (by rw [er.blt]; exact hr.ok.b.keeps hr.keep) e2 h
theorem RE_call {C : Cx} {l : List (Str × Value)} {id : Str} {p pos : Pos} {args : List Expr} {f : Value} {PC : Addr} {X : AH → Prop} (hx : (id, f) ∈ l) (hc : Callable C f) (h : WL (C.wg l) A env args ρ σ (fun vs σ2 => RC (C.wg l) A f vs σ2 PC X) EF) (hns : noStar args = true := by rfl) :
    RE (C.wg l) A env (.Call (.Name id p) args [] pos) ρ σ PC X := by
  refine ⟨?_⟩
  intro ad s outer fx hr er
  refine wpAny_Call_Name_kw ?_
  have := (WE_glob (C := C) (A := A) (env := env) (ρ := ρ) (σ := σ) (E := EF) (pos := p) (Q := fun v σ1 => v = .k f ∧ σ1 = σ) hx ⟨rfl, rfl⟩).run ad s hr er
  refine wpAny_mono this ?_ fun _ _ x => x.elim
  rintro u s1 ⟨ad1, σ1, v, n1, r1, rfl, rfl⟩
  cases r1
  refine callWith_gen (C := C.wg l) hc hns (wpAny_mono (h.run ad1 s1 pos n1.hr (er.next n1)) ?_ fun _ _ x => x.elim)
  rintro us s2 ⟨ad2, σ2, vs, n2, r2, h2⟩
  have n12 := n1.trans n2
  refine ⟨n2.hr.keep, wpAny_mono (h2.run ad2 s2 us (env :: outer) fx.st ((fx.all er).next n12 (by simp)) n2.hr r2) (fun _ _ z => z) ?_⟩
  rintro e s' ⟨ad', σ', x, rfl, hX, fl⟩
  exact ⟨ad', σ', x, rfl, hX, fl.of_nx n12 (fx.nin er)⟩
theorem RE_meth {o : Expr} {name : Str} {apos pos : Pos} {args : List Expr} {PC : Addr} {X : AH → Prop} (h : WE C A env o ρ σ (fun v σ1 => WM C A v name σ1 (fun f first σ2 => Callable C f ∧ WL C A env args ρ σ2 (fun vs σ3 => RC C A f (first ++ vs) σ3 PC X) EF) EF) EF) (h1 : plainBase o = true := by rfl) (hns : noStar args = true := by rfl)
    (h3 : Nat.ble args.length 28 = true := by rfl) (h4 : (apos.endLine == pos.line) = true := by rfl) : RE C A env (.Call (.Attribute o name apos) args [] pos) ρ σ PC X := by
  refine ⟨?_⟩
  intro ad s outer fx hr er
  obtain ⟨pl, he⟩ := meth_eval (o := o) (name := name) (env := env) h1 hns h3 h4
  refine methodCall_KW (pl := pl) ?_ he
  refine wpAny_mono (h.run ad s hr er) ?_ fun _ _ x => x.elim
  rintro u s1 ⟨ad1, σ1, v, n1, r1, h1⟩
  refine wpAny_mono (h1.run ad1 s1 u pl n1.hr r1) ?_ fun _ _ x => x.elim
  rintro fx' s2 ⟨ad2, σ2, first, n2, r2, hc, h2⟩
  have n12 := n1.trans n2
  refine callWith_gen hc hns (wpAny_mono (h2.run ad2 s2 pos n2.hr (er.next n12)) ?_ fun _ _ x => x.elim)
  rintro us s3 ⟨ad3, σ3, vs, n3, r3, h3⟩
  have n13 := n12.trans n3
  refine ⟨n3.hr.keep, wpAny_mono (h3.run ad3 s3 _ (env :: outer) fx.st ((fx.all er).next n13 (by simp)) n3.hr ((n3.rvs r2).append r3)) (fun _ _ z => z) ?_⟩
  rintro e s' ⟨ad', σ', x, rfl, hX, fl⟩
  exact ⟨ad', σ', x, rfl, hX, fl.of_nx n13 (fx.nin er)⟩
/-- a call with arguments as a method's base -/
def callBase : Expr → Bool
  | .Call _ [] _ _ => false
  | _ => true
/- statements that raise -/
theorem RS.ofE {outer : List Env} {mk : Bool} {PC : Addr} {X : Loc → AH → Prop} {ad ad' : List Addr} {σ' : AH} {s s' : Shared} {x : Addr} (fx : Fx C A env outer ad s.heap) (er : ER C env ρ ad s.heap) (hX : X ρ σ') (fl : Fly C [] (env :: outer) PC ad s ad' σ' x s') : PX C env outer mk PC X ad s (.ref x) s' :=
  ⟨ad', σ', ρ, x, rfl, hX, .inl ⟨fl.weak, er.fly fx.fr fx.ap fl⟩⟩
theorem RS_expr {e : Expr} {pos : Pos} {mk : Bool} {PC : Addr} {X : Loc → AH → Prop} (h : RE C A env e ρ σ PC (fun σ' => X ρ σ')) (hs : isCompE e = false := by rfl) : RS C A env (.Expr e pos) ρ σ mk PC X := by
  refine ⟨?_⟩
  intro ad s outer fx hr er
  refine wpAny_Expr_any (wpAny_mono (h.run ad s outer fx hr er) (fun _ _ z => z.elim) ?_) (by unfold interactive; rw [er.kind]; rfl) (swaps_not hs)
  rintro e s' ⟨ad', σ', x, rfl, hX, fl⟩
  exact RS.ofE fx er hX fl
theorem RS_if {test : Expr} {body orelse : List Stmt} {pos : Pos} {mk : Bool} {PC : Addr} {X : Loc → AH → Prop} (h : WB C A env test ρ σ (fun b σ1 => if b then RSs C A env body ρ σ1 mk PC X else RSs C A env orelse ρ σ1 mk PC X) EF) : RS C A env (.If test body orelse pos) ρ σ mk PC X := by
  refine ⟨?_⟩
  intro ad s outer fx hr er
  refine wpAny_If (wpAny_mono (h.run ad s hr er) ?_ fun _ _ x => x.elim)
  rintro b s1 ⟨ad1, σ1, n1, h1⟩
  cases b with
  | true => exact wpAny_mono (h1.run ad1 s1 outer (fx.next n1.weak) n1.hr (er.next n1)) (fun _ _ z => z) fun _ _ z => PX.of_nx n1.weak (fx.nin er) z
  | false => exact wpAny_mono (h1.run ad1 s1 outer (fx.next n1.weak) n1.hr (er.next n1)) (fun _ _ z => z) fun _ _ z => PX.of_nx n1.weak (fx.nin er) z
theorem RSs_here {st : Stmt} {rest : List Stmt} {mk : Bool} {PC : Addr} {X : Loc → AH → Prop} (h : RS C A env st ρ σ mk PC X) : RSs C A env (st :: rest) ρ σ mk PC X := by
  refine ⟨?_⟩
  intro ad s outer fx hr er
  exact wpAny_execs_cons (wpAny_mono (h.run ad s outer fx hr er) (fun _ _ z => z.elim) fun _ _ x => x)
structure ThR (C : Cx) (A : Around) (env : Env) (rest : List Stmt) (mk : Bool) (PC : Addr) (X : Loc → AH → Prop) (fl : Fl) (ρ : Loc) (σ : AH) : Prop where
  run : match fl with
    | .next => RSs C A env rest ρ σ mk PC X
    | _ => False
theorem ThR_next {rest : List Stmt} {mk : Bool} {PC : Addr} {X : Loc → AH → Prop} (h : RSs C A env rest ρ σ mk PC X) : ThR C A env rest mk PC X .next ρ σ := ⟨h⟩
theorem RSs_next {st : Stmt} {rest : List Stmt} {mk : Bool} {PC : Addr} {X : Loc → AH → Prop} (h : WS C A env st ρ σ (ThR C A env rest mk PC X) EF) : RSs C A env (st :: rest) ρ σ mk PC X := by
  refine ⟨?_⟩
  intro ad s outer fx hr er
  refine wpAny_execs_cons (wpAny_mono (h.run ad s hr er) ?_ fun _ _ x => x.elim)
  rintro f s1 ⟨ad1, σ1, ρ1, fl, n1, e1, r1, ⟨h1⟩⟩
  cases fl with
  | next => cases r1; exact wpAny_mono (h1.run ad1 s1 outer (fx.next n1) n1.hr e1) (fun _ _ z => z.elim) fun _ _ z => PX.of_nx n1 (fx.nin er) z
  | brk => exact h1.elim
  | cont => exact h1.elim
  | ret v => exact h1.elim
theorem RS_raise {C : Cx} {l : List (Str × Value)} {x : Str} {np cpos pos : Pos} {e₀ : Expr} {rest : List Expr} {PC : Addr} {bm : List Value} {newId B initId : String} {X : Loc → AH → Prop} (hx : (x, Value.ref PC) ∈ l) (O : OwnCls x PC bm newId C.mg C.G) (FB : ExcBaseFacts B newId initId bm) (hA : A.handled = none)
    (h : WL (C.wg l) A env (e₀ :: rest) ρ σ (fun vs σ2 => vs.length ≤ sizeLine ∧ X ρ σ2) EF) (hns : noStar (e₀ :: rest) = true := by rfl) : RS (C.wg l) A env (.Raise (some (.Call (.Name x np) (e₀ :: rest) [] cpos)) none pos) ρ σ true PC X := by
  refine ⟨?_⟩
  intro ad s outer fx hr er
  obtain ⟨tl, N, nm, q, bs, hdct, sn, sub, ab, col, dd, k0, k1, k2, k3, k5, mN, hC, hN, hni, T⟩ := O.obj
  refine wpAny_szE (wpAny_Raise_call_subT (C := PC) (nm := nm) (q := q) (N := N) (bs := bs) (bm := tl) (hdct := hdct) (sn := sn) (sub := sub) (ab := ab) (col := col) (dd := dd) (k0 := k0) (k1 := k1) (k2 := k2) (k3 := k3) (k5 := k5)
    FB (mN := mN) (T.hasType FB.hasBase) hA (noStar_any env hns) hni ?_)
  have := (WE_glob (C := C) (A := A) (env := env) (ρ := ρ) (σ := σ) (E := EF) (pos := np) (Q := fun v σ1 => v = .k (.ref PC) ∧ σ1 = σ) hx ⟨rfl, rfl⟩).run ad s hr er
  refine wpAny_mono this ?_ fun _ _ x => x.elim
  rintro u s1 ⟨ad1, σ1, v, n1, r1, rfl, rfl⟩
  cases r1
  refine ⟨rfl, ?_⟩
  refine evalArgs_ns hns ?_
  refine wpAny_mono (h.run ad1 s1 cpos n1.hr (er.next n1)) ?_ fun _ _ x => x.elim
  rintro us s2 ⟨ad2, σ2, vs, n2, r2, hz, hX⟩
  have n12 := n1.trans n2
  have kk := n2.hr.keep
  refine ⟨rfl, by show us.length ≤ _; rw [← r2.length]; exact hz, kk _ _ hC, hN.keeps kk, T.keeps kk, fun h' e hm hsz => ?_⟩
  exact ⟨ad2, σ2, ρ, e, rfl, hX, .inr ⟨rfl, hsz, s2, us, n12.weak, (er.next n12).loc, hm, h', rfl⟩⟩
theorem WS_try_ok {body : List Stmt} {h₀ : ExceptHandler} {hs : List ExceptHandler} {pos : Pos} {Q : Fl → Loc → AH → Prop} (h : WSs C A env body ρ σ Q EF) : WS C A env (.Try body (h₀ :: hs) [] [] pos) ρ σ Q E := by
  refine ⟨?_⟩
  intro ad s hr er
  refine wpAny_Try_except (wpAny_mono (h.run ad s hr er) ?_ fun _ _ x => x.elim)
  rintro f s1 ⟨ad1, σ1, ρ1, fl, n1, e1, r1, h1⟩
  cases fl with
  | next => cases r1; exact wpAny_execs_nil ⟨ad1, σ1, ρ1, .next, n1, e1, rfl, h1⟩
  | brk => cases r1; exact ⟨ad1, σ1, ρ1, .brk, n1, e1, rfl, h1⟩
  | cont => cases r1; exact ⟨ad1, σ1, ρ1, .cont, n1, e1, rfl, h1⟩
  | ret v => obtain ⟨u, rfl, ru⟩ := r1; exact ⟨ad1, σ1, ρ1, .ret v, n1, e1, ⟨u, rfl, ru⟩, h1⟩
theorem WS_try_raise {C : Cx} {l : List (Str × Value)} {K : Frag} {body suite : List Stmt} {b₀ : Stmt} {x : Str} {np hpos pos : Pos} {T : String} {PC : Addr} {hs : List ExceptHandler} {Q : Fl → Loc → AH → Prop} (X0 : K.In C.G) (hx : (x, Value.type T) ∈ l) (hm : exmOne K (.ref PC) (.type T) = some true)
    (hst : A.frames = some [env]) (hfr : env.frame = some env.locals)
    (h : RSs (C.wg l) A env body ρ σ false PC (fun ρ' σ' => ∀ e, WSs (C.wg l) (A.mark (some (.ref e))) env (b₀ :: suite) ρ' σ' Q EF)) :
    WS (C.wg l) A env (.Try body (.ExceptHandler (some (.Name x np)) none (b₀ :: suite) hpos :: hs) [] [] pos) ρ σ Q E := by
  refine ⟨?_⟩
  intro ad s hr er
  have fx : Fx (C.wg l) A env [] ad s.heap := ⟨hst, hfr, (fun _ h => nomatch h), (fun _ h => nomatch h)⟩
  refine wpAny_Try_except (wpAny_mono (h.run ad s [] fx hr er) (fun _ _ z => z.elim) ?_)
  rintro e s1 ⟨ad1, σ1, ρ1, x1, rfl, hX, hc⟩
  rcases hc with ⟨f, er1⟩ | ⟨hf, _⟩
  · obtain ⟨B, a0, g1, g2, g3⟩ := f.fl
    obtain ⟨h1, t1, e1⟩ := f.eq
    obtain ⟨nw, p1, q1⟩ := f.pre
    refine wpAny_sz (wpAny_looks_onW hst hfr g1 fun h₂ w2 u2 z2 => wpAny_sz (wpAny_landsW w2 fun h₃ w3 u3 z3 => ?_))
    dsimp only at z2 z3 u3
    have mkN : ∀ h', B.StaysIn h' → s1.heap.objs.size ≤ h'.objs.size → Nx (C.wg l) (fa env) ad s ad1 σ1 { s1 with heap := h' } := fun h' k z =>
      ⟨⟨h', t1, by rw [e1]⟩, ⟨nw, p1, q1⟩, Nat.le_trans f.size z, fun b o e hb hc => k b o (g3 b o e hb hc fun hm => hc (by
        rw [frs_cons hfr] at hm
        rcases hm with rfl | hm
        · simp [fa]
        · cases hm)), g2.keeps k⟩
    have n3 := mkN h₃ w3.1 (Nat.le_trans z2 z3)
    have er3 : ER (C.wg l) env ρ1 ad1 h₃ := (er1.up u2 z2).up u3 z3
    refine wpAny_handleBy_cons (codeAny_handlers_test ?_) (by intro q; cases q)
    refine glob_same hx n3.hr er3 ?_
    have LT : Looks (model C.prog C.w) h₃ (typeOf (.ref x1)) (.ref PC) := by
      obtain ⟨ob, hob, hcl⟩ := w3.there
      exact hcl ▸ (Looks.ld hob).andThen .now
    refine Looks.here (s := { s1 with heap := h₃ }) (exm_one (X0.keeps n3.hr.keep) LT hm) ?_
    refine codeAny_handlers_suite (wpAny_sz (lands_againW w3 fun h₅ w5 u5 z5 => ?_))
    have n5 := mkN h₅ w5.1 (Nat.le_trans (Nat.le_trans z2 z3) z5)
    have er5 := er3.up u5 z5
    refine wpAny_mono ((hX x1).run ad1 { s1 with heap := h₅ } n5.hr er5) ?_ fun _ _ z => z.elim
    rintro fl s6 ⟨ad6, σ6, ρ6, f6, n6, e6, r6, h6⟩
    exact ⟨ad6, σ6, ρ6, f6, n5.trans n6, e6, r6, h6⟩
  · cases hf
end
end Mine

-- part Aw22
set_option autoImplicit false
set_option linter.unusedVariables false
namespace Mine
open PySem PySem.W PyProof.Rows

section
variable {C : Cx} {A : Around} {env : Env} {ρ : Loc} {σ : AH} {E : EX} {Q : V → AH → Prop}
theorem WC_typeI {i : Int} (h : Q (.k (.type "int")) σ) : WC C A (.type "type") [.int i] σ Q E := by
  refine ⟨?_⟩
  rintro ad s us hr (_ | ⟨⟨t, rfl⟩, _ | _⟩)
  exact call_type_of (typeIs_int _ _ _) (by decide) (PE.here (v := .k (.type "int")) hr rfl h)
theorem is_self_k {T : String} (h : Q (.bool true) σ) : WOp2 C A (compareOp .Is) (.k (.type T)) (.k (.type T)) σ Q E := by
  refine ⟨?_⟩
  rintro ad s x y hr rfl rfl
  exact wpAny_is_self rfl (PE.here (v := .bool true) hr rfl h)
theorem is_other_k {T U : String} (hne : T ≠ U) (h : Q (.bool false) σ) : WOp2 C A (compareOp .Is) (.k (.type T)) (.k (.type U)) σ Q E := by
  refine ⟨?_⟩
  rintro ad s x y hr rfl rfl
  exact wpAny_is_other rfl (fun e => hne (by injection e)) (PE.here (v := .bool false) hr rfl h)
theorem isNot_self_k {T : String} (h : Q (.bool false) σ) : WOp2 C A (compareOp .IsNot) (.k (.type T)) (.k (.type T)) σ Q E := by
  refine ⟨?_⟩
  rintro ad s x y hr rfl rfl
  exact wpAny_isNot_self rfl (PE.here (v := .bool false) hr rfl h)
theorem add_ss {x y : Str} (hz : x.length + y.length ≤ sizeLine) (h : Q (.str (x ++ y)) σ) : WOp2 C A (binaryOp .Add) (.str x) (.str y) σ Q E := by
  refine ⟨?_⟩
  rintro ad s a b hr ⟨t, rfl⟩ ⟨u, rfl⟩
  exact PyProof.Rows.add_str (fun t' tk => PE.tok (v := .str (x ++ y)) _ hr ⟨_, rfl⟩ h) hz
theorem WC_strI {i : Int} (hi : i.natAbs.log2 < 1920) (h : Q (.str (Str.ofString (toString i))) σ) : WC C A (.type "str") [.int i] σ Q E := by
  refine ⟨?_⟩
  rintro ad s us hr (_ | ⟨⟨t, rfl⟩, _ | _⟩)
  exact PySem.P.str_of_int hi (PE.tok (v := .str _) _ hr ⟨_, rfl⟩ h)
theorem log_small {i : Int} (h1 : 0 ≤ i) (h2 : i < 1000000) : i.natAbs.log2 < 1920 := by
  by_cases h0 : i.natAbs = 0
  · rw [h0]; decide
  · have : i.natAbs.log2 < 20 := (Nat.log2_lt h0).mpr (by omega)
    omega
end
end Mine

-- part Aw23
set_option autoImplicit false
set_option linter.unusedVariables false
namespace Mine
open PySem PySem.W PyProof.Rows

theorem RVs.take {ad : List Addr} {xs : List V} {vs : List Value} (h : RVs ad xs vs) : ∀ n : Nat, RVs ad (xs.take n) (vs.take n) := by
  induction h with
  | nil => intro n; simp; exact .nil
  | cons r _ ih =>
    intro n
    cases n with
    | zero => exact .nil
    | succ n => exact .cons r (ih n)
theorem RVs.drop {ad : List Addr} {xs : List V} {vs : List Value} (h : RVs ad xs vs) : ∀ n : Nat, RVs ad (xs.drop n) (vs.drop n) := by
  induction h with
  | nil => intro n; simp; exact .nil
  | cons r h' ih =>
    intro n
    cases n with
    | zero => exact .cons r h'
    | succ n => exact ih n
section
variable {prog : Program} {w : World} {A : Around} {E : Value → Shared → Prop} {s : Shared}
theorem setItem_slice {l sl m : Addr} {items new : Array Value} {n : Nat} {vl vu : Value} {lo hi : Option Int} {Q : Unit → Shared → Prop} (ho : s.heap.get? l = some ⟨.type "list", none, .seq items n, #[]⟩) (hm : s.heap.IsList m new) (hne : l ≠ m)
    (hs : s.heap.IsSliceOf sl vl vu .none) (pl : IsPart vl lo) (pu : IsPart vu hi) (hsz : items.size + new.size ≤ sizeLine)
    (hQ : ∀ h' n', h'.get? l = some ⟨.type "list", none, .seq (items.extract 0 (sliceBounds lo hi none items.size).1.toNat ++ new ++ items.extract (max (sliceBounds lo hi none items.size).1 (sliceBounds lo hi none items.size).2.1).toNat items.size) n', #[]⟩ → Heap.SameBut l s.heap h' → Q () { s with heap := h' }) :
    wpAny (model prog w) A (setItem (.ref l) (.ref sl) (.ref m)) Q E s := by
  have hl : s.heap.IsList l items := ⟨_, ho, rfl, n, rfl⟩
  have hd : (⟨.type "list", none, .seq items n, #[]⟩ : Obj).data = .seq items n := rfl
  obtain ⟨om, hom, hmc, mn, hmd⟩ := id hm
  obtain ⟨os, hos, hcs, hds⟩ := id hs
  have hTs : s.TypeIs (.ref sl) "slice" := ⟨os, hos, hcs⟩
  unfold setItem
  try with_reducible refine wpAny_holding ?_
  first | refine wpAny_bind (wpAny_pure ?_) | skip
  refine wpAny_bind (wpAny_sequenceKey hl.typeIs (by decide) ?_)
  refine wpAny_bind (wpAny_callSpecial?_slot (name := Str.ofString "__setitem__") hl.typeIs PySem.slot_list_setitem
    (wpAny_call_entry PySem.slot_list_setitem hl.typeIs PySem.entry_list_setitem ?_ (PySem.args_list_setitem _ _ _)))
  show wpAny _ _ (Builtin.List.listSubscript? (.ref sl) >>= _) _ _ s
  refine wpAny_bind ?_
  unfold Builtin.List.listSubscript?
  refine wpAny_bind (wpAny_specialOf hTs slice_no_index ?_)
  simp only [Option.isNone_none, if_true]
  refine wpAny_pure ?_
  show wpAny _ _ (typeOf (.ref sl) >>= _) _ _ s
  refine wpAny_bind (wpAny_typeOf hTs ?_)
  rw [if_neg (by decide)]
  rw [listSliceParts_eq]
  have hstep : ¬ ((rawPart none == rawInt 0) = true) := Bool.false_ne_true
  refine wpAny_bind (wpAny_bind (wpAny_field hos hds (x := .none) rfl (wpAny_bind (wpAny_listPart .none ?_))))
  rw [if_neg hstep]
  refine wpAny_bind (wpAny_field hos hds (x := vl) rfl (wpAny_bind (wpAny_listPart pl ?_)))
  refine wpAny_bind (wpAny_field hos hds (x := vu) rfl (wpAny_bind (wpAny_listPart pu (wpAny_pure ?_))))
  dsimp only
  have e1 : Builtin.List.listSameRef (.ref l) (.ref m) = false := by
    show (l == m) = false
    exact beq_eq_false_iff_ne.mpr hne
  rw [e1, if_neg Bool.false_ne_true]
  unfold Builtin.List.listAllItems
  refine wpAny_bind (wpAny_bind (wpAny_typeOf hm.typeIs ?_))
  rw [if_pos (by decide)]
  unfold Builtin.List.listItems
  refine wpAny_bind (wpAny_seqItems hom hmd (wpAny_pure ?_))
  refine wpAny_bind (wpAny_bind (wpAny_seqItems ho hd (wpAny_pure ?_)))
  refine wpAny_bind (wpAny_of_eq (sliceIndices_raw lo hi none items.size (by simp)) ?_)
  have e2 : (sliceBounds lo hi none items.size).2.2 = 1 := rfl
  generalize sliceBounds lo hi none items.size = bd at *
  obtain ⟨st, sp, k⟩ := bd
  dsimp only at e2 hQ ⊢
  subst e2
  rw [if_pos (by decide)]
  refine wpAny_bind (wpAny_rule ?_)
  rw [if_neg (by unfold Builtin.List.listTooLong; simp; omega)]
  obtain ⟨n', hd'⟩ : ∃ n', Obj.mapSeq (fun xs => xs.extract 0 st.toNat ++ new ++ xs.extract (max st sp).toNat xs.size) ⟨.type "list", none, .seq items n, #[]⟩ = ⟨.type "list", none, .seq (items.extract 0 st.toNat ++ new ++ items.extract (max st sp).toNat items.size) n', #[]⟩ := ⟨_, rfl⟩
  have hfin := Heap.get?_update_self (Obj.mapSeq (fun xs => xs.extract 0 st.toNat ++ new ++ xs.extract (max st sp).toNat xs.size)) ho (by rw [hd']; rfl)
  rw [hd'] at hfin
  refine wpAny_bind (wpAny_updateSeq ho hd ?_ (by omega) ?_)
  · refine wpAny_bind (wpAny_letGo ?_)
    exact wpAny_pure ⟨.none, rfl, wpAny_pure (hQ _ n' hfin (Heap.SameBut.update ..))⟩
  · simp [Array.size_extract]
    omega
end
section
variable {C : Cx} {A : Around} {env : Env} {ρ : Loc} {σ : AH} {E : EX} {Q : V → AH → Prop}
theorem swaps_attr {e o : Expr} {a : Str} {p : Pos} {l : Nat} {env : Env} : swapsWith e (some (.Attribute o a p)) l env = pure false := by
  cases e <;> rfl
theorem swaps_sub {e o i : Expr} {p : Pos} {l : Nat} {env : Env} : swapsWith e (some (.Subscript o i p)) l env = pure false := by
  cases e <;> rfl
theorem WS_setattrC {o e : Expr} {attr : Str} {p pos : Pos} {Q : Fl → Loc → AH → Prop} (h : WE C A env e ρ σ (fun x σ1 => WE C A env o ρ σ1 (fun v σ2 => WSt C A v attr x σ2 (fun σ3 => Q .next ρ σ3) E) E) E) : WS C A env (.Assign [.Attribute o attr p] e pos) ρ σ Q E := by
  refine ⟨?_⟩
  intro ad s hr er
  refine plainObj_wpAny_Assign_Attribute (wpAny_mono (h.run ad s hr er) ?_ fun _ _ x => x) swaps_attr
  rintro x s1 ⟨ad1, σ1, vx, n1, r1, h1⟩
  refine wpAny_mono (h1.run ad1 s1 n1.hr (er.next n1)) ?_ fun _ _ x => x
  rintro ov s2 ⟨ad2, σ2, vo, n2, r2, h2⟩
  refine wpAny_mono (h2.run ad2 s2 ov x n2.hr r2 (n2.rv r1)) ?_ fun _ _ x => x
  rintro _ s3 ⟨ad3, σ3, n3, h3⟩
  exact PS.ofE er (n1.trans (n2.trans n3)) (fl := .next) rfl h3
theorem WS_setslice {o e : Expr} {lo hi : Option Expr} {sp p pos : Pos} {Q : Fl → Loc → AH → Prop} (h : WE C A env e ρ σ (fun x σ1 => WE C A env o ρ σ1 (fun v σ2 => WO C A env lo ρ σ2 (fun l σ3 => WO C A env hi ρ σ3 (fun u σ4 =>
      ∃ j xs ys a b, v = .ref j ∧ x ≠ .ref j ∧ σ4[j]? = some (.list xs) ∧ ObjAt C σ4 x (.list ys) ∧ l = some a ∧ u = some b ∧ 0 ≤ a ∧ a ≤ b ∧ b ≤ xs.length ∧ xs.length + ys.length ≤ sizeLine ∧ Q .next ρ (σ4.set j (.list (xs.take a.toNat ++ ys ++ xs.drop b.toNat)))) E) E) E) E)
    (hs : isCompE e = false := by rfl) : WS C A env (.Assign [.Subscript o (.Slice lo hi none sp) p] e pos) ρ σ Q E := by
  refine ⟨?_⟩
  intro ad s hr er
  refine wpAny_Assign_Subscript (wpAny_mono (h.run ad s hr er) ?_ fun _ _ x => x) swaps_sub
  rintro x s1 ⟨ad1, σ1, vx, n1, r1, h1⟩
  have er1 := er.next n1
  refine wpAny_mono (h1.run ad1 s1 n1.hr er1) ?_ fun _ _ x => x
  rintro ov s2 ⟨ad2, σ2, vo, n2, r2, h2⟩
  have er2 := er1.next n2
  refine wpAny_Slice (wpAny_mono (h2.run ad2 s2 n2.hr er2) ?_ fun _ _ x => x)
  rintro lv s3 ⟨ad3, σ3, kl, n3, p3, h3⟩
  refine wpAny_mono (h3.run ad3 s3 n3.hr (er2.next n3)) ?_ fun _ _ x => x
  rintro uv s4 ⟨ad4, σ4, ku, n4, p4, j, xs, ys, a, b, rfl, hxj, hj, hx, rfl, rfl, h0, hab, hb, hz, hq⟩
  rw [evalPart_none]
  refine wpAny_pure ?_
  have np := Nx.push (C := C) (s := s4) { cls := .type "slice", data := .fields #[lv, uv, .none] } n4.hr
  have n24 := (n3.trans n4).trans np
  obtain ⟨aj, haj, rfl⟩ := n24.rv r2
  obtain ⟨m, new, rfl, hm, rvn⟩ := hx.list np.hr ((n2.trans n24).rv r1)
  obtain ⟨ob, ho, vs, k, rfl, rvs⟩ := np.hr.obj j _ aj hj haj
  have hvs : vs.size = xs.length := by have := rvs.length; simp at this; omega
  have hns : new.size = ys.length := by have := rvn.length; simp at this; omega
  have hne : aj ≠ m := by
    rintro rfl
    cases vx with
    | ref i =>
      obtain ⟨a', h1', h2'⟩ := (n2.trans n24).rv r1
      cases h2'
      exact hxj (by rw [(List.getElem?_inj (List.getElem?_eq_some_iff.mp haj).1 np.hr.nd).mp (haj.trans h1'.symm)])
    | k v =>
      have e := (n2.trans n24).rv r1
      cases e
      obtain ⟨vs', ⟨o', ho', _⟩, _⟩ := np.hr.ok.gob _ _ hx
      rw [np.hr.off _ (List.mem_of_getElem? haj)] at ho'
      cases ho'
    | _ => exact hx.elim
  refine setItem_slice ho hm hne (Heap.IsSliceOf.new ..) p3 p4 (by omega) fun h' n' hg hs' => ?_
  have hb1 : (sliceBounds (some a) (some b) none vs.size) = (a, b, 1) := by
    rw [hvs]
    simp [sliceBounds]
    omega
  rw [hb1] at hg
  refine PS.ofE er (n1.trans (n2.trans (n24.trans (Nx.set (tk := s4.toks) (o := .list (xs.take a.toNat ++ ys ++ xs.drop b.toNat)) np.hr haj hs' hg ⟨_, n', rfl, ?_⟩)))) (fl := .next) rfl hq
  rw [Array.toList_append, Array.toList_append, Array.toList_extract, Array.toList_extract, show max a b = b by omega, hvs]
  have e5 : vs.toList.extract 0 a.toNat = vs.toList.take a.toNat := by simp [List.extract]
  have e6 : vs.toList.extract b.toNat xs.length = vs.toList.drop b.toNat := by
    show (vs.toList.drop b.toNat).take (xs.length - b.toNat) = _
    refine List.take_of_length_le ?_
    rw [List.length_drop, Array.length_toList]
    omega
  rw [e5, e6]
  exact ((rvs.take _).append rvn).append (rvs.drop _)
end
end Mine

-- part Aw24
set_option autoImplicit false
set_option linter.unusedVariables false
namespace Mine
open PySem PySem.W PyProof.Rows

theorem get_mid {σ J : AH} {o : O} {n : Nat} (e : n = σ.length) : (σ ++ [o] ++ J)[n]? = some o := by
  subst e; rw [List.append_assoc, List.getElem?_append_right (Nat.le_refl _)]; simp
theorem set_mid {σ J : AH} {o o' : O} {n : Nat} (e : n = σ.length) : (σ ++ [o] ++ J).set n o' = σ ++ [o'] ++ J := by
  subst e; rw [List.append_assoc, List.set_append_right _ _ (Nat.le_refl _)]; simp
theorem exNat {n : Nat} {P : Nat → Prop} (h : P n) : ∃ m : Nat, [V.int n] = [V.int m] ∧ P m := ⟨n, rfl, h⟩
theorem rngSize0 (n : Nat) : (Builtin.Range.rangeSize 0 n 1).toNat = n := by
  unfold Builtin.Range.rangeSize
  simp
  split <;> omega

section
variable {C : Cx} {A : Around} {env : Env} {ρ : Loc} {σ : AH} {E : EX} {Q : V → AH → Prop}
theorem WL.conseq {es : List Expr} {Q Q' : List V → AH → Prop} (h : WL C A env es ρ σ Q E) (hq : ∀ v σ1, Q v σ1 → Q' v σ1) : WL C A env es ρ σ Q' E := by
  refine ⟨?_⟩
  intro ad s pos hr er
  refine wpAny_mono (h.run ad s pos hr er) ?_ fun _ _ x => x
  rintro u s1 ⟨ad1, σ1, v, n1, r1, h1⟩
  exact ⟨ad1, σ1, v, n1, r1, hq _ _ h1⟩
theorem WItr_rng {C : Cx} {l : List (Str × Value)} {id : Str} {p pos : Pos} {args : List Expr} {K : Nat → (Nat → V) → (AH → Prop) → AH → Prop} (hA : A.handled = none) (hf : (id, Value.type "range") ∈ l)
    (h : WL (C.wg l) A env args ρ σ (fun vs σ1 => ∃ n : Nat, vs = [.int n] ∧ n ≤ 2 ^ 60 ∧ K n (fun i => .int (i : Nat)) (fun _ => True) σ1) E)
    (hns : noStar args = true := by rfl) : WItr (C.wg l) A env (.Call (.Name id p) args [] pos) ρ σ K E := by
  refine WItr_range hA hf (h.conseq ?_) hns
  rintro vs σ1 ⟨n, rfl, hn, hk⟩
  refine ⟨0, n, 1, rfl, by decide, by decide, by omega, by decide, ?_⟩
  rw [rngSize0]
  have e : (fun i : Nat => V.int (0 + (i : Int) * 1)) = fun i : Nat => V.int i := by funext i; congr 1; omega
  rw [e]; exact hk
theorem listSub_bool {prog : Program} {w : World} {s : Shared} {b : Bool} {Q : Option Int → Shared → Prop} (h : Q (some (if b = true then 1 else 0)) s) :
    wpAny (model prog w) A (Builtin.List.listSubscript? (.bool b)) Q E s := by
  unfold Builtin.List.listSubscript?
  refine wpAny_bind (wpAny_specialOf (T := "bool") (PySem.typeIs_bool s b) PySem.F.slot_bool_index.lookup ?_)
  show wpAny _ A (asIndex (.bool b) >>= _) Q E s
  refine wpAny_bind (wpAny_of_eq (a := if b = true then 1 else 0) (by cases b <;> rfl) ?_)
  cases b <;> exact wpAny_pure h
theorem getItem_bool {prog : Program} {w : World} {s : Shared} {l : Addr} {items : Array Value} {b : Bool} {x : Value} {Q : Value → Shared → Prop} (hl : s.heap.IsList l items)
    (hx : items[(if b = true then 1 else 0 : Nat)]? = some x) (h : Q x s) : wpAny (model prog w) A (getItem (.ref l) (.bool b)) Q E s := by
  obtain ⟨o, ho, hc, ne, hd⟩ := id hl
  unfold getItem
  try with_reducible refine wpAny_holding ?_
  first | refine wpAny_bind (wpAny_pure ?_) | skip
  refine wpAny_bind (wpAny_sequenceKey hl.typeIs (by decide) ?_)
  refine wpAny_bind (wpAny_callSpecial?_slot (name := Str.ofString "__getitem__") hl.typeIs slot_list_getitem
    (wpAny_call_entry slot_list_getitem hl.typeIs entry_list_getitem ?_ (args_list_getitem _ _)))
  show wpAny _ _ (Builtin.List.listSubscript? (.bool b) >>= _) _ _ s
  refine wpAny_bind (listSub_bool ?_)
  generalize hj : (if b = true then 1 else 0 : Nat) = j at hx
  have e : (if b = true then (1 : Int) else 0) = Int.ofNat j := by subst hj; cases b <;> rfl
  rw [e]
  show wpAny _ _ ((seqItemAt l j >>= fun r => pure (r.map (j, ·))) >>= _) _ _ s
  refine wpAny_bind (wpAny_bind (wpAny_seqItemAt ho hd (wpAny_pure ?_)))
  rw [hx]
  first
    | exact wpAny_bind (wpAny_pure (wpAny_pure ⟨x, rfl, wpAny_pure h⟩))
    | exact wpAny_pure ⟨x, rfl, wpAny_pure h⟩
def ixOf : V → Option Nat
  | .int i => if 0 ≤ i ∧ i < 2 ^ 63 then some i.toNat else none
  | .bool b => some (if b = true then 1 else 0)
  | _ => none
theorem ixI {k : Int} {x : V} {vs : List V} {P : V → Prop} (h0 : 0 ≤ k) (h1 : k < 2 ^ 63) (hx : vs[k.toNat]? = some x) (h : P x) : ∃ j y, ixOf (.int k) = some j ∧ vs[j]? = some y ∧ P y :=
  ⟨k.toNat, x, (show (if 0 ≤ k ∧ k < 2 ^ 63 then some k.toNat else none) = some k.toNat from if_pos ⟨h0, h1⟩), hx, h⟩
theorem ixB {c : Bool} {x : V} {vs : List V} {P : V → Prop} (hx : vs[(if c = true then 1 else 0 : Nat)]? = some x) (h : P x) : ∃ j y, ixOf (.bool c) = some j ∧ vs[j]? = some y ∧ P y := ⟨_, x, rfl, hx, h⟩
/-- an item of a list written out, by a number or a truth value -/
theorem WE_menuX {es : List Expr} {slice : Expr} {lp pos : Pos} (h : WL C A env es ρ σ (fun vs σ1 => vs.length ≤ sizeLine ∧ WE C A env slice ρ σ1 (fun b σ2 => ∃ k x, ixOf b = some k ∧ vs[k]? = some x ∧ Q x σ2) E) E)
    (hs : isSliceE slice = false := by rfl) : WE C A env (.Subscript (.List es lp) slice pos) ρ σ Q E := by
  refine ⟨?_⟩
  intro ad s hr er
  refine Subscript_ (List_ (wpAny_mono (h.run ad s lp hr er) ?_ fun _ _ x => x))
  rintro us s1 ⟨ad1, σ1, vs, n1, r1, hz, h1⟩
  refine wpAny_newObj_type ?_ (by show us.toArray.size ≤ sizeLine; rw [List.size_toArray, ← r1.length]; exact hz)
  have n2 : Nx C [] ad1 s1 ad1 σ1 { s1 with heap := s1.heap.push { cls := .type "list", data := .seq us.toArray } } := Nx.push _ n1.hr
  have n12 := n1.trans n2
  refine wpAny_mono (h1.run ad1 _ n2.hr (er.next n12)) ?_ fun _ _ x => x
  rintro b s3 ⟨ad3, σ3, vb, n3, r3, k, x, hk, hx, hq⟩
  have hl : s3.heap.IsList s1.heap.objs.size us.toArray := by
    refine ⟨_, n3.same s1.heap.objs.size _ (Heap.get?_push_size _ rfl) ?_ (by simp), rfl, _, rfl⟩
    exact (n1.hr.fresh (Nat.le_refl _)).2
  obtain ⟨u, hu, ru⟩ := r1.get hx
  have n13 := n12.trans n3
  cases vb with
  | int i =>
    obtain ⟨t, rfl⟩ := r3
    have hk : (if 0 ≤ i ∧ i < 2 ^ 63 then some i.toNat else none) = some k := hk
    by_cases hi : 0 ≤ i ∧ i < 2 ^ 63
    · rw [if_pos hi] at hk
      cases hk
      exact tail_any hl.typeIs slot_list_getitem.lookup (wpAny_getItem_list hl hi.1 hi.2 (by simpa using hu) ⟨ad3, σ3, x, n13, n3.rv (n2.rv ru), hq⟩) (slice_not hs _ _)
    · rw [if_neg hi] at hk
      cases hk
  | bool c =>
    cases r3
    cases hk
    exact tail_any hl.typeIs slot_list_getitem.lookup (getItem_bool hl (by simpa using hu) ⟨ad3, σ3, x, n13, n3.rv (n2.rv ru), hq⟩) (slice_not hs _ _)
  | _ => cases hk
theorem Rd.list_inv {v : V} {ds : List PyData} (h : Rd C σ v (.list ds)) : ∃ xs, ObjAt C σ v (.list xs) ∧ RdAll C σ xs ds := by
  cases h with
  | list o r => exact ⟨_, o, r⟩
theorem RdAll.range_inv {n : Nat} {g : Nat → PyData} : ∀ {xs : List V}, RdAll C σ xs ((List.range n).map g) → ∃ f : Nat → V, xs = (List.range n).map f ∧ ∀ k, k < n → Rd C σ (f k) (g k) := by
  have gen : ∀ (ds : List PyData) (xs : List V), RdAll C σ xs ds → xs.length = ds.length ∧ ∀ k (h1 : k < ds.length) (h2 : k < xs.length), Rd C σ xs[k] ds[k] := by
    intro ds
    induction ds with
    | nil => intro xs h; cases h; exact ⟨rfl, fun k h => absurd h (Nat.not_lt_zero _)⟩
    | cons d r ih =>
      intro xs h
      cases h with
      | @cons v d vs ds a b =>
        obtain ⟨i1, i2⟩ := ih vs b
        refine ⟨by simp [i1], fun k h1 h2 => ?_⟩
        cases k with
        | zero => exact a
        | succ k => exact i2 k (by simpa using h1) (by simpa using h2)
  intro xs h
  obtain ⟨h1, h2⟩ := gen _ _ h
  have h1' : xs.length = n := by simpa using h1
  refine ⟨fun k => xs.getD k .none, ?_, fun k hk => ?_⟩
  · refine List.ext_getElem (by simp [h1']) fun i a b => ?_
    simp [a]
  · have := h2 k (by simpa using hk) (by omega)
    simp at this
    simpa [List.getD, show k < xs.length by omega] using this
theorem RdAll.range {n : Nat} {f : Nat → V} {g : Nat → PyData} (h : ∀ k, k < n → Rd C σ (f k) (g k)) : RdAll C σ ((List.range n).map f) ((List.range n).map g) := by
  have gen : ∀ l : List Nat, (∀ k ∈ l, k < n) → RdAll C σ (l.map f) (l.map g) := by
    intro l
    induction l with
    | nil => intro _; exact .nil
    | cons x r ih => intro hl; exact .cons (h x (hl x (.head _))) (ih fun k hk => hl k (.tail _ hk))
  exact gen _ fun k hk => List.mem_range.mp hk
theorem Rd.ints_inv {v : V} {r : List Int} (h : Rd C σ v (.list (r.map PyData.int))) : ObjAt C σ v (.list (r.map V.int)) := by
  obtain ⟨xs, o, ra⟩ := h.list_inv
  have : ∀ (r : List Int) (xs : List V), RdAll C σ xs (r.map PyData.int) → xs = r.map V.int := by
    intro r
    induction r with
    | nil => intro xs h; cases h; rfl
    | cons i r ih =>
      intro xs h
      rw [List.map_cons] at h
      cases h with
      | cons a b => cases a; rw [ih _ b]; rfl
  rw [this r xs ra] at o
  exact o
end
end Mine

-- part Aw25
set_option autoImplicit false
set_option linter.unusedVariables false
namespace Mine
open PySem PySem.W PyProof.Rows

theorem lenS {n : Nat} : ∀ {xs : List Value}, xs.length = n + 1 → ∃ x r, xs = x :: r ∧ r.length = n
  | x :: r, h => ⟨x, r, rfl, Nat.succ.inj h⟩
theorem len0 {xs : List Value} (h : xs.length = 0) : xs = [] := List.eq_nil_of_length_eq_zero h
theorem len1 {xs : List Value} (h : xs.length = 1) : ∃ x0, xs = [x0] := let ⟨x, r, e, h2⟩ := lenS h; ⟨x, by rw [e, len0 h2]⟩
theorem len2 {xs : List Value} (h : xs.length = 2) : ∃ x0 x1, xs = [x0, x1] := let ⟨x, r, e, h2⟩ := lenS h; let ⟨y0, e2⟩ := len1 h2; ⟨x, y0, by rw [e, e2]⟩
theorem len3 {xs : List Value} (h : xs.length = 3) : ∃ x0 x1 x2, xs = [x0, x1, x2] := let ⟨x, r, e, h2⟩ := lenS h; let ⟨y0, y1, e2⟩ := len2 h2; ⟨x, y0, y1, by rw [e, e2]⟩
theorem len4 {xs : List Value} (h : xs.length = 4) : ∃ x0 x1 x2 x3, xs = [x0, x1, x2, x3] := let ⟨x, r, e, h2⟩ := lenS h; let ⟨y0, y1, y2, e2⟩ := len3 h2; ⟨x, y0, y1, y2, by rw [e, e2]⟩
theorem len5 {xs : List Value} (h : xs.length = 5) : ∃ x0 x1 x2 x3 x4, xs = [x0, x1, x2, x3, x4] := let ⟨x, r, e, h2⟩ := lenS h; let ⟨y0, y1, y2, y3, e2⟩ := len4 h2; ⟨x, y0, y1, y2, y3, by rw [e, e2]⟩
theorem fm_range {α : Type} (xs : List α) (s : Nat) : ∀ c, s + c ≤ xs.length → ((List.range c).map (fun k => s + k)).filterMap (xs[·]?) = (xs.drop s).take c
  | 0, _ => by simp
  | c + 1, h => by
    have ih := fm_range xs s c (by omega)
    have hl : s + c < xs.length := by omega
    rw [List.range_succ, List.map_append, List.filterMap_append, ih, List.take_add_one]
    simp [List.getElem?_drop, hl]
theorem sliceRange_nat (a b : Nat) (h : a ≤ b) : sliceRange a b 1 = (List.range (b - a)).map (fun k => a + k) := by
  obtain ⟨c, rfl⟩ : ∃ c, b = a + c := ⟨b - a, by omega⟩
  unfold sliceRange
  have e : (if (1 : Int) > 0 then (if (a : Int) < ((a + c : Nat) : Int) then (((a + c : Nat) : Int) - a + 1 - 1) / 1 else 0) else (if (a : Int) > ((a + c : Nat) : Int) then ((a : Int) - ((a + c : Nat) : Int) - 1 - 1) / (-1) else 0)).toNat = c := by
    rw [if_pos (by decide), Int.ediv_one]
    split <;> omega
  dsimp only
  rw [e, Nat.add_sub_cancel_left]
  refine List.map_congr_left fun k _ => ?_
  rw [Int.one_mul]; rfl
theorem pickV_nat {α : Type} (xs : List α) {a b : Nat} (hab : a ≤ b) (hb : b ≤ xs.length) : pickV xs (some (a : Int)) (some (b : Int)) none = (xs.drop a).take (b - a) := by
  have cl : ∀ n m : Nat, n ≤ m → max (0 : Int) (min (if (n : Int) < 0 then (n : Int) + m else n) m) = n := fun n m h => by rw [if_neg (by omega)]; omega
  have e : sliceBounds (some (a : Int)) (some (b : Int)) none xs.length = ((a : Int), (b : Int), (1 : Int)) := by
    show (max (0 : Int) (min (if (a : Int) < 0 then (a : Int) + xs.length else a) xs.length), max (0 : Int) (min (if (b : Int) < 0 then (b : Int) + xs.length else b) xs.length), (1 : Int)) = _
    rw [cl a _ (Nat.le_trans hab hb), cl b _ hb]
  unfold pickV
  rw [e]
  dsimp only
  rw [sliceRange_nat a b hab, fm_range _ _ _ (by omega)]
section
variable {C : Cx} {A : Around} {env : Env} {ρ : Loc} {σ : AH} {E : EX} {Q : V → AH → Prop}
mutual
theorem Rd.turn {C C' : Cx} {σ σ' : AH} (ho : ∀ v o, ObjAt C σ v o → ObjAt C' σ' v o) : ∀ {v : V} {d : PyData}, Rd C σ v d → Rd C' σ' v d
  | _, _, .none => .none
  | _, _, .bool => .bool
  | _, _, .int => .int
  | _, _, .str => .str
  | _, _, .list o r => .list (ho _ _ o) (RdAll.turn ho r)
  | _, _, .tuple o r => .tuple (ho _ _ o) (RdAll.turn ho r)
theorem RdAll.turn {C C' : Cx} {σ σ' : AH} (ho : ∀ v o, ObjAt C σ v o → ObjAt C' σ' v o) : ∀ {v : List V} {d : List PyData}, RdAll C σ v d → RdAll C' σ' v d
  | _, _, .nil => .nil
  | _, _, .cons r rs => .cons (Rd.turn ho r) (RdAll.turn ho rs)
end
theorem RdAll.up {J : AH} {v : List V} {d : List PyData} (h : RdAll C σ v d) : RdAll C (σ ++ J) v d := h.turn fun _ _ o => o.up
theorem Rd.wg {l : List (Str × Value)} {v : V} {d : PyData} (h : Rd C σ v d) : Rd (C.wg l) σ v d := h.turn fun v o q => by cases v <;> exact q
theorem RdAll.snoc {vs : List V} {ds : List PyData} {v : V} {d : PyData} (h : RdAll C σ vs ds) (hv : Rd C σ v d) : RdAll C σ (vs ++ [v]) (ds ++ [d]) := by
  induction vs generalizing ds with
  | nil => cases h; exact .cons hv .nil
  | cons a r ih => cases h with
    | cons x y => exact .cons x (ih y)
/-- a comprehension whose elements are data; the heap but grows -/
theorem CompGo_data {l2 : List (Str × Value)} {sc : Scope} {x : Str} {elt : Expr} {capt : Loc} {K : List V → AH → Prop} {n : Nat} {P : Nat → V} {Cd : AH → Prop} {σ1 : AH} (f : Nat → PyData) (hz : n ≤ sizeLine) (hcd : ∀ J, Cd (σ1 ++ J))
    (h : ∀ i pv J, i < n → P i = pv → ∀ cenv, Kn cenv (relab sc.names) → WE (C.wg l2) A cenv elt ((x, some pv) :: capt) (σ1 ++ J) (fun v σ3 => ∃ J', σ3 = σ1 ++ J ++ J' ∧ Rd C σ3 v (f i)) (fun _ _ => False))
    (hk : ∀ J acc, RdAll C (σ1 ++ J) acc ((List.range n).map f) → K acc (σ1 ++ J)) : CompGo C A l2 sc x [] elt capt K n P Cd σ1 := by
  refine ⟨hz, fun i acc σ' => ∃ J, σ' = σ1 ++ J ∧ RdAll C σ' acc ((List.range i).map f), ⟨[], by simp, .nil⟩, ?_, ?_⟩
  · rintro i acc σ' pv hi hp ⟨J, rfl, hr⟩
    refine ⟨hcd J, fun cenv hc => WIf_nil ?_⟩
    rw [if_pos rfl]
    refine (h i pv J hi hp cenv hc).conseq ?_
    rintro v σ3 ⟨J', rfl, rv⟩
    refine ⟨J ++ J', by simp, ?_⟩
    rw [List.range_succ, List.map_append]
    exact hr.up.snoc rv
  · rintro acc σ' ⟨J, rfl, hr⟩
    exact ⟨hcd J, hk J acc hr⟩
end
end Mine

-- part Aw26
set_option autoImplicit false
set_option linter.unusedVariables false
namespace Mine
open PySem PySem.W PyProof.Rows

/-- the comprehension's names are as wished: several targets -/
def compOkG (onames : List (Str × NameKind)) (sc : Scope) (xs : List Str) (capt gl : List Str) : Bool :=
  sc.names.all (fun p => p.2 != .cell && (p.2 != .local || sc.names.lookup p.1 == some .local) && (p.2 != .free || (capt.contains p.1 && onames.lookup p.1 == some .cell)))
  && xs.all (fun x => sc.names.lookup x == some .local && nmOk x && !capt.contains x)
  && capt.all (fun y => nmOk y && sc.names.lookup y == some .free)
  && gl.all (fun y => nmOk y && sc.names.lookup y == some .globalImplicit)
  && decide xs.Nodup
structure CompOkG (onames : List (Str × NameKind)) (sc : Scope) (xs : List Str) (capt gl : List Str) : Prop where
  nocell : ∀ y ∈ sc.names, y.2 ≠ .cell
  locs : ∀ y ∈ sc.names, y.2 = .local → sc.names.lookup y.1 = some .local
  free : ∀ n, (n, NameKind.free) ∈ sc.names → n ∈ capt ∧ onames.lookup n = some .cell
  xl : ∀ x ∈ xs, sc.names.lookup x = some .local
  xn : ∀ x ∈ xs, nmOk x = true
  xc : ∀ x ∈ xs, x ∉ capt
  xd : xs.Nodup
  cap : ∀ y ∈ capt, nmOk y = true ∧ sc.names.lookup y = some .free
  glo : ∀ y ∈ gl, nmOk y = true ∧ sc.names.lookup y = some .globalImplicit
theorem compOkG.ok {onames : List (Str × NameKind)} {sc : Scope} {xs : List Str} {capt gl : List Str} (h : compOkG onames sc xs capt gl = true) : CompOkG onames sc xs capt gl := by
  unfold compOkG at h
  simp only [Bool.and_eq_true, List.all_eq_true, Bool.or_eq_true, bne_iff_ne, beq_iff_eq, Bool.not_eq_true', List.contains_eq_mem, decide_eq_true_eq, decide_eq_false_iff_not] at h
  obtain ⟨⟨⟨⟨h1, h2⟩, h5⟩, h6⟩, h7⟩ := h
  refine ⟨fun y hy => (h1 y hy).1.1, fun y hy e => ?_, fun n hn => ?_, fun x hx => (h2 x hx).1.1, fun x hx => (h2 x hx).1.2, fun x hx => (h2 x hx).2, h7, h5, h6⟩
  · exact ((h1 y hy).1.2).resolve_left fun h => h e
  · exact ((h1 _ hn).2).resolve_left fun h => h rfl
/-- a value stored to a comprehension's target binds the names xs to vs -/
structure TgtOk (C : Cx) (A : Around) (target : Expr) (xs : List Str) (pv : V) (vs : List V) (σ : AH) : Prop where
  len : xs.length = vs.length
  run : ∀ ad (s : Shared) u (cenv : Env) m (Q : Unit → Shared → Prop) (E : EX), HR C ad σ s.heap → RV ad pv u → (∀ x ∈ xs, cenv.kindOf x = some .local) → cenv.scope.kind = .function → s.heap.Ns cenv.locals m → cenv.locals ∉ ad → C.G.get? cenv.locals = none →
    (∀ h' tk m2 us, RVs ad vs us → h'.Ns cenv.locals m2 → (∀ p ∈ xs.zip us, m2 p.1 = some p.2) → (∀ b o, b ≠ cenv.locals → s.heap.get? b = some o → h'.get? b = some o) → s.heap.objs.size ≤ h'.objs.size → Q () { s with heap := h', toks := tk }) →
    wpAny (model C.prog C.w) A (assign target cenv u) Q E s
section
variable {C : Cx} {A : Around} {env : Env} {ρ : Loc} {σ : AH} {E : EX} {Q : V → AH → Prop}
theorem compLoopG {prog : Program} {w : World} {R : Result → Shared → Prop} {s : Shared} {elt target iter : Expr} {ifs : List Expr} {scope : Scope} {pos : Pos} {it acc : Value} (I : Nat → Shared → Prop)
    (turn : ∀ n s, I n s → wpAny (model prog w) A (pyNext it) (fun r s₁ => match r with
      | none => R (.ok .next) s₁
      | some v => wpAny (model prog w) A (letOwnedTupleGo target it v) (fun _ s₁' => wpAny (model prog w) A (assign target env v) (fun _ s₂ =>
          wpAny (model prog w) A (forIn ifs true fun c r => if r = true then do let ok ← isTrue c env (eval c env); pure (ForInStep.yield ok) else pure (ForInStep.yield r)) (fun ok s₃ =>
            if ok = true then wpAny (model prog w) A (eval elt env) (fun x s₄ =>
              wpAny (model prog w) A (call (.builtin "list.append") [acc, x]) (fun _ s₅ => ∃ m, m < n ∧ I m s₅) (notedBy (model prog w) A env fun e s' => R (.error e) s') s₄) (notedBy (model prog w) A env fun e s' => R (.error e) s') s₃
            else ∃ m, m < n ∧ I m s₃) (notedBy (model prog w) A env fun e s' => R (.error e) s') s₂) (notedBy (model prog w) A env fun e s' => R (.error e) s') s₁') (notedBy (model prog w) A env fun e s' => R (.error e) s') s₁) (notedBy (model prog w) A env fun e s' => R (.error e) s') s)
    (n : Nat) (h : I n s) : codeAny (model prog w) A (.compLoop (.ListComp elt [⟨target, iter, ifs, 0⟩] scope pos) 0 it acc env) R s := by
  refine codeAny_loop rfl I (fun n s hI => ?_) n h
  show wpAny _ A ((compTurn (.ListComp elt [⟨target, iter, ifs, 0⟩] scope pos) 0 it acc env).onRaise (fun x => do noteFrame x env; theTreesLotGoes x)) _ _ s
  refine wpAny_noted ?_
  rw [compTurn_list]
  refine wpAny_bind (wpAny_standAt (wpAny_bind (wpAny_mono (turn n s hI) (fun r s₁ h₁ => ?_) fun _ _ h' => h')))
  cases r with
  | none => exact wpAny_pure h₁
  | some v =>
    refine wpAny_bind (wpAny_mono h₁ (fun _ s₁' h₁' => ?_) fun _ _ h' => h')
    refine wpAny_bind (wpAny_mono h₁' (fun _ s₂ h₂ => wpAny_bind (wpAny_mono h₂ (fun ok s₃ h₃ => ?_) fun _ _ h' => h')) fun _ _ h' => h')
    cases ok with
    | false => exact wpAny_pure ⟨rfl, h₃⟩
    | true => exact wpAny_bind (wpAny_bind (wpAny_mono h₃ (fun x s₄ h₄ => wpAny_bind (wpAny_mono h₄ (fun _ s₅ h₅ => wpAny_pure (wpAny_pure ⟨rfl, h₅⟩)) fun _ _ h' => h')) fun _ _ h' => h'))
theorem TgtOk_name {x : Str} {p : Pos} {v : V} : TgtOk C A (.Name x p) [x] v [v] σ := by
  refine ⟨rfl, ?_⟩
  intro ad s u cenv m Q E hr ru hk hkd hn _ _ hQ
  refine wpAny_assign_Name (wpAny_storeName_local (hk x (.head _)) hn (fun h' hn' hs => ?_) (by rw [hkd]; rfl))
  refine hQ h' _ _ [u] (.cons ru .nil) hn' ?_ hs.extBut (Nat.le_of_eq hs.1.symm)
  intro q hq
  simp only [List.zip_cons_cons, List.zip_nil_right, List.mem_singleton] at hq
  subst hq; simp
theorem names_store {cenv : Env} (hkd : cenv.scope.kind = .function) : ∀ (ts : List (Str × Pos)) (us : List Value) (s : Shared) (m : Str → Option Value) (Q : Unit → Shared → Prop) (E : EX), (ts.map (·.1)).Nodup → (∀ x ∈ ts.map (·.1), cenv.kindOf x = some .local) → ts.length = us.length → s.heap.Ns cenv.locals m →
    (∀ h' tk m2, h'.Ns cenv.locals m2 → (∀ p ∈ (ts.map (·.1)).zip us, m2 p.1 = some p.2) → (∀ z, z ∉ ts.map (·.1) → m2 z = m z) → (∀ b o, b ≠ cenv.locals → s.heap.get? b = some o → h'.get? b = some o) → s.heap.objs.size ≤ h'.objs.size → Q () { s with heap := h', toks := tk }) →
    wpAny (model C.prog C.w) A (assignInOrder ((assignEach (ts.map fun t => Expr.Name t.1 t.2) cenv).map (·.2)) us) Q E s := by
  intro ts
  induction ts with
  | nil =>
    intro us s m Q E _ _ hl hn hQ
    have e : us = [] := List.eq_nil_of_length_eq_zero hl.symm
    subst e
    have := hQ s.heap s.toks m hn (by simp) (fun _ _ => rfl) (fun _ _ _ e => e) (Nat.le_refl _)
    exact wpAny_pure this
  | cons t ts ih =>
    intro us s m Q E nd hk hl hn hQ
    obtain ⟨u, us', rfl, hl2⟩ := lenS hl.symm
    have nd' := List.nodup_cons.mp nd
    show wpAny _ A (assignInOrder (assign (.Name t.1 t.2) cenv :: _) (u :: us')) _ E s
    unfold assignInOrder
    refine wpAny_bind (wpAny_holding (wpAny_assign_Name (wpAny_storeName_local (hk t.1 (.head _)) hn (fun h' hn' hs => ?_) (by rw [hkd]; rfl))))
    refine ih us' _ _ Q E nd'.2 (fun x hx => hk x (.tail _ hx)) hl2.symm hn' fun h2 tk m2 q1 q2 q3 q4 q5 => ?_
    refine hQ h2 tk m2 q1 ?_ ?_ (fun b o hb e => q4 b o hb (hs.extBut b o hb e)) (Nat.le_trans (Nat.le_of_eq hs.1.symm) q5)
    · intro p hp
      rw [List.map_cons, List.zip_cons_cons] at hp
      rcases List.mem_cons.mp hp with rfl | hp
      · rw [q3 t.1 nd'.1]; simp
      · exact q2 p hp
    · intro z hz
      rw [List.map_cons, List.mem_cons, not_or] at hz
      rw [q3 z hz.2]; simp [hz.1]
theorem TgtOk_tuple {ts : List (Str × Pos)} {k : Nat} {p : Pos} {v : V} {vs : List V} (hA : A.handled = none) (b : ObjAt C σ v (.tuple vs)) (hnd : (ts.map (·.1)).Nodup) (hl : ts.length = vs.length) (hst : noStar (ts.map fun t => Expr.Name t.1 t.2) = true) : TgtOk C A (.Tuple (ts.map fun t => Expr.Name t.1 t.2) k p) (ts.map (·.1)) v vs σ := by
  refine ⟨by rw [List.length_map]; exact hl, ?_⟩
  intro ad s u cenv m Q E hr ru hk hkd hn hCa hCG hQ
  obtain ⟨a, us, rfl, hl', rvs⟩ := b.tup hr ru
  rw [arm_assign_Tuple]
  refine wpAny_bind (wpAny_standAt ?_)
  unfold unpack
  have e : (assignEach (ts.map fun t => Expr.Name t.1 t.2) cenv).length = us.size := by rw [noStar_len cenv hst, List.length_map, hl, ← Array.length_toList, ← rvs.length]
  rw [e, noStar_idx cenv hst]
  refine wpAny_bind (wpAny_holding (wpAny_sz (wpAny_unpackItems_tuple hA hl' fun h' he hz => ?_)))
  have hk1 : ∀ b o, s.heap.get? b = some o → h'.get? b = some o := fun b o e => he b o (Nat.ne_of_lt (Heap.lt_size e)) e
  refine names_store hkd ts us.toList _ m Q E hnd hk (by rw [Array.length_toList, ← Array.length_toList, ← rvs.length]; exact hl) (hn.at' fun o e => hk1 _ o e) fun h2 tk m2 q1 q2 q3 q4 q5 => ?_
  exact hQ h2 tk m2 us.toList rvs q1 q2 (fun b o hb e => q4 b o hb (hk1 b o e)) (Nat.le_trans hz q5)
/-- the env within a comprehension -/
theorem comp_erG {l l2 : List (Str × Value)} {onames : List (Str × NameKind)} {sc : Scope} {xs : List Str} {capt : Loc} {ad : List Addr} {h : Heap} {Cl : Addr} {m : Str → Option Value} {vs : List V} {us : List Value} (hkn : Kn env onames)
    (ok : CompOkG onames sc xs (capt.map (·.1)) (l2.map (·.1))) (hkind : sc.kind = .function) (hnd : (capt.map (·.1)).Nodup) (hcap : ∀ p ∈ capt, p ∈ ρ) (er : ER (C.wg l) env ρ ad h)
    (hn : h.Ns Cl m) (hu : ∀ p ∈ xs.zip us, m p.1 = some p.2) (rv : RVs ad vs us) (hlen : xs.length = vs.length) (hG : C.G.get? Cl = none) (had : Cl ∉ ad) (hCl : Cl ∉ fa env) (hlt : Cl < h.objs.size) :
    ER (C.wg l2) (compEnvC sc (clOf env sc.names []) Cl env) (xs.zip (vs.map some) ++ capt) ad h ∧ Kn (compEnvC sc (clOf env sc.names []) Cl env) (relab sc.names) := by
  have hcell : ∀ n, (n, NameKind.free) ∈ sc.names → env.kindOf n = some .cell := fun n hn => hkn n _ (ok.free n hn).2
  have hsome : ∀ n, (n, NameKind.free) ∈ sc.names → (env.cells.lookup n).isSome = true := by
    intro n hn
    obtain ⟨p, hp, rfl⟩ := List.mem_map.mp (ok.free n hn).1
    rcases er.kd p.1 p.2 (hcap p hp) with e | ⟨_, e⟩
    · rw [hcell _ hn] at e; cases e
    · exact e
  have hmem := clOf_mem (env := env) (ns := sc.names) (cs := []) hsome (by simp)
  have hlk : ∀ y c, (clOf env sc.names []).lookup y = some c → env.cells.lookup y = some c := fun y c e => hmem (y, c) (mem_of_lookup e)
  have relabE : (relabel sc env).names = relab sc.names := by
    show List.map _ _ = List.map _ _
    refine List.map_congr_left fun p hp => ?_
    obtain ⟨n, k⟩ := p
    by_cases hk : (k == NameKind.free) = true
    · have hk' : k = .free := by simpa using hk
      subst hk'
      simp [hcell n hp, er.kind]
    · simp [hk]
  have kn : Kn (compEnvC sc (clOf env sc.names []) Cl env) (relab sc.names) := by
    intro y k e
    show (relabel sc env).names.lookup y = _
    rw [relabE]; exact e
  have kf : ∀ y ∈ capt.map (·.1), (compEnvC sc (clOf env sc.names []) Cl env).kindOf y = some .cell := fun y hy => kn y _ (relab_lookup (ok.cap y hy).2)
  have zn : (xs.zip (vs.map some)).map (·.1) = xs := zip_names (by rw [List.length_map]; exact hlen)
  have zm : ∀ y w, (y, w) ∈ xs.zip (vs.map some) → y ∈ xs := fun y w hy => by rw [← zn]; exact List.mem_map.mpr ⟨_, hy, rfl⟩
  refine ⟨⟨hkind, er.glob, er.blt, ?_, ?_, ⟨m, hn, ?_⟩, ?_, ?_, ?_, ?_, ?_, ?_, ?_⟩, kn⟩
  · rw [List.map_append, zn]
    refine List.nodup_append.mpr ⟨ok.xd, hnd, ?_⟩
    intro a ha b hb e
    subst e
    exact ok.xc a ha hb
  · intro y w hy
    rcases List.mem_append.mp hy with hy | hy
    · exact .inl (kn y _ (relab_lookup (ok.xl y (zm y w hy))))
    · have hy' : y ∈ capt.map (·.1) := List.mem_map.mpr ⟨_, hy, rfl⟩
      exact .inr ⟨.inl (kf y hy'), clOf_some (.inl (mem_of_lookup (ok.cap y hy').2))⟩
  · intro y w hy hk
    rcases List.mem_append.mp hy with hy | hy
    · obtain ⟨u, h1, h2⟩ := zip_mem rv hy
      exact ⟨u, hu _ h1, h2⟩
    · rw [kf y (List.mem_map.mpr ⟨_, hy, rfl⟩)] at hk; cases hk
  · intro y c hc
    obtain ⟨o, w, h1, h2, h3⟩ := er.cell y c (hlk y c hc)
    refine ⟨o, w, h1, h2, fun z hz hk => ?_⟩
    rcases List.mem_append.mp hz with hz | hz
    · exact absurd (kn y _ (relab_lookup (ok.xl y (zm y _ hz)))) hk
    · refine h3 z (hcap _ hz) ?_
      have := hcell y (mem_of_lookup (ok.cap y (List.mem_map.mpr ⟨_, hz, rfl⟩)).2)
      rw [this]; decide
  · intro y z c h1 h2
    exact er.cinj y z c (hlk _ _ h1) (hlk _ _ h2)
  · intro y c hc e
    refine hCl ?_
    rw [← show c = Cl from e]
    exact mem_cells (hlk y c hc)
  · intro a ha
    rcases List.mem_cons.mp ha with e | ha
    · subst e; exact ⟨hG, had⟩
    · obtain ⟨p, hp, rfl⟩ := List.mem_map.mp ha
      exact er.off _ (mem_cells (hmem p hp))
  · intro a ha
    rcases List.mem_cons.mp ha with e | ha
    · subst e; exact hlt
    · obtain ⟨p, hp, rfl⟩ := List.mem_map.mp ha
      exact er.lt _ (mem_cells (hmem p hp))
  · intro y w hy
    rcases List.mem_append.mp hy with hy | hy
    · exact ok.xn y (zm y w hy)
    · exact (ok.cap y (List.mem_map.mpr ⟨_, hy, rfl⟩)).1
  · intro y w hy
    have := ok.glo y (List.mem_map.mpr ⟨_, hy, rfl⟩)
    exact ⟨kn y _ (relab_lookup this.2), this.1⟩
theorem comp_coreG {l l2 : List (Str × Value)} {onames : List (Str × NameKind)} {sc : Scope} {xs : List Str} {target : Expr} {elt iter : Expr} {ifs : List Expr} {pos : Pos} {capt : Loc} {ad : List Addr} {s2 : Shared} {I : Addr} {n : Nat} {P : Nat → V} {Cd : AH → Prop}
    {St : Nat → Heap → Prop} {RR : Value → Addr → Result → Shared → Prop} {Inv : Nat → List V → AH → Prop} {vls : Nat → List V}
    (hkn : Kn env onames) (ok : CompOkG onames sc xs (capt.map (·.1)) (l2.map (·.1))) (hkind : sc.kind = .function) (hnd : (capt.map (·.1)).Nodup) (hcap : ∀ p ∈ capt, p ∈ ρ) (hl2 : ∀ p ∈ l2, p ∈ l ∨ GloIs C p)
    (hr : HR (C.wg l) ad σ s2.heap) (er : ER (C.wg l) env ρ ad s2.heap) (wk : Wk (C.wg l) A ad I n P Cd St) (st0 : St 0 s2.heap) (hI : I ∉ ad) (hIfa : I ∉ fa env) (hIG : C.G.get? I = none) (hsz : n ≤ sizeLine) (inv0 : Inv 0 [] σ)
    (turn : ∀ i acc σ', i < n → Inv i acc σ' → Cd σ' ∧ TgtOk (C.wg l) A target xs (P i) (vls i) σ' ∧ ∀ cenv, Kn cenv (relab sc.names) → WIf (C.wg l2) A cenv true ifs (xs.zip ((vls i).map some) ++ capt) σ'
      (fun b σ2 => if b = true then WE (C.wg l2) A cenv elt (xs.zip ((vls i).map some) ++ capt) σ2 (fun v σ3 => Inv (i + 1) (acc ++ [v]) σ3) (fun _ _ => False) else Inv (i + 1) acc σ2) (fun _ _ => False))
    (hcd : ∀ acc σ', Inv n acc σ' → Cd σ')
    (hRR : ∀ D Cl ad' σ' vs s' m, s'.heap.Ns Cl m → s2.heap.objs.size ≤ Cl → Cl ∉ ad' → Nx (C.wg l) [I] ad s2 ad' (σ' ++ [.list vs]) s' → RV ad' (.ref σ'.length) (.ref D) → Inv n vs σ' → RR (.ref D) Cl (.ok .next) s') :
    wpAny (model C.prog C.w) A (newList []) (fun acc s3 => wpAny (model C.prog C.w) A (newFunctionEnv sc env.globals (clOf env sc.names []) [] env.qual none .none (some env)) (fun cenv s4 =>
      codeAny (model C.prog C.w) A (.compStart (.ListComp elt [⟨target, iter, ifs, 0⟩] sc pos) 0 (.ref I) acc { cenv with scope := relabel sc env }) (RR acc cenv.locals) s4) E s3) E s2 := by
  refine wpAny_newObj_type (wpAny_newFunctionEnv ok.nocell (by intro y hy; simp at hy) (fun h1 hns1 hsb1 => ?_) hkind)
  dsimp only at hns1 hsb1 ⊢
  generalize hH2 : s2.heap.push { cls := .type "list", dict := none, data := .seq ([] : List Value).toArray } = H2 at hns1 hsb1 ⊢
  have hC : H2.objs.size = s2.heap.objs.size + 1 := by rw [← hH2, Heap.size_push]
  have hDC : s2.heap.objs.size ≠ H2.objs.size := by omega
  have old : ∀ b o, s2.heap.get? b = some o → h1.get? b = some o := fun b o e => hsb1.extBut b o (adr_ne (.inl (by have := nlt (Heap.lt_size e); omega))) (Heap.get?_push_of_some _ (hH2 ▸ Heap.get?_push_of_some _ e))
  have hacc : h1.PlainList s2.heap.objs.size #[] := ⟨_, hsb1.extBut _ _ hDC (Heap.get?_push_of_some _ (hH2 ▸ Heap.get?_push_size _ rfl))⟩
  have hz1 : s2.heap.objs.size + 2 ≤ h1.objs.size := by
    have := hsb1.1
    rw [Heap.size_push] at this
    omega
  obtain ⟨oI, hoI⟩ := wk.ex _ _ st0
  have hIlt := nlt (Heap.lt_size hoI)
  have fD := hr.fresh (Nat.le_refl s2.heap.objs.size)
  have fC := hr.fresh (a := H2.objs.size) (by omega)
  have hClfa : H2.objs.size ∉ fa env := fun hm => absurd (er.lt _ hm) (Nat.not_lt.mpr (by omega))
  have st1 : St 0 h1 := wk.own _ _ _ st0 ((old I oI hoI).trans hoI.symm)
  have n1 : ∀ t, Nx (C.wg l) [I] ad s2 ad σ { s2 with heap := h1, toks := t } := fun t => ⟨⟨h1, t, rfl⟩, ⟨[], by simp, by simp⟩, by show s2.heap.objs.size ≤ h1.objs.size; omega, fun b o e _ _ => old b o e, hr.keeps old⟩
  have loop : ∀ s3 : Shared, s3 = { s2 with heap := h1, toks := s2.toks + ([] : List (Str × Value)).length } →
      codeAny (model C.prog C.w) A (.compLoop (.ListComp elt [⟨target, iter, ifs, 0⟩] sc pos) 0 (.ref I) (.ref s2.heap.objs.size) (compEnvC sc (clOf env sc.names []) H2.objs.size env)) (RR (.ref s2.heap.objs.size) H2.objs.size) s3 := by
    rintro s3 rfl
    refine compLoopG (fun k s' => ∃ i ad' σ' accV accU m', k = n - i ∧ i ≤ n ∧ Nx (C.wg l) [I] ad s2 ad' σ' s' ∧ s2.heap.objs.size ∉ ad' ∧ H2.objs.size ∉ ad' ∧ I ∉ ad' ∧ s'.heap.Ns H2.objs.size m' ∧ s'.heap.PlainList s2.heap.objs.size accU ∧
      RVs ad' accV accU.toList ∧ St i s'.heap ∧ Inv i accV σ' ∧ accV.length ≤ i) ?_ n ⟨0, ad, σ, [], #[], _, rfl, Nat.zero_le _, n1 _, fD.2, fC.2, hI, hns1, hacc, .nil, st1, inv0, Nat.le_refl _⟩
    rintro k s' ⟨i, ad', σ', accV, accU, m', rfl, hi, n3, hD', hC', hI', hns', hpl', rvs', st', inv', hlen'⟩
    have neI : ∀ b o, C.G.get? b = some o ∨ b ∈ ad' → b ≠ I := by
      rintro b o (e | e) rfl
      · rw [hIG] at e; cases e
      · exact hI' e
    have neC : ∀ b o, C.G.get? b = some o ∨ b ∈ ad' → b ≠ H2.objs.size := by
      rintro b o (e | e) rfl
      · rw [fC.1] at e; cases e
      · exact hC' e
    have neD : ∀ b o, C.G.get? b = some o ∨ b ∈ ad' → b ≠ s2.heap.objs.size := by
      rintro b o (e | e) rfl
      · rw [fD.1] at e; cases e
      · exact hD' e
    by_cases hlt : i < n
    · obtain ⟨cd, tg, tb⟩ := turn i accV σ' hlt inv'
      refine wk.item i ad' σ' s' _ _ hlt (let ⟨nw, p, _⟩ := n3.pre; ⟨nw, p⟩) n3.hr cd st' fun u h' tk ru st'' hsb => ?_
      refine wk.tup (i + 1) { s' with heap := h', toks := tk } _ _ _ _ st'' ?_
      have hrI : HR (C.wg l) ad' σ' h' := n3.hr.same fun b o hb e => hsb.extBut b o (neI b o hb) e
      refine tg.run ad' { s' with heap := h', toks := tk } u (compEnvC sc (clOf env sc.names []) H2.objs.size env) m' _ _ hrI ru (fun x hx => lookup_relabel_local (ok.xl x hx)) (show sc.kind = _ from hkind) (hns'.at' fun o e => hsb.extBut _ o (adr_ne (.inr (by omega))) e) hC' fC.1 fun h2 tk2 m2 us rus hn2 hm2 hs2 hsz2 => ?_
      have k2 : ∀ b o, b ≠ I → b ≠ H2.objs.size → s'.heap.get? b = some o → h2.get? b = some o := fun b o h1 h2 e => hs2 b o h2 (hsb.extBut b o h1 e)
      have hr4 : HR (C.wg l) ad' σ' h2 := n3.hr.same fun b o hb e => k2 b o (neI b o hb) (neC b o hb) e
      have hz4 : s'.heap.objs.size ≤ h2.objs.size := by
        have a1 := hsb.1
        have a2 : h'.objs.size ≤ h2.objs.size := hsz2
        omega
      have hz5 : H2.objs.size < h2.objs.size := Nat.lt_of_lt_of_le hns'.lt hz4
      have er4 : ER (C.wg l) env ρ ad' h2 := er.keep n3.pre (fun b hb o e => k2 b o (fun e' => hIfa (e' ▸ hb)) (fun e' => hClfa (e' ▸ hb)) (n3.same b o e (er.off b hb).2 (by simp; rintro rfl; exact hIfa hb))) (by have := n3.size; omega)
      obtain ⟨erc, kn⟩ := comp_erG (l2 := l2) hkn ok hkind hnd hcap er4 hn2 hm2 rus tg.len fC.1 hC' hClfa hz5
      have st4 : St (i + 1) h2 := wk.own _ _ _ st'' (by
        obtain ⟨oI', hoI'⟩ := wk.ex _ _ st''
        rw [hoI']; exact hs2 _ _ (adr_ne (b := H2.objs.size) (.inl (by omega))) hoI')
      have hpl4 : h2.PlainList s2.heap.objs.size accU := by
        obtain ⟨c, hc⟩ := hpl'
        exact ⟨c, k2 _ _ (adr_ne (.inr (by omega))) hDC hc⟩
      refine wpAny_mono ((tb _ kn).run ad' _ (hr4.toWg hl2) erc) ?_ fun _ _ f => f.elim
      rintro b s5 ⟨ad5, σ5, n5, h5⟩
      have n35 := fun t => (n3.touch (tk := t) hr4 (by omega) (fun b o h1 h2 e => k2 b o h1 (adr_ne (.inl (by have h2' := nlt h2; omega))) e))
      have done5 : ∀ (adN : List Addr) (σN : AH) (sN : Shared) t, Nx (C.wg l2) [] ad' { s' with heap := h2, toks := t } adN σN sN →
          Nx (C.wg l) [I] ad s2 adN σN sN ∧ s2.heap.objs.size ∉ adN ∧ H2.objs.size ∉ adN ∧ I ∉ adN ∧ sN.heap.Ns H2.objs.size m2 ∧ sN.heap.PlainList s2.heap.objs.size accU ∧ St (i + 1) sN.heap ∧ ∃ nw, adN = ad' ++ nw := by
        intro adN σN sN t nN
        have nN' := nN.toWg hr.ok
        obtain ⟨nw, p, q⟩ := nN.pre
        have notin : ∀ a, a ∉ ad' → a < h2.objs.size → a ∉ adN := by
          intro a h1 h2 hm
          rw [p] at hm
          rcases List.mem_append.mp hm with hm | hm
          · exact h1 hm
          · exact absurd (q a hm) (Nat.not_le.mpr h2)
        have hs3 := n3.size
        have hz3 : H2.objs.size < h2.objs.size := hz5
        refine ⟨(n35 t).trans (nN'.wider (by simp)), notin _ hD' (Nat.lt_trans (show s2.heap.objs.size < H2.objs.size by omega) hz3), notin _ hC' hz3, notin _ hI' (Nat.lt_trans (Nat.lt_trans hIlt (show s2.heap.objs.size < H2.objs.size by omega)) hz3), hn2.at' fun o e => nN.same _ o e hC' (by simp), ?_, ?_, nw, p⟩
        · obtain ⟨c, hc⟩ := hpl4
          exact ⟨c, nN.same _ _ hc hD' (by simp)⟩
        · obtain ⟨oI', hoI'⟩ := wk.ex _ _ st4
          exact wk.own _ _ _ st4 ((nN.same _ _ hoI' hI' (by simp)).trans hoI'.symm)
      cases b with
      | false =>
        obtain ⟨a1, a2, a3, a4, a5, a6, a7, nw, a8⟩ := done5 ad5 σ5 s5 _ n5
        exact ⟨n - (i + 1), by omega, i + 1, ad5, σ5, accV, accU, _, rfl, hlt, a1, a2, a3, a4, a5, a6, by rw [a8]; exact rvs'.mono, a7, h5, by omega⟩
      | true =>
        have h5' : WE (C.wg l2) A _ elt (xs.zip ((vls i).map some) ++ capt) σ5 (fun v σ3 => Inv (i + 1) (accV ++ [v]) σ3) (fun _ _ => False) := h5
        refine wpAny_mono (h5'.run ad5 s5 n5.hr (erc.next n5)) ?_ fun _ _ f => f.elim
        rintro y s6 ⟨ad6, σ6, v, n6, r6, inv6⟩
        obtain ⟨a1, a2, a3, a4, a5, a6, a7, nw, a8⟩ := done5 ad6 σ6 s6 _ (n5.trans n6)
        refine wpAny_list_append_plain a6 (fun h' hp hs => ?_) (by rw [← Array.length_toList, ← rvs'.length]; omega)
        have hr7 : HR (C.wg l) ad6 σ6 h' := a1.hr.same fun b o hb e => hs.extBut b o (by
          rintro rfl
          rcases hb with e | e
          · have : C.G.get? s2.heap.objs.size = some o := e
            rw [fD.1] at this; cases this
          · exact a2 e) e
        refine ⟨n - (i + 1), by omega, i + 1, ad6, σ6, accV ++ [v], accU.push y, _, rfl, hlt, a1.touch hr7 (Nat.le_of_eq hs.1.symm) (fun b o h1 h2 e => hs.extBut b o (adr_ne (.inl (nlt h2))) e), a2, a3, a4, a5.at' fun o e => hs.extBut _ o (Ne.symm hDC) e, hp, ?_, ?_, inv6, by simp; omega⟩
        · rw [Array.toList_push, a8]
          exact rvs'.mono.append (.cons (a8 ▸ r6) .nil)
        · obtain ⟨oI', hoI'⟩ := wk.ex _ _ a7
          exact wk.own _ _ _ a7 ((hs.extBut _ _ (adr_ne (.inl (by omega))) hoI').trans hoI'.symm)
    · obtain rfl : i = n := by omega
      refine wpAny_sz (wk.done ad' σ' s' _ _ (let ⟨nw, p, _⟩ := n3.pre; ⟨nw, p⟩) n3.hr (hcd _ _ inv') st' fun h' tk hk hz => ?_)
      obtain ⟨c, hc⟩ := hpl'
      have hc' := hk _ _ (adr_ne (.inr (by omega))) hc
      have hr4 : HR (C.wg l) ad' σ' h' := n3.hr.same fun b o hb e => hk b o (neI b o hb) e
      have n4 := n3.touch (tk := tk) hr4 hz fun b o h1 _ e => hk b o h1 e
      have hr5 := HR.own (o := .list accV) hr4 hc' fD.1 hD' (hr.freshLow (Nat.le_refl _)) ⟨_, c, rfl, rvs'⟩
      have hlen : σ'.length = ad'.length := hr4.len.symm
      obtain ⟨nw, p, q⟩ := n3.pre
      refine hRR _ _ (ad' ++ [s2.heap.objs.size]) σ' accV _ m' (hns'.at' fun o e => hk _ o (adr_ne (.inr (by omega))) e) (show (s2.heap.objs.size : Nat) ≤ H2.objs.size by omega) ?_ ⟨n4.eq, ⟨nw ++ [s2.heap.objs.size], by rw [p, List.append_assoc], ?_⟩, n4.size, n4.same, hr5⟩ (RV.last hlen) inv'
      · intro hm
        rcases List.mem_append.mp hm with hm | hm
        · exact hC' hm
        · simp at hm; omega
      · intro a ha
        rcases List.mem_append.mp ha with ha | ha
        · exact q a ha
        · simp at ha; exact Nat.le_of_eq ha.symm
  exact codeAny_compStart_list (loop _ rfl) (wk.self 0 _ _ _ st1 (loop _ rfl))

theorem comp_closedG {l l2 : List (Str × Value)} {onames : List (Str × NameKind)} {sc : Scope} {xs : List Str} {capt : Loc} {ad : List Addr} {h : Heap} (hkn : Kn env onames) (ok : CompOkG onames sc xs (capt.map (·.1)) (l2.map (·.1))) (hcap : ∀ p ∈ capt, p ∈ ρ) (er : ER (C.wg l) env ρ ad h) :
    closureFor sc env = pure (clOf env sc.names []) := by
  refine closure_of fun n hn => ?_
  obtain ⟨p, hp, rfl⟩ := List.mem_map.mp (ok.free n hn).1
  rcases er.kd p.1 p.2 (hcap p hp) with e | ⟨_, e⟩
  · rw [hkn _ _ (ok.free _ hn).2] at e; cases e
  · exact e
/-- what a comprehension asks -/
def CompGoG (C : Cx) (A : Around) (l l2 : List (Str × Value)) (sc : Scope) (xs : List Str) (target : Expr) (ifs : List Expr) (elt : Expr) (capt : Loc) (K : List V → AH → Prop) (n : Nat) (P : Nat → V) (Cd : AH → Prop) (σ1 : AH) : Prop :=
  n ≤ sizeLine ∧ ∃ (vls : Nat → List V) (Inv : Nat → List V → AH → Prop), Inv 0 [] σ1 ∧ (∀ i acc σ', i < n → Inv i acc σ' → Cd σ' ∧ TgtOk (C.wg l) A target xs (P i) (vls i) σ' ∧ ∀ cenv, Kn cenv (relab sc.names) → WIf (C.wg l2) A cenv true ifs (xs.zip ((vls i).map some) ++ capt) σ'
      (fun b σ2 => if b = true then WE (C.wg l2) A cenv elt (xs.zip ((vls i).map some) ++ capt) σ2 (fun v σ3 => Inv (i + 1) (acc ++ [v]) σ3) (fun _ _ => False) else Inv (i + 1) acc σ2) (fun _ _ => False)) ∧
    ∀ acc σ', Inv n acc σ' → Cd σ' ∧ K acc σ'
theorem WE_ListCompG {l l2 : List (Str × Value)} {onames : List (Str × NameKind)} {sc : Scope} {xs : List Str} {target : Expr} {elt iter : Expr} {ifs : List Expr} {pos : Pos} {capt : Loc}
    (hkn : Kn env onames) (ok : CompOkG onames sc xs (capt.map (·.1)) (l2.map (·.1))) (hnd : (capt.map (·.1)).Nodup) (hcap : ∀ p ∈ capt, p ∈ ρ) (hl2 : ∀ p ∈ l2, p ∈ l ∨ GloIs C p)
    (h : WItr (C.wg l) A env iter ρ σ (CompGoG C A l l2 sc xs target ifs elt capt (fun acc σ' => Q (.ref σ'.length) (σ' ++ [.list acc]))) E)
    (hkind : sc.kind = .function := by rfl) (hs : isSetE iter = false := by rfl) : WE (C.wg l) A env (.ListComp elt [⟨target, iter, ifs, 0⟩] sc pos) ρ σ Q E := by
  refine ⟨?_⟩
  intro ad s hr er
  rw [eval_ListComp]
  refine wpAny_comprehension_free (use := none) rfl (folded_not hs) (comp_closedG hkn ok hcap er) hkind ok.locs (wpAny_mono (h.run ad s hr er) (fun xv s1 h1 => wpAny_mono h1 ?_ fun _ _ e => e) fun _ _ e => e)
  rintro it s2 ⟨ad1, σ1, n, P, Cd, I, St, rfl, wk, st0, hI, hIad, n2, hsz, vls, Inv, inv0, turn, fin⟩
  have er2 := er.next n2
  have hIfa : I ∉ fa env := fun hm => absurd (er.lt I hm) (Nat.not_lt.mpr hI)
  have hIG : C.G.get? I = none := (hr.fresh hI).1
  refine comp_coreG (C := C) (RR := fun acc Cl => compPost (model C.prog C.w) A E none (PE (C.wg l) ad s Q) acc Cl) hkn ok hkind hnd hcap hl2 n2.hr er2 wk st0 hIad hIfa hIG hsz inv0 (vls := vls) (fun i acc σ' hi hv => turn i acc σ' hi hv) (fun acc σ' hi => (fin acc σ' hi).1) ?_
  intro D Cl ad' σ' vs s' m hn hCl hClad n3 rv inv
  refine ⟨m, hn, fun h' hs' => ?_⟩
  have hClG : C.G.get? Cl = none := (n2.hr.fresh hCl).1
  have hr' : HR (C.wg l) ad' (σ' ++ [.list vs]) h' := n3.hr.same fun b o hb e => hs'.extBut b o (by
    rintro rfl
    rcases hb with e | e
    · have : C.G.get? b = some o := e
      rw [hClG] at this; cases this
    · exact hClad e) e
  have n4 := n3.touch (tk := s'.toks) hr' (Nat.le_of_eq hs'.1.symm) fun b o _ h2 e => hs'.extBut b o (adr_ne (.inl (Nat.lt_of_lt_of_le h2 hCl))) e
  exact ⟨ad', _, _, Nx.drop1 n2 hI n4, rv, (fin vs σ' inv).2⟩
theorem CompOk.toG {onames : List (Str × NameKind)} {sc : Scope} {x : Str} {capt gl : List Str} (h : CompOk onames sc x capt gl) : CompOkG onames sc [x] capt gl :=
  ⟨h.nocell, h.locs, h.free, (fun y hy => by rw [List.mem_singleton.mp hy]; exact h.xl), (fun y hy => by rw [List.mem_singleton.mp hy]; exact h.xn), (fun y hy => by rw [List.mem_singleton.mp hy]; exact h.xc), by simp, h.cap, h.glo⟩
theorem CompGo.toG {l l2 : List (Str × Value)} {sc : Scope} {x : Str} {px : Pos} {elt : Expr} {ifs : List Expr} {capt : Loc} {K : List V → AH → Prop} {n : Nat} {P : Nat → V} {Cd : AH → Prop} {σ1 : AH} (h : CompGo C A l2 sc x ifs elt capt K n P Cd σ1) : CompGoG C A l l2 sc [x] (.Name x px) ifs elt capt K n P Cd σ1 := by
  obtain ⟨hz, Inv, h0, turn, fin⟩ := h
  refine ⟨hz, fun i => [P i], Inv, h0, fun i acc σ' hi hv => ?_, fin⟩
  obtain ⟨cd, t⟩ := turn i acc σ' (P i) hi rfl hv
  exact ⟨cd, TgtOk_name, t⟩
theorem WItr.conseq {iter : Expr} {K K' : Nat → (Nat → V) → (AH → Prop) → AH → Prop} (h : WItr C A env iter ρ σ K E) (hk : ∀ n P Cd σ1, K n P Cd σ1 → K' n P Cd σ1) : WItr C A env iter ρ σ K' E := by
  refine ⟨fun ad s hr er => wpAny_mono (h.run ad s hr er) (fun x s1 h1 => wpAny_mono h1 ?_ fun _ _ e => e) fun _ _ e => e⟩
  rintro it s2 ⟨ad1, σ1, n, P, Cd, I, St, e, wk, st0, hI, hIad, n2, k⟩
  exact ⟨ad1, σ1, n, P, Cd, I, St, e, wk, st0, hI, hIad, n2, hk _ _ _ _ k⟩
theorem WE_ListComp2g {l l2 : List (Str × Value)} {onames : List (Str × NameKind)} {sc : Scope} {x : Str} {px : Pos} {elt iter : Expr} {ifs : List Expr} {pos : Pos} {capt : Loc}
    (hkn : Kn env onames) (hok : compOk onames sc x (capt.map (·.1)) (l2.map (·.1)) = true) (hnd : (capt.map (·.1)).Nodup) (hcap : ∀ p ∈ capt, p ∈ ρ) (hl2 : ∀ p ∈ l2, p ∈ l ∨ GloIs C p)
    (h : WItr (C.wg l) A env iter ρ σ (CompGo C A l2 sc x ifs elt capt (fun acc σ' => Q (.ref σ'.length) (σ' ++ [.list acc]))) E)
    (hkind : sc.kind = .function := by rfl) (hs : isSetE iter = false := by rfl) : WE (C.wg l) A env (.ListComp elt [⟨.Name x px, iter, ifs, 0⟩] sc pos) ρ σ Q E :=
  WE_ListCompG hkn (compOk.ok hok).toG hnd hcap hl2 (h.conseq fun _ _ _ _ k => k.toG) hkind hs
end
end Mine

-- part St0
set_option autoImplicit false
set_option linter.unusedVariables false
namespace Mine
open PySem

theorem below_go_le (xs : Array Nat) (j : Nat) : ∀ fuel lo hi, lo ≤ hi → hi ≤ xs.size → SetTable.below.go xs j fuel lo hi ≤ xs.size
  | 0, lo, hi, h1, h2 => by unfold SetTable.below.go; omega
  | fuel + 1, lo, hi, h1, h2 => by
    unfold SetTable.below.go
    split
    · dsimp only
      split
      · exact below_go_le xs j fuel _ _ (by omega) h2
      · exact below_go_le xs j fuel _ _ (by omega) (by omega)
    · omega
theorem below_le (xs : Array Nat) (j : Nat) : SetTable.below xs j ≤ xs.size := below_go_le xs j _ _ _ (Nat.zero_le _) (Nat.le_refl _)
theorem insertAt_size {α : Type} (xs : Array α) (p : Nat) (x : α) (h : p ≤ xs.size) : (SetTable.insertAt xs p x).size = xs.size + 1 := by
  unfold SetTable.insertAt; simp; omega
theorem mem_ext {α : Type} {xs : Array α} {a b : Nat} {y : α} (h : y ∈ xs.extract a b) : y ∈ xs := by
  rw [← Array.mem_toList_iff, Array.toList_extract] at h
  rw [← Array.mem_toList_iff]
  exact List.mem_of_mem_drop (List.mem_of_mem_take h)
theorem insertAt_mem {α : Type} {xs : Array α} {p : Nat} {x y : α} (h : y ∈ SetTable.insertAt xs p x) : y = x ∨ y ∈ xs := by
  unfold SetTable.insertAt at h
  simp only [Array.mem_append, Array.mem_push] at h
  rcases h with (h | h) | h
  · exact .inr (mem_ext h)
  · exact .inl h
  · exact .inr (mem_ext h)
/-- all places taken: as many as there are -/
theorem cover_len : ∀ (m : Nat) (l : List Nat), (∀ j, j < m → j ∈ l) → m ≤ l.length
  | 0, _, _ => Nat.zero_le _
  | m + 1, l, h => by
    have h1 := h m (by omega)
    have h2 := cover_len m (l.erase m) fun j hj => (List.mem_erase_of_ne (by omega)).mpr (h j (by omega))
    rw [List.length_erase_of_mem h1] at h2
    have := List.length_pos_of_mem h1
    omega
theorem slot_cases {t : SetTable} (hd : t.dummies = #[]) (j : Nat) : (t.slot j = .empty) ∨ (∃ i, t.slot j = .live i ∧ t.place[i]? = some j) := by
  unfold SetTable.slot
  dsimp only
  split
  · rename_i h
    exact .inr ⟨_, rfl, by simpa using h⟩
  · refine .inl ?_
    rw [if_neg]
    unfold SetTable.has
    rw [hd]
    simp
theorem has_empty {t : SetTable} (hd : t.dummies = #[]) (hn : t.place.size ≤ t.mask) : ∃ j, j ≤ t.mask ∧ t.slot j = .empty := by
  apply Classical.byContradiction
  intro hc
  have : t.mask + 1 ≤ t.place.toList.length := cover_len _ _ fun j hj => by
    rcases slot_cases hd j with e | ⟨i, _, e⟩
    · exact absurd ⟨j, by omega, e⟩ hc
    · rw [← Array.getElem?_toList] at e
      exact List.mem_of_getElem? e
  rw [Array.length_toList] at this
  omega
/- the leaps, once nothing perturbs them, meet every place -/
def lp (M : Nat) : Nat → Nat → Nat
  | 0, x => x
  | n + 1, x => lp M n ((x * 5 + 1) % M)
theorem lp_lt {M : Nat} (hM : 0 < M) : ∀ n x, x < M → lp M n x < M
  | 0, x, h => h
  | n + 1, x, h => lp_lt hM n _ (Nat.mod_lt _ hM)
theorem lp_add (M : Nat) : ∀ a b x, lp M (a + b) x = lp M b (lp M a x)
  | 0, b, x => by simp [lp]
  | a + 1, b, x => by rw [Nat.succ_add]; show lp M (a + b) _ = lp M b (lp M a _); exact lp_add M a b _
/-- four times the leap plus one is five times that -/
theorem lp_pow (M : Nat) : ∀ n x, (4 * lp M n x + 1) % (4 * M) = (5 ^ n * (4 * x + 1)) % (4 * M)
  | 0, x => by simp [lp]
  | n + 1, x => by
    show (4 * lp M n ((x * 5 + 1) % M) + 1) % (4 * M) = _
    rw [lp_pow M n]
    have e : (4 * ((x * 5 + 1) % M) + 1) % (4 * M) = (5 * (4 * x + 1)) % (4 * M) := by
      have h1 : 4 * ((x * 5 + 1) % M) = (4 * (x * 5 + 1)) % (4 * M) := by rw [Nat.mul_mod_mul_left]
      rw [h1, Nat.mod_add_mod]
      congr 1; omega
    rw [Nat.mul_mod, e, ← Nat.mul_mod, ← Nat.mul_assoc, ← Nat.pow_succ]
/-- lifting the exponent at two, for five -/
theorem five_key : ∀ k, ∃ m, 5 ^ (2 ^ k) = 4 * 2 ^ k * (2 * m + 1) + 1
  | 0 => ⟨0, by decide⟩
  | k + 1 => by
    obtain ⟨m, hm⟩ := five_key k
    refine ⟨2 ^ k * (2 * m + 1) * (2 * m + 1) + m, ?_⟩
    rw [Nat.pow_succ, Nat.pow_mul, Nat.pow_two, hm]
    generalize 2 ^ k = q
    grind
theorem five_odd (k : Nat) : ∀ e, ∃ m, 5 ^ (2 ^ k * e) = 4 * 2 ^ k * (2 * m + e) + 1
  | 0 => ⟨0, by simp⟩
  | e + 1 => by
    obtain ⟨m, hm⟩ := five_odd k e
    obtain ⟨m', hm'⟩ := five_key k
    refine ⟨m + m' + 2 * 2 ^ k * (2 * m + e) * (2 * m' + 1), ?_⟩
    rw [Nat.mul_add, Nat.mul_one, Nat.pow_add, hm, hm']
    generalize 2 ^ k = q
    grind
theorem lte5 : ∀ (k d : Nat), 4 * 2 ^ k ∣ 5 ^ d - 1 → 2 ^ k ∣ d
  | 0, d, _ => by simp
  | k + 1, d, h => by
    have hk : 2 ^ k ∣ d := lte5 k d (Nat.dvd_trans ⟨2, by rw [Nat.pow_succ]; omega⟩ h)
    obtain ⟨e, rfl⟩ := hk
    obtain ⟨m, hm⟩ := five_odd k e
    rw [hm, Nat.add_sub_cancel, Nat.pow_succ] at h
    have h2 : 4 * 2 ^ k * 2 ∣ 4 * 2 ^ k * (2 * m + e) := by rw [Nat.mul_assoc 4 (2 ^ k) 2]; exact h
    have h3 := Nat.dvd_of_mul_dvd_mul_left (Nat.mul_pos (by decide) (Nat.two_pow_pos k)) h2
    obtain ⟨f, hf⟩ : 2 ∣ e := by omega
    subst hf
    rw [Nat.pow_succ]
    exact ⟨f, by rw [Nat.mul_assoc]⟩
theorem lp_inj {k x : Nat} {a d : Nat} (hd : 0 < d) (hd2 : d < 2 ^ k) (hx : x < 2 ^ k) : lp (2 ^ k) a x ≠ lp (2 ^ k) (a + d) x := by
  intro h
  rw [lp_add] at h
  generalize hy : lp (2 ^ k) a x = y at h
  have e := lp_pow (2 ^ k) d y
  rw [← h] at e
  have hdv : 4 * 2 ^ k ∣ 5 ^ d * (4 * y + 1) - (4 * y + 1) := Nat.dvd_of_mod_eq_zero (Nat.sub_mod_eq_zero_of_mod_eq e.symm)
  have e2 : 5 ^ d * (4 * y + 1) - (4 * y + 1) = (5 ^ d - 1) * (4 * y + 1) := by rw [Nat.sub_mul, Nat.one_mul]
  rw [e2] at hdv
  have hco : Nat.Coprime (4 * 2 ^ k) (4 * y + 1) := by
    have : 4 * 2 ^ k = 2 ^ (k + 2) := by rw [Nat.pow_add]; omega
    rw [this]
    refine Nat.Coprime.pow_left _ ?_
    rw [Nat.coprime_iff_gcd_eq_one]
    have : Nat.gcd 2 (4 * y + 1) ∣ 2 := Nat.gcd_dvd_left _ _
    have h2 : Nat.gcd 2 (4 * y + 1) ∣ 4 * y + 1 := Nat.gcd_dvd_right _ _
    have hle := Nat.le_of_dvd (by decide) this
    have : Nat.gcd 2 (4 * y + 1) ≠ 2 := fun e => by rw [e] at h2; omega
    have : Nat.gcd 2 (4 * y + 1) ≠ 0 := fun e => by rw [e] at h2; simp at h2
    omega
  have h5 := lte5 k d (Nat.Coprime.dvd_of_dvd_mul_right hco hdv)
  have := Nat.le_of_dvd hd h5
  omega
theorem nodup_len : ∀ (l l' : List Nat), l.Nodup → (∀ z ∈ l, z ∈ l') → l.length ≤ l'.length
  | [], _, _, _ => Nat.zero_le _
  | a :: r, l', nd, h => by
    have nd' := List.nodup_cons.mp nd
    have h1 := h a (.head _)
    have ih := nodup_len r (l'.erase a) nd'.2 fun z hz => (List.mem_erase_of_ne (show z ≠ a by rintro rfl; exact nd'.1 hz)).mpr (h z (.tail _ hz))
    rw [List.length_erase_of_mem h1] at ih
    have := List.length_pos_of_mem h1
    simp only [List.length_cons]
    omega
/-- every place is met -/
theorem lp_all {k x y : Nat} (hx : x < 2 ^ k) (hy : y < 2 ^ k) : ∃ n, n < 2 ^ k ∧ lp (2 ^ k) n x = y := by
  apply Classical.byContradiction
  intro hc
  let l := (List.range (2 ^ k)).map fun n => lp (2 ^ k) n x
  have nd : l.Nodup := by
    refine List.pairwise_map.mpr ?_
    refine List.Pairwise.imp_of_mem ?_ List.pairwise_lt_range
    intro a b ha hb hab
    have ha := List.mem_range.mp ha
    have hb := List.mem_range.mp hb
    have := lp_inj (k := k) (x := x) (a := a) (d := b - a) (by omega) (by omega) hx
    rw [show a + (b - a) = b by omega] at this
    exact this
  have hsub : ∀ z ∈ l, z ∈ (List.range (2 ^ k)).erase y := by
    intro z hz
    obtain ⟨n, hn, rfl⟩ := List.mem_map.mp hz
    have hn := List.mem_range.mp hn
    refine (List.mem_erase_of_ne fun e => hc ⟨n, hn, e⟩).mpr (List.mem_range.mpr (lp_lt (Nat.two_pow_pos k) n x hx))
  have hle : l.length ≤ ((List.range (2 ^ k)).erase y).length := nodup_len l _ nd hsub
  rw [List.length_erase_of_mem (List.mem_range.mpr hy)] at hle
  simp [l] at hle
  have := Nat.two_pow_pos k
  omega
end Mine

-- part St1
set_option autoImplicit false
set_option linter.unusedVariables false
namespace Mine
open PySem

def adv (t : SetTable) : Nat → SetTable.Probe → SetTable.Probe
  | 0, p => p
  | n + 1, p => adv t n (t.advance p)
theorem adv_add (t : SetTable) : ∀ a b p, adv t (a + b) p = adv t b (adv t a p)
  | 0, b, p => by simp [adv]
  | a + 1, b, p => by rw [Nat.succ_add]; exact adv_add t a b _
structure PrOk (t : SetTable) (p : SetTable.Probe) : Prop where
  i : p.i ≤ t.mask
  more : p.more ≤ 9
  dm : p.dummy = none
theorem run_le (mask i : Nat) : SetTable.runEnd mask i - i ≤ 9 := by unfold SetTable.runEnd; split <;> omega
theorem adv_ok {t : SetTable} {p : SetTable.Probe} (h : PrOk t p) : PrOk t (t.advance p) := by
  unfold SetTable.advance
  split
  · exact ⟨h.i, by have := h.more; dsimp only; omega, h.dm⟩
  · refine ⟨?_, run_le _ _, h.dm⟩
    dsimp only [SetTable.leap]
    have := Nat.mod_lt (p.i * 5 + 1 + p.perturb / 32) (show t.mask + 1 > 0 by omega)
    omega
theorem adv_oks {t : SetTable} : ∀ n {p : SetTable.Probe}, PrOk t p → PrOk t (adv t n p)
  | 0, _, h => h
  | n + 1, _, h => adv_oks n (adv_ok h)
theorem leap1 {t : SetTable} : ∀ m (p : SetTable.Probe), p.more = m → PrOk t p → ∃ c, c ≤ m + 1 ∧ (adv t c p).i = (p.i * 5 + 1 + p.perturb / 32) % (t.mask + 1) ∧ (adv t c p).j = (adv t c p).i ∧ (adv t c p).perturb = p.perturb / 32
  | 0, p, hm, ok => by
    refine ⟨1, by omega, ?_⟩
    show (t.advance p).i = _ ∧ (t.advance p).j = (t.advance p).i ∧ (t.advance p).perturb = _
    unfold SetTable.advance
    rw [if_neg (by omega)]
    exact ⟨rfl, rfl, rfl⟩
  | m + 1, p, hm, ok => by
    have e : t.advance p = { p with j := p.j + 1, more := p.more - 1 } := by unfold SetTable.advance; rw [if_pos (by omega)]
    obtain ⟨c, h1, h2, h3, h4⟩ := leap1 (t := t) m (t.advance p) (by rw [e]; dsimp only; omega) (adv_ok ok)
    refine ⟨c + 1, by omega, ?_⟩
    have ea : adv t (c + 1) p = adv t c (t.advance p) := rfl
    rw [ea]
    refine ⟨h2.trans ?_, h3, h4.trans ?_⟩ <;> rw [e]
theorem leaps0 {t : SetTable} : ∀ m (p : SetTable.Probe), p.perturb < 32 ^ m → PrOk t p → p.j = p.i ∨ 0 < m → ∃ c, c ≤ 10 * m ∧ (adv t c p).perturb = 0 ∧ (adv t c p).j = (adv t c p).i
  | 0, p, hp, ok, hj => ⟨0, by omega, by show p.perturb = 0; simpa using hp, by show p.j = p.i; omega⟩
  | m + 1, p, hp, ok, hj => by
    obtain ⟨c, h1, h2, h3, h4⟩ := leap1 (t := t) _ p rfl ok
    obtain ⟨d, g1, g2, g3⟩ := leaps0 (t := t) m (adv t c p) (by rw [h4]; exact Nat.div_lt_of_lt_mul (by rw [Nat.pow_succ] at hp; omega)) (adv_oks c ok) (.inl h3)
    refine ⟨c + d, by have := ok.more; omega, ?_⟩
    rw [adv_add]; exact ⟨g2, g3⟩
theorem leapsN {t : SetTable} : ∀ n (p : SetTable.Probe), p.perturb = 0 → p.j = p.i → PrOk t p → ∃ c, c ≤ 10 * n ∧ (adv t c p).j = lp (t.mask + 1) n p.i
  | 0, p, h0, hj, ok => ⟨0, by omega, hj⟩
  | n + 1, p, h0, hj, ok => by
    obtain ⟨c, h1, h2, h3, h4⟩ := leap1 (t := t) _ p rfl ok
    rw [h0] at h2 h4
    obtain ⟨d, g1, g2⟩ := leapsN (t := t) n (adv t c p) (by rw [h4]) h3 (adv_oks c ok)
    refine ⟨c + d, by have := ok.more; omega, ?_⟩
    rw [adv_add, g2, h2]
    rfl
theorem reach {t : SetTable} {k : Nat} (hk : t.mask + 1 = 2 ^ k) (hd : t.dummies = #[]) (hn : t.place.size ≤ t.mask) {p : SetTable.Probe} (ok : PrOk t p) (hp : p.perturb < 2 ^ 64) : ∃ n, n < 10 * SetTable.turns t.mask ∧ t.slot (adv t n p).j = .empty := by
  obtain ⟨j, hj, he⟩ := has_empty hd hn
  obtain ⟨c, c1, c2, c3⟩ := leaps0 (t := t) 13 p (Nat.lt_of_lt_of_le hp (by decide)) ok (.inr (by decide))
  have ok' := adv_oks c ok
  obtain ⟨n, n1, n2⟩ := lp_all (k := k) (x := (adv t c p).i) (y := j) (by have := ok'.i; omega) (by omega)
  obtain ⟨d, d1, d2⟩ := leapsN (t := t) n _ c2 c3 ok'
  refine ⟨c + d, ?_, ?_⟩
  · unfold SetTable.turns; omega
  · rw [adv_add, d2, hk, n2]; exact he
theorem probe_spec {t : SetTable} (hd : t.dummies = #[]) (hashAt : Nat → Int) (h : Int) : ∀ n fuel (p : SetTable.Probe), n < fuel → t.slot (adv t n p).j = .empty →
    (∃ m, m ≤ n ∧ t.slot (adv t m p).j = .empty ∧ SetTable.probe.go t hashAt h fuel p = some (.empty (adv t m p).j (adv t m p).dummy)) ∨
    (∃ m i, m < n ∧ t.slot (adv t m p).j = .live i ∧ t.place[i]? = some (adv t m p).j ∧ hashAt i = h ∧ SetTable.probe.go t hashAt h fuel p = some (.candidate (adv t m p).j i (adv t (m + 1) p)))
  | n, fuel + 1, p, hf, he => by
    rcases slot_cases hd p.j with e | ⟨i, e, hi⟩
    · refine .inl ⟨0, by omega, e, ?_⟩
      unfold SetTable.probe.go
      rw [e]; rfl
    · by_cases hh : hashAt i = h
      · refine .inr ⟨0, i, ?_, e, hi, hh, ?_⟩
        · rcases Nat.eq_zero_or_pos n with rfl | h0
          · have : t.slot p.j = .empty := he
            rw [e] at this; cases this
          · exact h0
        · unfold SetTable.probe.go
          rw [e]
          simp [hh, adv]
      · match n, he with
        | 0, he =>
          have : t.slot p.j = .empty := he
          rw [e] at this; cases this
        | n + 1, he =>
          have eg : SetTable.probe.go t hashAt h (fuel + 1) p = SetTable.probe.go t hashAt h fuel (t.advance p) := by
            conv => lhs; unfold SetTable.probe.go
            rw [e]
            simp [hh]
          rw [eg]
          rcases probe_spec hd hashAt h n fuel (t.advance p) (by omega) he with ⟨m, h1, h2, h3⟩ | ⟨m, i', h1, h2, h3, h4, h5⟩
          · exact .inl ⟨m + 1, by omega, h2, h3⟩
          · exact .inr ⟨m + 1, i', by omega, h2, h3, h4, h5⟩

/- a table laid anew -/
def lpp (mask : Nat) : Nat → Nat × Nat → Nat × Nat
  | 0, x => x
  | n + 1, x => lpp mask n (SetTable.leap mask x.1 x.2)
theorem lpp_add (mask : Nat) : ∀ a b x, lpp mask (a + b) x = lpp mask b (lpp mask a x)
  | 0, b, x => by simp [lpp]
  | a + 1, b, x => by rw [Nat.succ_add]; exact lpp_add mask a b _
theorem lpp_lt (mask : Nat) : ∀ n x, x.1 ≤ mask → (lpp mask n x).1 ≤ mask
  | 0, x, h => h
  | n + 1, x, h => lpp_lt mask n _ (by
    show (x.1 * 5 + 1 + x.2 / 32) % (mask + 1) ≤ mask
    have := Nat.mod_lt (x.1 * 5 + 1 + x.2 / 32) (show mask + 1 > 0 by omega); omega)
theorem lpp_zero (mask : Nat) : ∀ m x, x.2 < 32 ^ m → (lpp mask m x).2 = 0
  | 0, x, h => by show x.2 = 0; simpa using h
  | m + 1, x, h => lpp_zero mask m _ (by
    show x.2 / 32 < 32 ^ m
    exact Nat.div_lt_of_lt_mul (by rw [Nat.pow_succ] at h; omega))
theorem lpp_lp (mask : Nat) : ∀ n i, (lpp mask n (i, 0)).1 = lp (mask + 1) n i
  | 0, i => rfl
  | n + 1, i => by
    show (lpp mask n ((i * 5 + 1 + 0 / 32) % (mask + 1), 0 / 32)).1 = lp (mask + 1) n ((i * 5 + 1) % (mask + 1))
    rw [Nat.zero_div, Nat.add_zero]
    exact lpp_lp mask n _
theorem free_none {mask : Nat} {owner : Array (Option Nat)} : ∀ fuel i perturb, SetTable.layClean.free mask owner fuel i perturb = none → ∀ m, m < fuel → (owner.getD (lpp mask m (i, perturb)).1 (some 0)).isNone = false
  | fuel + 1, i, perturb, h, m, hm => by
    unfold SetTable.layClean.free at h
    split at h
    · cases h
    · rename_i hf
      cases m with
      | zero =>
        have := List.find?_eq_none.mp hf 0 (List.mem_range.mpr (by unfold SetTable.runEnd; split <;> omega))
        show (owner.getD i (some 0)).isNone = false
        rw [Nat.add_zero] at this
        cases hb : (owner.getD i (some 0)).isNone with
        | false => rfl
        | true => exact absurd hb this
      | succ m =>
        exact free_none fuel _ _ h m (by omega)
theorem free_some {mask : Nat} {owner : Array (Option Nat)} : ∀ fuel i perturb j, SetTable.layClean.free mask owner fuel i perturb = some j → owner[j]? = some none
  | fuel + 1, i, perturb, j, h => by
    unfold SetTable.layClean.free at h
    split at h
    · rename_i k hf
      cases h
      have := List.find?_some hf
      rw [Array.getD_eq_getD_getElem?] at this
      cases hk : owner[i + k]? with
      | none => rw [hk] at this; simp at this
      | some o => rw [hk] at this; simp at this; rw [this]
    · exact free_some fuel _ _ j h
theorem free_ok {mask k : Nat} (hk : mask + 1 = 2 ^ k) {owner : Array (Option Nat)} {j0 : Nat} (hj : j0 ≤ mask) (he : owner[j0]? = some none) {i perturb : Nat} (hi : i ≤ mask) (hp : perturb < 2 ^ 64) :
    ∃ j, SetTable.layClean.free mask owner (SetTable.turns mask) i perturb = some j ∧ owner[j]? = some none := by
  cases h : SetTable.layClean.free mask owner (SetTable.turns mask) i perturb with
  | some j => exact ⟨j, rfl, free_some _ _ _ _ h⟩
  | none =>
    exfalso
    have hx := lpp_lt mask 13 (i, perturb) hi
    have hz := lpp_zero mask 13 (i, perturb) (Nat.lt_of_lt_of_le hp (by decide))
    obtain ⟨n, n1, n2⟩ := lp_all (k := k) (x := (lpp mask 13 (i, perturb)).1) (y := j0) (by omega) (by omega)
    have := free_none _ _ _ h (13 + n) (by unfold SetTable.turns; omega)
    rw [lpp_add] at this
    have e : lpp mask 13 (i, perturb) = ((lpp mask 13 (i, perturb)).1, 0) := by rw [← hz]
    rw [e, lpp_lp, hk, n2, Array.getD_eq_getD_getElem?, he] at this
    simp at this
def liveOf (mask : Nat) (owner : Array (Option Nat)) : List (Nat × Nat) := (List.range (mask + 1)).filterMap fun j => (owner.getD j none).map (j, ·)
theorem fm_set {β : Type} (f g : Nat → Option β) (j : Nat) (b : β) (hf : f j = none) (hg : g j = some b) (hs : ∀ z, z ≠ j → f z = g z) : ∀ l : List Nat, l.Nodup → (j ∈ l → (l.filterMap g).length = (l.filterMap f).length + 1) ∧ (j ∉ l → l.filterMap g = l.filterMap f)
  | [], _ => ⟨(fun h => nomatch h), (fun _ => rfl)⟩
  | a :: r, nd => by
    have nd' := List.nodup_cons.mp nd
    obtain ⟨i1, i2⟩ := fm_set f g j b hf hg hs r nd'.2
    constructor
    · intro hm
      by_cases e : a = j
      · subst e
        rw [List.filterMap_cons, List.filterMap_cons, hf, hg, i2 nd'.1]; simp
      · have hm' : j ∈ r := by
          rcases List.mem_cons.mp hm with e' | h
          · exact absurd e'.symm e
          · exact h
        rw [List.filterMap_cons, List.filterMap_cons, hs a e]
        cases g a with
        | none => exact i1 hm'
        | some x => simp [i1 hm']
    · intro hm
      have e : a ≠ j := fun e => hm (by rw [e]; exact .head _)
      rw [List.filterMap_cons, List.filterMap_cons, hs a e, i2 fun h => hm (.tail _ h)]
theorem live_set {mask : Nat} {owner : Array (Option Nat)} {j k : Nat} (hsz : owner.size = mask + 1) (he : owner[j]? = some none) : (liveOf mask (owner.setIfInBounds j (some k))).length = (liveOf mask owner).length + 1 := by
  have hj : j < owner.size := (Array.getElem?_eq_some_iff.mp he).1
  refine (fm_set (fun j => (owner.getD j none).map (j, ·)) (fun z => ((owner.setIfInBounds j (some k)).getD z none).map (z, ·)) j (j, k) ?_ ?_ ?_ _ List.nodup_range).1 (List.mem_range.mpr (by omega))
  · rw [Array.getD_eq_getD_getElem?, he]; rfl
  · rw [Array.getD_eq_getD_getElem?, Array.getElem?_setIfInBounds_self_of_lt hj]; rfl
  · intro z hz
    rw [Array.getD_eq_getD_getElem?, Array.getD_eq_getD_getElem?, Array.getElem?_setIfInBounds_ne (Ne.symm hz)]
theorem live_full {mask : Nat} {owner : Array (Option Nat)} (hsz : owner.size = mask + 1) (hl : (liveOf mask owner).length ≤ mask) : ∃ j, j ≤ mask ∧ owner[j]? = some none := by
  apply Classical.byContradiction
  intro hc
  have hall : ∀ j, j ≤ mask → ∃ x, owner[j]? = some (some x) := by
    intro j hj
    have hlt : j < owner.size := by omega
    cases e : owner[j] with
    | none => exact absurd ⟨j, hj, by rw [Array.getElem?_eq_getElem hlt, e]⟩ hc
    | some x => exact ⟨x, by rw [Array.getElem?_eq_getElem hlt, e]⟩
  have : mask + 1 ≤ ((liveOf mask owner).map (·.1)).length := cover_len _ _ fun j hj => by
    obtain ⟨x, hx⟩ := hall j (by omega)
    refine List.mem_map.mpr ⟨(j, x), List.mem_filterMap.mpr ⟨j, List.mem_range.mpr hj, ?_⟩, rfl⟩
    rw [Array.getD_eq_getD_getElem?, hx]; rfl
  rw [List.length_map] at this
  omega
theorem bits_lt (h : Int) : SetTable.bits h < 2 ^ 64 := by
  unfold SetTable.bits
  have h1 := Int.emod_nonneg h (show (2 ^ 64 : Int) ≠ 0 by decide)
  have h2 := Int.emod_lt_of_pos h (show (0 : Int) < 2 ^ 64 by decide)
  omega
theorem lay_fold {mask k : Nat} (hk : mask + 1 = 2 ^ k) : ∀ (hs : List Int) (owner : Array (Option Nat)) (n : Nat), owner.size = mask + 1 → (liveOf mask owner).length = n → (∀ p ∈ liveOf mask owner, p.2 < n) → n + hs.length ≤ mask →
    ∃ owner' : Array (Option Nat), hs.foldl (fun acc h => do
      let (owner, k) ← acc
      let j ← SetTable.layClean.free mask owner (SetTable.turns mask) (SetTable.bits h % (mask + 1)) (SetTable.bits h)
      pure (owner.setIfInBounds j (some k), k + 1)) (some (owner, n)) = some (owner', n + hs.length) ∧ owner'.size = mask + 1 ∧ (liveOf mask owner').length = n + hs.length ∧ ∀ p ∈ liveOf mask owner', p.2 < n + hs.length
  | [], owner, n, h1, h2, h3, h4 => ⟨owner, by simp, h1, by simpa using h2, by simpa using h3⟩
  | h :: hs, owner, n, h1, h2, h3, h4 => by
    rw [List.length_cons] at h4
    obtain ⟨j0, hj0, he0⟩ := live_full h1 (by omega)
    have hb := Nat.mod_lt (SetTable.bits h) (show mask + 1 > 0 by omega)
    obtain ⟨j, hj, he⟩ := free_ok hk hj0 he0 (i := SetTable.bits h % (mask + 1)) (perturb := SetTable.bits h) (by omega) (bits_lt h)
    have hsz' : (owner.setIfInBounds j (some n)).size = mask + 1 := by rw [Array.size_setIfInBounds]; exact h1
    obtain ⟨owner', g1, g2, g3, g4⟩ := lay_fold hk hs (owner.setIfInBounds j (some n)) (n + 1) hsz' (by rw [live_set h1 he, h2]) (by
      intro p hp
      obtain ⟨z, hz, hzz⟩ := List.mem_filterMap.mp hp
      by_cases e : z = j
      · subst e
        rw [Array.getD_eq_getD_getElem?, Array.getElem?_setIfInBounds_self_of_lt (Array.getElem?_eq_some_iff.mp he).1] at hzz
        simp at hzz
        subst hzz; exact Nat.lt_succ_self _
      · rw [Array.getD_eq_getD_getElem?, Array.getElem?_setIfInBounds_ne (Ne.symm e), ← Array.getD_eq_getD_getElem?] at hzz
        exact Nat.lt_succ_of_lt (h3 p (List.mem_filterMap.mpr ⟨z, hz, hzz⟩))) (by omega)
    refine ⟨owner', ?_, g2, by rw [g3, List.length_cons]; omega, fun p hp => by have := g4 p hp; rw [List.length_cons]; omega⟩
    rw [List.foldl_cons]
    show List.foldl _ ((SetTable.layClean.free mask owner (SetTable.turns mask) (SetTable.bits h % (mask + 1)) (SetTable.bits h)).bind fun j => some (owner.setIfInBounds j (some n), n + 1)) hs = _
    rw [hj]
    show List.foldl _ (some (owner.setIfInBounds j (some n), n + 1)) hs = _
    rw [g1, List.length_cons]
    congr 2; omega
theorem live_nil (mask : Nat) : liveOf mask (Array.replicate (mask + 1) none) = [] := by
  unfold liveOf
  rw [List.filterMap_eq_nil_iff]
  intro j hj
  rw [Array.getD_eq_getD_getElem?, Array.getElem?_replicate, if_pos (List.mem_range.mp hj)]
  rfl
theorem laid_ok {mask k finger moves : Nat} {led plain : Bool} (hk : mask + 1 = 2 ^ k) {hashes : Array Int} (hn : hashes.size ≤ mask) : ∃ t order, SetTable.laid mask finger moves led plain hashes = some (t, order) ∧ t.mask = mask ∧ t.place.size = hashes.size ∧ t.dummies = #[] ∧ order.size = hashes.size ∧ ∀ i ∈ order, i < hashes.size := by
  obtain ⟨owner, h1, h2, h3, h4⟩ := lay_fold hk hashes.toList (Array.replicate (mask + 1) none) 0 (by simp) (by rw [live_nil]; rfl) (by rw [live_nil]; intro p hp; cases hp) (by simpa using hn)
  have eL : hashes.toList.length = hashes.size := Array.length_toList
  rw [eL, Nat.zero_add] at h1 h3 h4
  refine ⟨{ mask, place := ((liveOf mask owner).map (·.1)).toArray, dummies := #[], finger, led, moves, plain }, ((liveOf mask owner).map (·.2)).toArray, ?_, rfl, by simp [h3], rfl, by simp [h3], fun i hi => ?_⟩
  · unfold SetTable.laid SetTable.layClean
    rw [← Array.foldl_toList, h1]
    rfl
  · simp only [List.mem_toArray] at hi
    obtain ⟨p, hp, rfl⟩ := List.mem_map.mp hi
    exact h4 p hp
theorem pick_all {α : Type} (es : Array α) : ∀ (l : List Nat), (∀ i ∈ l, i < es.size) → (l.filterMap (es[·]?)).length = l.length
  | [], _ => rfl
  | a :: r, h => by
    have ha := h a (.head _)
    rw [List.filterMap_cons, Array.getElem?_eq_getElem ha]
    simp [pick_all es r fun i hi => h i (.tail _ hi)]
theorem sizeAbove_go : ∀ fuel k n, n < 2 ^ (k + fuel) → ∃ m, SetTable.sizeAbove.go n fuel (2 ^ k) = 2 ^ m ∧ n < 2 ^ m ∧ (2 ^ m = 2 ^ k ∨ 2 ^ m ≤ 2 * n)
  | 0, k, n, h => ⟨k, rfl, by simpa using h, .inl rfl⟩
  | fuel + 1, k, n, h => by
    unfold SetTable.sizeAbove.go
    split
    · rename_i hle
      rw [show 2 ^ k * 2 = 2 ^ (k + 1) by rw [Nat.pow_succ]]
      obtain ⟨m, h1, h2, h3⟩ := sizeAbove_go fuel (k + 1) n (by rw [show k + 1 + fuel = k + (fuel + 1) by omega]; exact h)
      refine ⟨m, h1, h2, .inr ?_⟩
      rcases h3 with e | e
      · rw [e, Nat.pow_succ]; omega
      · exact e
    · exact ⟨k, rfl, by omega, .inl rfl⟩
theorem sizeAbove_ok {n : Nat} (hn : n < 2 ^ 60) : ∃ m, SetTable.sizeAbove n = 2 ^ m ∧ n < 2 ^ m ∧ (2 ^ m = 8 ∨ 2 ^ m ≤ 2 * n) := by
  have := sizeAbove_go 64 3 n (Nat.lt_of_lt_of_le hn (Nat.pow_le_pow_right (by decide) (by decide)))
  exact this
end Mine

-- part St2
set_option autoImplicit false
set_option linter.unusedVariables false
namespace Mine
open PySem PyProof.Rows

structure TabOk (t : SetTable) (n : Nat) : Prop where
  dm : t.dummies = #[]
  pl : t.place.size = n
  le : n ≤ t.mask
  pw : ∃ k, 0 < k ∧ t.mask + 1 = 2 ^ k
theorem TabOk.fits {t : SetTable} {n : Nat} (h : TabOk t n) : t.fits n = true := by
  unfold SetTable.fits SetTable.fill
  rw [h.dm, h.pl]
  have := h.le
  simp [this]
theorem TabOk.gave {t : SetTable} {n : Nat} (h : TabOk t n) : t.gaveWay = false := by
  obtain ⟨k, h0, hk⟩ := h.pw
  unfold SetTable.gaveWay
  obtain ⟨j, rfl⟩ : ∃ j, k = j + 1 := ⟨k - 1, by omega⟩
  rw [Nat.pow_succ] at hk
  have : t.mask % 2 = 1 := by omega
  simp [this]
abbrev IsTk (prog : Program) (w : World) (h : Heap) (ks : List Int) (a : Addr) : Prop := IsTupleKey (intKind prog w) h ks a
section
variable {prog : Program} {w : World} {A : Around} {E : Value → Shared → Prop} {s : Shared}
theorem items_ints {ks : List Int} {vs : List Value} (h : ItemsAre (intKind prog w) ks vs) : ∀ v ∈ vs, ∃ i t, v = .int i t := by
  induction h with
  | nil => intro v hv; cases hv
  | @cons k v ks vs h1 _ ih =>
    intro x hx
    rcases List.mem_cons.mp hx with rfl | hx
    · cases x <;> first | exact ⟨_, _, rfl⟩ | (simp [intKind, Value.isInt] at h1)
    · exact ih x hx
theorem ofA_tuple {ks : List Int} {a : Addr} {Q : Bool → Shared → Prop} {n : Nat} (hk : IsTk prog w s.heap ks a) (h : Q false s) : wpAny (model prog w) A (ofAClassStatement (n + 1) (.ref a)) Q E s := by
  have hT := hk.typeIs
  obtain ⟨o, items, m, ho, _, hd, hi⟩ := hk
  unfold ofAClassStatement
  refine wpAny_bind (wpAny_typeOf hT ?_)
  dsimp only
  refine wpAny_bind (wpAny_pure ?_)
  simp only [beq_self_eq_true, if_true, Bool.not_true, Bool.false_eq_true, if_false]
  refine wpAny_bind (wpAny_seqItems ho hd ?_)
  dsimp only
  rw [← Array.forIn_toList]
  refine wpAny_bind (wpAny_forIn_list _ (fun rest r s' => r.1 = none ∧ s' = s ∧ ∀ v ∈ rest, ∃ i t, v = .int i t) _ ?_ ?_ _ _ ⟨rfl, rfl, items_ints hi⟩)
  · rintro v rest r s' ⟨hr, rfl, hall⟩
    obtain ⟨i, t, rfl⟩ := hall v (.head _)
    refine wpAny_bind (wpAny_of_eq (a := false) (by cases n <;> rfl) ?_)
    simp only [Bool.false_eq_true, if_false]
    exact wpAny_pure ⟨rfl, rfl, fun v hv => hall v (.tail _ hv)⟩
  · rintro ⟨r1, r2⟩ s' ⟨hr, rfl, _⟩
    simp only at hr
    subst hr
    exact wpAny_pure h
theorem seen_tuples {ks : List Int} {a : Addr} {Q : Bool → Shared → Prop} {ys : List Value} (hk : IsTk prog w s.heap ks a) (hy : ∀ y ∈ ys, ∃ b ks', y = .ref b ∧ IsTk prog w s.heap ks' b) (h : Q false s) :
    wpAny (model prog w) A (searchCouldBeSeen (.ref a) ys) Q E s := by
  unfold searchCouldBeSeen
  refine wpAny_bind (wpAny_forIn_list _ (fun rest r s' => r.1 = none ∧ s' = s ∧ ∀ y ∈ rest, ∃ b ks', y = .ref b ∧ IsTk prog w s.heap ks' b) _ ?_ ?_ _ _ ⟨rfl, rfl, hy⟩)
  · rintro v rest r s' ⟨hr, rfl, hall⟩
    obtain ⟨b, ks', rfl, hb⟩ := hall v (.head _)
    dsimp only
    split
    · exact wpAny_pure ⟨rfl, rfl, fun v hv => hall v (.tail _ hv)⟩
    · refine wpAny_bind (wpAny_eqIsQuiet_tuple hk ?_)
      simp only [Bool.not_true, Bool.false_eq_true, if_false]
      refine wpAny_bind (wpAny_eqIsQuiet_tuple hb ?_)
      simp only [Bool.not_true, Bool.false_eq_true, if_false]
      refine wpAny_bind (ofA_tuple hk ?_)
      simp only [Bool.false_eq_true, if_false]
      refine wpAny_bind (ofA_tuple hb ?_)
      simp only [Bool.false_eq_true, if_false]
      exact wpAny_pure ⟨rfl, rfl, fun v hv => hall v (.tail _ hv)⟩
  · rintro ⟨r1, r2⟩ s' ⟨hr, rfl, _⟩
    simp only at hr
    subst hr
    exact wpAny_pure h
theorem search_new {S a : Addr} {o : Obj} {es : Array (Int × Value)} {ep : Nat} {t : SetTable} {ks : List Int} {hh : Int} {Q : SetFound → Shared → Prop} (ho : s.heap.get? S = some o) (hd : o.data = .set es ep t) (ok : TabOk t es.size) (hu : A.units < cLine)
    (hk : IsTk prog w s.heap ks a) (hes : ∀ e ∈ es, ∃ b ks', e.2 = .ref b ∧ IsTk prog w s.heap ks' b ∧ ks' ≠ ks) (hQ : ∀ j, Q (.free j false) s) :
    ∀ (n fuel : Nat) (stand : Option SetTable.Probe), n < fuel → n < 10 * SetTable.turns t.mask → PrOk t (stand.getD (t.probeStart hh)) → t.slot (adv t n (stand.getD (t.probeStart hh))).j = .empty →
      wpAny (model prog w) A (setSearchFrom S (.ref a) hh true fuel stand) Q E s := by
  intro n
  induction n using Nat.strongRecOn with
  | _ n ih =>
    intro fuel stand hf hn pok he
    obtain ⟨fuel, rfl⟩ : ∃ f, fuel = f + 1 := ⟨fuel - 1, by omega⟩
    unfold setSearchFrom
    refine wpAny_bind (wpAny_setState_of ho hd ok.fits ?_)
    dsimp only
    rw [ok.gave]
    simp only [Bool.false_eq_true, if_false]
    have P := fun hashAt => probe_spec ok.dm hashAt hh n (10 * SetTable.turns t.mask) (stand.getD (t.probeStart hh)) hn he
    rcases P _ with ⟨m, hm, e1, e2⟩ | ⟨m, i, hm, e1, e3, e4, e2⟩
    · have e2' := e2
      rw [show SetTable.probe.go t _ hh (10 * SetTable.turns t.mask) (stand.getD (t.probeStart hh)) = t.probe _ hh (stand.getD (t.probeStart hh)) from rfl] at e2'
      rw [e2']
      dsimp only
      rw [(adv_oks m pok).dm]
      exact wpAny_pure (hQ _)
    · have e2' := e2
      rw [show SetTable.probe.go t _ hh (10 * SetTable.turns t.mask) (stand.getD (t.probeStart hh)) = t.probe _ hh (stand.getD (t.probeStart hh)) from rfl] at e2'
      rw [e2']
      dsimp only
      have hi : i < es.size := by rw [← ok.pl]; exact (Array.getElem?_eq_some_iff.mp e3).1
      have hei : es[i]? = some es[i] := Array.getElem?_eq_getElem hi
      obtain ⟨b, ks', hb, hkb, hne⟩ := hes es[i] (Array.getElem_mem hi)
      have fin : wpAny (model prog w) A (do
          let some (_, y) := es[i]? | unsupported "internal:set-entry"
          let equal ← holding [y] (eqBool y (.ref a))
          let (es', _, t') ← setState S
          if true && equal then return .there none
          let some same := t'.sameMemory t.moves t.mask | unsupported "set.changed-during-lookup:is-the-new-block-at-the-old-address"
          let still ← match (if same then t'.slot (adv t m (stand.getD (t.probeStart hh))).j else .empty) with
            | .live i' => match es'[i']? with
              | some (_, y') => do pure (if ← isSame y' y then some i' else none)
              | none => pure none
            | _ => pure none
          match still with
          | none => rule "set.search.anew"; setSearchFrom S (.ref a) hh true fuel none
          | some i' => if equal then return .there (some i') else setSearchFrom S (.ref a) hh true fuel (some (adv t (m + 1) (stand.getD (t.probeStart hh))))) Q E s := by
        rw [hei]
        dsimp only
        rw [hb]
        refine wpAny_bind (wpAny_holding (wpAny_eqBool_tuple hu hkb hk ?_))
        rw [decide_eq_false hne]
        refine wpAny_bind (wpAny_setState_of ho hd ok.fits ?_)
        dsimp only
        simp only [Bool.and_false, Bool.false_eq_true, if_false]
        have sm : t.sameMemory t.moves t.mask = some true := by unfold SetTable.sameMemory; simp
        rw [sm]
        dsimp only
        rw [if_pos rfl, e1]
        dsimp only
        rw [hei]
        dsimp only
        rw [hb]
        refine wpAny_bind (wpAny_isSame_ref_self (wpAny_bind (wpAny_pure ?_)))
        simp only [if_true]
        refine ih (n - (m + 1)) (by omega) fuel _ (by omega) (by omega) (adv_oks (m + 1) pok) ?_
        show t.slot (adv t (n - (m + 1)) (adv t (m + 1) (stand.getD (t.probeStart hh)))).j = _
        rw [← adv_add, show m + 1 + (n - (m + 1)) = n by omega]
        exact he
      by_cases hl : t.led = true
      · rw [hl]
        simp only [Bool.not_true, Bool.false_eq_true, if_false]
        exact fin
      · rw [Bool.not_eq_true] at hl
        rw [hl]
        simp only [Bool.not_false, if_true]
        refine wpAny_bind (seen_tuples hk ?_ ?_)
        · intro y hy
          obtain ⟨e, he', rfl⟩ := List.mem_map.mp hy
          have := (Array.mem_filter.mp (Array.mem_toList_iff.mp he')).1
          obtain ⟨b', ks2, q1, q2, _⟩ := hes e this
          exact ⟨b', ks2, q1, q2⟩
        · simp only [Bool.false_eq_true, if_false]
          exact fin
end
end Mine

-- part St3
set_option autoImplicit false
set_option linter.unusedVariables false
namespace Mine
open PySem PyProof.Rows

/-- a set's table, roomy -/
structure TabR (t : SetTable) (n : Nat) : Prop where
  ok : TabOk t n
  room : n * 5 < t.mask * 3
  sm : t.mask ≤ 8191
theorem TabR.fresh (finger moves : Nat) (led : Bool) : TabR (.fresh finger moves led) 0 := ⟨⟨rfl, rfl, Nat.zero_le _, ⟨3, by decide, rfl⟩⟩, (show 0 * 5 < 7 * 3 by decide), (show 7 ≤ 8191 by decide)⟩
theorem start_ok (t : SetTable) (h : Int) : PrOk t (t.probeStart h) := by
  refine ⟨?_, run_le _ _, rfl⟩
  show SetTable.bits h % (t.mask + 1) ≤ t.mask
  have := Nat.mod_lt (SetTable.bits h) (show t.mask + 1 > 0 by omega)
  omega
section
variable {prog : Program} {w : World} {A : Around} {E : Value → Shared → Prop} {s : Shared}
theorem hbv_tuple {ks : List Int} {a : Addr} {Q : Bool → Shared → Prop} {n : Nat} (hk : IsTk prog w s.heap ks a) (h : Q true s) : wpAny (model prog w) A (hashByValue (n + 1) (.ref a)) Q E s := by
  have hT := hk.typeIs
  obtain ⟨o, items, m, ho, _, hd, hi⟩ := hk
  unfold hashByValue
  refine wpAny_bind (wpAny_specialOf hT F.slot_tuple_hash.lookup ?_)
  dsimp only
  refine wpAny_bind (wpAny_seqItems ho hd ?_)
  show wpAny _ _ (forIn items _ _ >>= _) _ _ s
  rw [← Array.forIn_toList]
  refine wpAny_bind (wpAny_forIn_list _ (fun rest r s' => r.1 = none ∧ s' = s ∧ ∀ v ∈ rest, ∃ i t, v = .int i t) _ ?_ ?_ _ _ ⟨rfl, rfl, items_ints hi⟩)
  · rintro v rest r s' ⟨hr, rfl, hall⟩
    obtain ⟨i, t, rfl⟩ := hall v (.head _)
    refine wpAny_bind (wpAny_of_eq (a := true) (by cases n <;> rfl) ?_)
    simp only [Bool.not_true, Bool.false_eq_true, if_false]
    exact wpAny_pure ⟨rfl, rfl, fun v hv => hall v (.tail _ hv)⟩
  · rintro ⟨r1, r2⟩ s' ⟨hr, rfl, _⟩
    simp only at hr
    subst hr
    exact wpAny_pure h
abbrev setObj (es : Array (Int × Value)) (ep : Nat) (t : SetTable) : Obj := ⟨.type "set", none, .set es ep t, #[]⟩
theorem pow13 {k n : Nat} (h : 2 ^ k ≤ n) (hn : n ≤ 12800) : 2 ^ k ≤ 8192 := by
  by_cases hk : k ≤ 13
  · exact Nat.pow_le_pow_right (by decide) hk
  · have := Nat.pow_le_pow_right (n := 2) (by decide) (show 14 ≤ k by omega)
    have e : (2 : Nat) ^ 14 = 16384 := by decide
    omega
theorem relay {S : Addr} {es : Array (Int × Value)} {ep : Nat} {t : SetTable} {Q : Unit → Shared → Prop} (ho : s.heap.get? S = some (setObj es ep t)) (ok : TabOk t es.size) (h0 : 0 < es.size) (hn : es.size ≤ 1600)
    (hQ : ∀ h' es' ep' t', h'.get? S = some (setObj es' ep' t') → Heap.SameBut S s.heap h' → TabR t' es'.size → es'.size = es.size → (∀ e ∈ es', e ∈ es) → Q () { s with heap := h' }) :
    wpAny (model prog w) A (setRelay S (SetTable.grown es.size)) Q E s := by
  have eg : SetTable.grown es.size = es.size * 4 := by unfold SetTable.grown; rw [if_neg (by omega)]
  rw [eg]
  obtain ⟨m, m1, m2, m3⟩ := sizeAbove_ok (n := es.size * 4) (by omega)
  have m4 : 2 ^ m ≤ 8192 := by
    rcases m3 with e | e
    · omega
    · exact pow13 e (by omega)
  have m0 : 0 < m := by
    rcases Nat.eq_zero_or_pos m with rfl | h
    · simp at m2; omega
    · exact h
  unfold setRelay
  refine wpAny_bind (wpAny_setState_of ho rfl ok.fits ?_)
  dsimp only
  rw [m1, if_neg (by unfold sizeLine; omega)]
  have hz : (es.map (·.1)).size = es.size := Array.size_map ..
  obtain ⟨t', order, l1, l2, l3, l4, l5, l6⟩ := laid_ok (mask := 2 ^ m - 1) (k := m) (finger := t.finger) (moves := t.movedTo (2 ^ m - 1)) (led := t.led) (plain := t.plain) (by omega) (hashes := es.map (·.1)) (by omega)
  rw [hz] at l3 l5 l6
  have e1 : t.relaid (es.map (·.1)) (es.size * 4) = some (t', order) := by unfold SetTable.relaid; rw [m1]; exact l1
  rw [e1]
  have hsz : (order.filterMap (es[·]?)).size = es.size := by
    rw [← Array.length_toList, Array.toList_filterMap, pick_all es order.toList (fun i hi => l6 i (Array.mem_toList_iff.mp hi)), Array.length_toList, l5]
  refine wpAny_bind ?_
  show wpAny _ _ (if ((order.filterMap (es[·]?)).size != es.size) = true then _ else _) _ _ s
  rw [hsz, if_neg (by simp)]
  refine wpAny_pure ?_
  refine wpAny_storeSet_of ho rfl ?_ (by rw [hsz]; unfold sizeLine; omega)
  have hf := Heap.get?_update_self (Obj.putSet (order.filterMap (es[·]?)) t') ho rfl
  refine hQ _ _ _ _ hf (Heap.SameBut.update ..) ?_ hsz ?_
  · rw [hsz]
    exact ⟨⟨l4, l3, by omega, ⟨m, m0, by omega⟩⟩, by omega, by omega⟩
  · intro e he
    obtain ⟨i, hi, hie⟩ := Array.mem_filterMap.mp he
    exact Array.mem_of_getElem? hie
theorem add_new {S a : Addr} {es : Array (Int × Value)} {ep : Nat} {t : SetTable} {ks : List Int} {Q : Bool → Shared → Prop} (ho : s.heap.get? S = some (setObj es ep t)) (ok : TabR t es.size) (hu : A.units < cLine) (hn : es.size + 1 ≤ 1600)
    (hk : IsTk prog w s.heap ks a) (hes : ∀ e ∈ es, ∃ b ks', e.2 = .ref b ∧ IsTk prog w s.heap ks' b ∧ ks' ≠ ks)
    (hQ : ∀ h' tk es' ep' t', h'.get? S = some (setObj es' ep' t') → Heap.SameBut S s.heap h' → s.toks ≤ tk → TabR t' es'.size → es'.size = es.size + 1 → (∀ e ∈ es', e.2 = .ref a ∨ e ∈ es) → Q true { s with heap := h', toks := tk }) :
    wpAny (model prog w) A (setAdd S (.ref a)) Q E s := by
  unfold setAdd
  refine wpAny_holding ?_
  refine wpAny_bind (wpAny_pyHash_tuple hu hk ?_)
  unfold setAddHashed
  refine wpAny_holding ?_
  generalize tupleKeyHash (intKind prog w) ks = hh
  generalize hs1 : ({ s with toks := s.toks + (ks.length + 1) } : Shared) = s1
  have eh : s1.heap = s.heap := by rw [← hs1]
  rw [← eh] at ho hk hes hQ
  have fin : ∀ h', ({ s1 with heap := h' } : Shared) = { s with heap := h', toks := s.toks + (ks.length + 1) } := fun h' => by rw [← hs1]
  unfold setAddHashedIn
  refine wpAny_bind (wpAny_setState_of ho rfl ok.ok.fits ?_)
  dsimp only
  have hb : byScan (.ref a) es = false := rfl
  rw [hb]
  simp only [Bool.false_eq_true, if_false]
  obtain ⟨k, k0, hk2⟩ := ok.ok.pw
  obtain ⟨n, n1, n2⟩ := reach hk2 ok.ok.dm (by rw [ok.ok.pl]; exact ok.ok.le) (start_ok t hh) (show (t.probeStart hh).perturb < 2 ^ 64 from bits_lt hh)
  refine wpAny_bind (search_new (Q := fun r s' => _) ho rfl ok.ok hu hk hes (fun j => ?_) n 100000 none (by have := ok.sm; unfold SetTable.turns at n1; omega) n1 (start_ok t hh) n2)
  dsimp only
  refine wpAny_bind (wpAny_setState_of ho rfl ok.ok.fits ?_)
  dsimp only
  have hp := below_le t.place j
  rw [ok.ok.pl] at hp
  have esz := insertAt_size es (SetTable.below t.place j) (hh, Value.ref a) hp
  have go : ∀ t2 : SetTable, t2.mask = t.mask → t2.place.size = es.size + 1 → t2.dummies = #[] →
      wpAny (model prog w) A (do storeSet S (SetTable.insertAt es (SetTable.below t.place j) (hh, .ref a)) t2
                                 if !false && t2.tooFull then setRelay S (SetTable.grown (es.size + 1))
                                 return true) Q E s1 := by
    intro t2 q1 q2 q3
    have ok2 : TabOk t2 (es.size + 1) := ⟨q3, q2, by have := ok.room; omega, by rw [q1]; exact ok.ok.pw⟩
    have hf := Heap.get?_update_self (Obj.putSet (SetTable.insertAt es (SetTable.below t.place j) (hh, Value.ref a)) t2) ho rfl
    have hsb := Heap.SameBut.update s1.heap S (Obj.putSet (SetTable.insertAt es (SetTable.below t.place j) (hh, Value.ref a)) t2)
    have hin : ∀ e ∈ SetTable.insertAt es (SetTable.below t.place j) (hh, Value.ref a), e.2 = .ref a ∨ e ∈ es := by
      intro e he
      rcases insertAt_mem he with rfl | he
      · exact .inl rfl
      · exact .inr he
    refine wpAny_bind (wpAny_storeSet_of ho rfl ?_ (by rw [esz]; unfold sizeLine; omega))
    simp only [Bool.not_false, Bool.true_and]
    by_cases hfull : t2.tooFull = true
    · rw [if_pos hfull]
      rw [← esz]
      refine wpAny_bind (relay (s := { s1 with heap := s1.heap.update S (Obj.putSet (SetTable.insertAt es (SetTable.below t.place j) (hh, Value.ref a)) t2) }) hf (by rw [esz]; exact ok2) (by omega) (by omega) fun h' es' ep' t' r1 r2 r3 r4 r5 => wpAny_pure ?_)
      have := hQ h' (s.toks + (ks.length + 1)) es' ep' t' r1 (hsb.trans r2) (by omega) r3 (by omega) (fun e he => hin e (r5 e he))
      rw [← fin] at this
      exact this
    · rw [if_neg hfull]
      refine wpAny_bind (wpAny_pure (wpAny_pure ?_))
      have hroom : (es.size + 1) * 5 < t2.mask * 3 := by
        unfold SetTable.tooFull SetTable.fill at hfull
        rw [q3, q2] at hfull
        simp at hfull
        omega
      have := hQ _ (s.toks + (ks.length + 1)) _ _ t2 hf hsb (by omega) (by rw [esz]; exact ⟨ok2, hroom, by rw [q1]; exact ok.sm⟩) esz hin
      rw [← fin] at this
      exact this
  have pz : (t.put j).1.place.size = es.size + 1 := by
    show (SetTable.insertAt t.place (SetTable.below t.place j) j).size = _
    rw [insertAt_size _ _ _ (below_le _ _), ok.ok.pl]
  have pd : (t.put j).1.dummies = #[] := by
    show (if SetTable.has t.dummies j = true then SetTable.eraseAt t.dummies (SetTable.below t.dummies j) else t.dummies) = #[]
    rw [ok.ok.dm]
    split
    · rfl
    · rfl
  by_cases hpl : t.plain = true
  · have e : (t.put j).1.plain = true := hpl
    rw [e, if_pos rfl]
    refine wpAny_bind (hbv_tuple hk ?_)
    rw [if_pos rfl]
    exact go _ rfl pz pd
  · have e : (t.put j).1.plain = false := by
      show t.plain = false
      simpa using hpl
    rw [e]
    simp only [Bool.false_eq_true, if_false]
    refine wpAny_bind (wpAny_pure ?_)
    rw [if_pos rfl]
    exact go _ rfl pz pd
end
end Mine

-- part St4
set_option autoImplicit false
set_option linter.unusedVariables false
namespace Mine
open PySem PyProof.Rows
/-- the set of the first i tuples -/
def SetT (vals : Nat → Value) (i : Nat) (S : Addr) (h : Heap) : Prop := ∃ es ep t, h.get? S = some (setObj es ep t) ∧ TabR t es.size ∧ es.size = i ∧ ∀ e ∈ es, ∃ j, j < i ∧ e.2 = vals j
section
variable {prog : Program} {w : World} {A : Around} {R : Result → Shared → Prop} {I : Addr} {fp wr : List Addr} {G : Array GenState → Array GenState → Prop} {n : Nat} {P : Nat → Value → Prop} {St : Nat → Shared → Prop}
theorem tuples_loop (W : WalksS prog w A.in1 I fp wr G n P St) (S : Addr) (hSf : S ∉ fp) (vals : Nat → Value) (ks : Nat → List Int) (hval : ∀ i v, P i v → v = vals i) (hn : n ≤ 1600) (hu : A.units + 1 < cLine)
    (hks : ∀ i j, i < j → j < n → ks i ≠ ks j) :
    ∀ (k i : Nat) (s : Shared), n - i = k → i ≤ n → St i s → SetT vals i S s.heap → (∀ j, j < n → ∃ b, vals j = .ref b ∧ b ∉ S :: wr ∧ IsTk prog w s.heap (ks j) b) →
      (∀ s', Moved (S :: wr) G s s' → SetT vals n S s'.heap → R (.ok (.ret .none)) s') →
      codeAny (model prog w) A (.builtin "set.update.loop" ⟨[.ref S, .ref I], []⟩) R s := by
  have hSw : S ∉ wr := fun h => hSf (W.sub _ h)
  have hsub : ∀ b ∈ wr, b ∈ S :: wr := fun b hb => List.mem_cons_of_mem _ hb
  have keepTk : ∀ {h h' : Heap} {j : Nat} {b : Addr}, (∀ b o, b ∉ S :: wr → h.get? b = some o → h'.get? b = some o) → b ∉ S :: wr → IsTk prog w h (ks j) b → IsTk prog w h' (ks j) b := by
    rintro h h' j b hk hb ⟨o, items, m, ho, r⟩
    exact ⟨o, items, m, hk b o hb ho, r⟩
  intro k
  induction k with
  | zero =>
    intro i s hk hi hst hS htk hR
    have hin : i = n := by omega
    subst hin
    refine codeAny_builtin F.entry_set_update_loop ?_
    rw [Around.under_plainId F.plain_set_update_loop _]
    show wpAny _ A.in1 (pyNext (.ref I) >>= _) _ _ s
    refine wpAny_bind (W.done s _ _ hst fun s' hm => ?_)
    show wpAny _ A.in1 (ret Value.none) _ _ s'
    exact wpAny_pure (hR s' (hm.mono hsub) (by
      obtain ⟨es, ep, t, ho, rest⟩ := hS
      exact ⟨es, ep, t, hm.heap S _ hSw ho, rest⟩))
  | succ k ih =>
    intro i s hk hi hst hS htk hR
    have hlt : i < n := by omega
    refine codeAny_builtin F.entry_set_update_loop ?_
    rw [Around.under_plainId F.plain_set_update_loop _]
    show wpAny _ A.in1 (pyNext (.ref I) >>= _) _ _ s
    refine wpAny_bind (W.item i s _ _ hlt hst fun v s' hP hst' hm => ?_)
    obtain rfl := hval i v hP
    have hm' := hm.mono hsub
    have htk' : ∀ j, j < n → ∃ b, vals j = .ref b ∧ b ∉ S :: wr ∧ IsTk prog w s'.heap (ks j) b := fun j hj =>
      let ⟨b, h1, h2, h3⟩ := htk j hj
      ⟨b, h1, h2, keepTk hm'.heap h2 h3⟩
    obtain ⟨es, ep, t, ho, hT, hsz, hel⟩ := hS
    have ho' := hm.heap S _ hSw ho
    obtain ⟨b, hb1, hb2, hb3⟩ := htk' i hlt
    rw [hb1]
    show wpAny _ A.in1 (holding [Value.ref b] (setAdd S (.ref b)) >>= _) _ _ s'
    refine wpAny_bind (wpAny_holding ?_)
    refine add_new (A := A.in1) ho' hT (show A.units + 1 < cLine from hu) (by omega) hb3 (fun e he => ?_) (fun h' tk es' ep' t' q1 q2 q3 q4 q5 q6 => ?_)
    · obtain ⟨j, hj, hej⟩ := hel e he
      obtain ⟨b', c1, c2, c3⟩ := htk' j (by omega)
      exact ⟨b', ks j, by rw [hej, c1], c3, hks j i hj hlt⟩
    · have mv : Moved (S :: wr) G s' { s' with heap := h', toks := tk } := ⟨fun b o hb e => by rw [q2.2 b (fun h => hb (by rw [h]; exact List.mem_cons_self))]; exact e, W.grefl _, rfl, rfl, q3⟩
      refine wpAny_pure ⟨plainId_quiet F.plain_set_update_loop _, ih (i + 1) _ (by omega) hlt (W.frame _ s' _ _ hst' q3 fun b hb o e => ?_) ⟨es', ep', t', q1, q4, by omega, fun e he => ?_⟩ (fun j hj => ?_) fun s'' hm'' hS'' => hR s'' (Moved.trans W.gtrans hm' (Moved.trans W.gtrans mv hm'')) hS''⟩
      · rw [q2.2 b (fun h : b = S => hSf (by rw [← h]; exact hb))]; exact e
      · rcases q6 e he with e1 | e1
        · exact ⟨i, by omega, by rw [e1, hb1]⟩
        · obtain ⟨j, hj, hej⟩ := hel e e1
          exact ⟨j, by omega, hej⟩
      · obtain ⟨b', c1, c2, c3⟩ := htk' j hj
        exact ⟨b', c1, c2, keepTk mv.heap c2 c3⟩
end
section
variable {prog : Program} {w : World} {A : Around} {E : Value → Shared → Prop} {s : Shared}
theorem call_set_tuples {l : Addr} {items : Array Value} {vals : Nat → Value} {ks : Nat → List Int} {Q : Value → Shared → Prop} (hh : A.handled = none) (hl : s.heap.IsList l items) (hi : ∀ i v, items[i]? = some v → v = vals i) (hn : items.size ≤ 1600) (hu : A.units + 10 < cLine)
    (hks : ∀ i j, i < j → j < items.size → ks i ≠ ks j) (htk : ∀ j, j < items.size → ∃ b, vals j = .ref b ∧ IsTk prog w s.heap (ks j) b)
    (h : ∀ (h' : Heap) (tk : Nat), SetT vals items.size s.heap.objs.size h' → (∀ b o, b < s.heap.objs.size → s.heap.get? b = some o → h'.get? b = some o) → Q (.ref s.heap.objs.size) { s with heap := h', toks := tk }) :
    wpAny (model prog w) A (call (.type "set") [.ref l]) Q E s := by
  obtain ⟨c, tl, hmro⟩ := PySem.F.called_set.mro
  have hmade := PySem.F.called_set.made
  have hsub := PySem.F.called_set.sub
  refine wpAny_call (codeAny_of_tree ?_)
  show wpAny _ _ (callAny (.type "set") _) _ _ _
  refine wpAny_pure ⟨Code.quiet_builtin _ (by decide +kernel), codeAny_builtin PySem.F.entry_type_call ?_⟩
  rw [Around.under_plain (weight_type_call_type "set" [.ref l] []) rfl]
  have h1 := PySem.F.called_set.notType
  have h2 := PySem.F.called_set.canCreate
  have hct := PySem.F.typeCall_set_1 (.ref l)
  repeat (any_goals (first | assumption | wp_step))
  refine codeAny_mono (code_set_new_1 (.ref l) (E := E) (Q₁ := fun obj s₁ => ∃ led : Bool, obj = .ref s.heap.objs.size ∧ s₁ = { s with heap := s.heap.push (setObj #[] 0 (.fresh 0 0 led)) }) fun led => ⟨led, rfl, rfl⟩) fun r s₁ hr => ?_
  cases r with
  | error e => exact hr
  | ok fl =>
    cases fl with
    | ret obj =>
      obtain ⟨led, rfl, rfl⟩ := hr
      have hS : (s.heap.push (setObj #[] 0 (.fresh 0 0 led))).get? s.heap.objs.size = some (setObj #[] 0 (.fresh 0 0 led)) := Heap.get?_push_size _ rfl
      have hT : Shared.TypeIs { s with heap := s.heap.push (setObj #[] 0 (.fresh 0 0 led)) } (.ref s.heap.objs.size) "set" := ⟨_, hS, rfl⟩
      have hli := PySem.F.called_set.init.lookup
      have hbi := PySem.F.called_set.init.bind (.ref s.heap.objs.size)
      repeat (any_goals (first | assumption | wp_step))
      refine codeAny_mono (codeAny_call_builtin (R := wants (fun r s₂ => r = .none ∧ ∃ h' tk, s₂ = { s with heap := h', toks := tk } ∧ SetT vals items.size s.heap.objs.size h' ∧ (∀ b o, b < s.heap.objs.size → s.heap.get? b = some o → h'.get? b = some o)) E) PySem.F.called_set.init.plain PySem.F.entry_set_init (check_set_init_1 hT ?_)) fun r₂ s₂ hr₂ => ?_
      · obtain ⟨ol, hol, hcl, nl, hdl⟩ := hl
        obtain ⟨ocls, odict, odata, oslots⟩ := ol
        simp only at hcl hdl
        subst hcl; subst hdl
        have hol' : (s.heap.push (setObj #[] 0 (.fresh 0 0 led))).get? l = some { cls := .type "list", dict := odict, data := .seq items nl, slots := oslots } := Heap.get?_push_of_some _ hol
        have hsls := PySem.F.sub_list_set
        have hslf := PySem.F.sub_list_frozenset
        have hne : (Value.type "list" == Value.type "dict") = false := by decide
        have hl1 : (s.heap.push (setObj #[] 0 (.fresh 0 0 led))).IsList l items := ⟨_, hol', rfl, nl, rfl⟩
        unfold Builtin.«set.__init__» noKeywords Builtin.Frozenset.updateFrom
        generalize hPI : pyIter = PI
        wp_walk
        subst hPI
        refine wpAny_pyIter_list hl1 ?_
        refine wpAny_bind (wpAny_runValue ?_)
        have hlS : l < s.heap.objs.size := Heap.lt_size hol
        have hh3 : A.in1.in1.in1.handled = none := by simp [hh]
        have hz1 : (s.heap.push (setObj #[] 0 (.fresh 0 0 led))).objs.size = s.heap.objs.size + 1 := Heap.size_push ..
        have hneI : l ≠ (s.heap.push (setObj #[] 0 (.fresh 0 0 led))).objs.size := by
          rw [hz1]; exact Nat.ne_of_lt (Nat.lt_succ_of_lt hlS)
        have hSf : s.heap.objs.size ∉ [(s.heap.push (setObj #[] 0 (.fresh 0 0 led))).objs.size, l] := by
          rw [hz1]; simp only [List.mem_cons, List.not_mem_nil, or_false, not_or]
          exact ⟨Nat.ne_of_lt (Nat.lt_succ_self _), Nat.ne_of_gt hlS⟩
        refine tuples_loop ((Walks.list hh3 _ l hneI items).toS) s.heap.objs.size hSf vals ks (fun i v hv => hi i v hv) hn (by show A.units + 1 + 1 + 1 < cLine; omega) hks (items.size - 0) 0 _ (by omega) (Nat.zero_le _)
          ⟨⟨_, Heap.get?_push_size _ rfl, rfl, rfl⟩, (hl1.push _)⟩ ?hS0 ?htk ?hR
        case hS0 => exact ⟨#[], 0, _, Heap.get?_push_of_some _ hS, TabR.fresh .., rfl, fun e he => by simp at he⟩
        case htk =>
          intro j hj
          obtain ⟨b, c1, o, it, m, ho, r⟩ := htk j hj
          have hb := Heap.lt_size ho
          refine ⟨b, c1, ?_, o, it, m, Heap.get?_push_of_some _ (Heap.get?_push_of_some _ ho), r⟩
          simp only [List.mem_cons, List.not_mem_nil, or_false, not_or]
          rw [hz1]
          exact ⟨Nat.ne_of_lt hb, Nat.ne_of_lt (Nat.lt_succ_of_lt hb)⟩
        case hR =>
          intro s' hm hS'
          obtain ⟨h', g', d', tk', os'⟩ := s'
          have eg : g' = s.gens := hm.gens
          have ed : d' = s.drawn := hm.drawn
          have eo : os' = s.os := hm.os
          subst eg; subst ed; subst eo
          show wpAny _ _ _ _ _ _
          refine wpAny_pure ?_
          show wpAny _ _ (ret Value.none) _ _ _
          refine wpAny_pure ⟨rfl, h', tk', rfl, hS', fun b o hb e => ?_⟩
          refine hm.heap b o ?_ (Heap.get?_push_of_some _ (Heap.get?_push_of_some _ e))
          simp only [List.mem_cons, List.not_mem_nil, or_false, not_or]
          rw [hz1]
          exact ⟨Nat.ne_of_lt hb, Nat.ne_of_lt (Nat.lt_succ_of_lt hb)⟩
      · cases r₂ with
        | error e => exact hr₂
        | ok fl₂ =>
          cases fl₂ with
          | ret r =>
            obtain ⟨rfl, h', tk, rfl, hS', hk'⟩ := hr₂
            repeat (any_goals (first | assumption | wp_step))
            exact h _ _ hS' hk'
          | _ => exact hr₂.elim
    | _ => exact hr.elim
end
end Mine

-- part Aw27
set_option autoImplicit false
set_option linter.unusedVariables false
namespace Mine
open PySem PySem.W PyProof.Rows
section
variable {C : Cx} {A : Around} {env : Env} {ρ : Loc} {σ : AH} {E : EX} {Q : V → AH → Prop}
theorem RVs.items {prog : Program} {w : World} {ad : List Addr} : ∀ {ks : List Int} {vs : List Value}, RVs ad (ks.map .int) vs → ItemsAre (intKind prog w) ks vs
  | [], _, .nil => .nil
  | k :: ks, _, .cons ⟨t, e⟩ h => by subst e; exact .cons (intKind_is _ _ _ _) (RVs.items h)
/-- len(set(x)) of a list of tuples that are all different -/
theorem WE_lenset {C : Cx} {l : List (Str × Value)} {nl ns : Str} {p1 p2 pos1 pos2 : Pos} {e : Expr} (hA : A.handled = none) (hu : A.units + 10 < cLine) (h1 : (nl, Value.builtin "len") ∈ l) (h2 : (ns, Value.type "set") ∈ l)
    (h : WE (C.wg l) A env e ρ σ (fun v σ1 => ∃ (n : Nat) (r : Nat → V) (ks : Nat → List Int), ObjAt (C.wg l) σ1 v (.list ((List.range n).map r)) ∧ n ≤ 1600 ∧ (∀ i, i < n → ObjAt (C.wg l) σ1 (r i) (.tuple ((ks i).map .int))) ∧ (∀ i j, i < j → j < n → ks i ≠ ks j) ∧ Q (.int n) σ1) E)
    (he : starE e = false := by rfl) (hns : noStar [e] = true := by rfl) : WE (C.wg l) A env (.Call (.Name nl p1) [.Call (.Name ns p2) [e] [] pos2] [] pos1) ρ σ Q E := by
  refine ⟨?_⟩
  intro ad s hr er
  refine wpAny_Call_Name_kw (glob_same h1 hr er ?_)
  refine callWith_gen (C := C.wg l) callable_builtin rfl ?_
  rw [star_not rfl]
  refine Calls.spliced_cons ?_
  refine wpAny_Call_Name_kw (glob_same h2 hr er ?_)
  refine callWith_gen (C := C.wg l) callable_type hns ?_
  rw [star_not he]
  refine Calls.spliced_cons (wpAny_mono (h.run ad s hr er) ?_ fun _ _ x => x)
  rintro a s1 ⟨ad1, σ1, v, n1, r1, n, r, ks, b, hn, ht, hd, hq⟩
  refine Calls.spliced_nil ⟨n1.hr.keep, ?_⟩
  obtain ⟨A0, vs, rfl, hl, rvs⟩ := b.list n1.hr r1
  have hz : vs.size = n := by have := rvs.length; simp at this; omega
  have hget : ∀ j, j < n → ∃ u b0, vs[j]? = some u ∧ u = .ref b0 ∧ IsTk C.prog C.w s1.heap (ks j) b0 := by
    intro j hj
    obtain ⟨u, hu1, hu2⟩ := rvs.get (i := j) (a := r j) (by simp [hj])
    obtain ⟨b0, us, e0, ⟨o, ho, hc, m, hdd⟩, rus⟩ := (ht j hj).tup n1.hr hu2
    exact ⟨u, b0, by rw [← Array.getElem?_toList]; exact hu1, e0, o, us, m, ho, hc, hdd, rus.items⟩
  refine wpAny_sz (call_set_tuples (vals := fun i => vs.getD i .none) (ks := ks) hA hl (fun i v hv => ?_) (by omega) hu (fun i j h1 h2 => hd i j h1 (by omega)) (fun j hj => ?_) fun h' tk hS hk hsz => ?_)
  · show v = vs.getD i .none
    rw [Array.getD_eq_getD_getElem?, hv]; rfl
  · obtain ⟨u, b0, c1, c2, c3⟩ := hget j (by omega)
    refine ⟨b0, ?_, c3⟩
    show vs.getD j .none = _
    rw [Array.getD_eq_getD_getElem?, c1, c2]; rfl
  · have keep : ∀ b o, s1.heap.get? b = some o → h'.get? b = some o := fun b o e => hk b o (Heap.lt_size e) e
    have n2 : Nx (C.wg l) [] ad1 s1 ad1 σ1 { s1 with heap := h', toks := tk } := Nx.keeps hsz n1.hr keep
    refine Calls.spliced_nil ⟨n2.hr.keep, ?_⟩
    obtain ⟨es, ep, t, ho, hT, hes, _⟩ := hS
    refine call_len_set ho ⟨rfl, rfl, rfl⟩ rfl hT.ok.fits (by omega) ?_
    exact ⟨ad1, σ1, .int n, (n1.trans n2).trans (Nx.tok _ n2.hr), ⟨_, by rw [hes, hz]⟩, hq⟩
end
end Mine

-- part T07
set_option linter.unusedVariables false
namespace Mine
open PySem PySem.W PyProof.Rows
section
def sAt (i : Nat) : Stmt := match PySem.Challenge.pw_ui0502_07.main.body[i]? with | some s => s | none => .Pass ⟨0, 0, 0, 0⟩
def cB : Stmt → List Stmt
  | .ClassDef _ _ _ b _ _ _ _ _ _ _ => b
  | _ => []
def sIn (i j : Nat) : Stmt := match (cB (sAt i))[j]? with | some s => s | none => .Pass ⟨0, 0, 0, 0⟩
def fP : Stmt → Arguments
  | .FunctionDef _ a _ _ _ _ _ _ _ _ => a
  | _ => ⟨[], [], none, [], [], none, []⟩
def fB : Stmt → List Stmt
  | .FunctionDef _ _ b _ _ _ _ _ _ _ => b
  | _ => []
def fS : Stmt → Scope
  | .FunctionDef _ _ _ _ _ _ s _ _ _ => s
  | _ => { kind := .function, names := [], isGenerator := false, isCoroutine := false }
def hd.heap_39 : Params → Frag := fun P => [(2, { cls := PySem.Value.none, data := PySem.Data.dict #[] }),
  (3, { cls := PySem.Value.type "dict", data := PySem.Data.dict #[{ hash := PySem.PyData.keyHash P (PySem.Str.ofString "__name__"), key := PySem.Value.str (PySem.Str.ofString "__name__") 165, val := PySem.Value.str (PySem.Str.ofString "law_ui0502_07") 323 }, { hash := PySem.PyData.keyHash P (PySem.Str.ofString "__doc__"), key := PySem.Value.str (PySem.Str.ofString "__doc__") 166, val := PySem.Value.none }, { hash := PySem.PyData.keyHash P (PySem.Str.ofString "__package__"), key := PySem.Value.str (PySem.Str.ofString "__package__") 167, val := PySem.Value.none }, { hash := PySem.PyData.keyHash P (PySem.Str.ofString "__loader__"), key := PySem.Value.str (PySem.Str.ofString "__loader__") 168, val := PySem.Value.builtin "__main__.__loader__#opaque" }, { hash := PySem.PyData.keyHash P (PySem.Str.ofString "__spec__"), key := PySem.Value.str (PySem.Str.ofString "__spec__") 169, val := PySem.Value.none }, { hash := PySem.PyData.keyHash P (PySem.Str.ofString "__annotations__"), key := PySem.Value.str (PySem.Str.ofString "__annotations__") 170, val := PySem.Value.ref 6 }, { hash := PySem.PyData.keyHash P (PySem.Str.ofString "__builtins__"), key := PySem.Value.str (PySem.Str.ofString "__builtins__") 171, val := PySem.Value.ref 4 }, { hash := PySem.PyData.keyHash P (PySem.Str.ofString "__file__"), key := PySem.Value.str (PySem.Str.ofString "__file__") 173, val := PySem.Value.str (PySem.Str.ofString "/claim/cut.py") 172 }, { hash := PySem.PyData.keyHash P (PySem.Str.ofString "__cached__"), key := PySem.Value.str (PySem.Str.ofString "__cached__") 174, val := PySem.Value.none }, { hash := PySem.PyData.keyHash P (PySem.Str.ofString "_wall"), key := PySem.Value.str (PySem.Str.ofString "_wall") 193, val := PySem.Value.ref 21 }, { hash := PySem.PyData.keyHash P (PySem.Str.ofString "PackError"), key := PySem.Value.str (PySem.Str.ofString "PackError") 213, val := PySem.Value.ref 31 }, { hash := PySem.PyData.keyHash P (PySem.Str.ofString "shown"), key := PySem.Value.str (PySem.Str.ofString "shown") 220, val := PySem.Value.ref 41 }, { hash := PySem.PyData.keyHash P (PySem.Str.ofString "need_number"), key := PySem.Value.str (PySem.Str.ofString "need_number") 230, val := PySem.Value.ref 48 }, { hash := PySem.PyData.keyHash P (PySem.Str.ofString "LONGEST"), key := PySem.Value.str (PySem.Str.ofString "LONGEST") 234, val := PySem.Value.int 512 233 }, { hash := PySem.PyData.keyHash P (PySem.Str.ofString "Image"), key := PySem.Value.str (PySem.Str.ofString "Image") 303, val := PySem.Value.ref 96 }, { hash := PySem.PyData.keyHash P (PySem.Str.ofString "blank"), key := PySem.Value.str (PySem.Str.ofString "blank") 310, val := PySem.Value.ref 106 }, { hash := PySem.PyData.keyHash P (PySem.Str.ofString "tile_places"), key := PySem.Value.str (PySem.Str.ofString "tile_places") 322, val := PySem.Value.ref 113 }, { hash := PySem.PyData.keyHash P (PySem.Str.ofString "_law_cell"), key := PySem.Value.str (PySem.Str.ofString "_law_cell") 332, val := PySem.Value.ref 120 }, { hash := PySem.PyData.keyHash P (PySem.Str.ofString "_law_image"), key := PySem.Value.str (PySem.Str.ofString "_law_image") 338, val := PySem.Value.ref 125 }, { hash := PySem.PyData.keyHash P (PySem.Str.ofString "law"), key := PySem.Value.str (PySem.Str.ofString "law") 344, val := PySem.Value.ref 130 }] 20 }),
  (6, { cls := PySem.Value.type "dict", data := PySem.Data.dict #[] }),
  (15, { cls := PySem.Value.type "tuple", data := PySem.Data.seq #[] }),
  (17, { cls := PySem.Value.type "tuple", data := PySem.Data.seq #[PySem.Value.str (PySem.Str.ofString "k") 190] }),
  (18, { cls := PySem.Value.type "tuple", data := PySem.Data.seq #[] }),
  (20, { cls := PySem.Value.type "code", data := PySem.Data.fields #[PySem.Value.str (PySem.Str.ofString "_wall") 187, PySem.Value.str (PySem.Str.ofString "_wall") 188, PySem.Value.str (PySem.Str.ofString "/claim/cut.py") 189, PySem.Value.int 1 0, PySem.Value.int 1 0, PySem.Value.int 0 0, PySem.Value.int 0 0, PySem.Value.int 3 0, PySem.Value.ref 15, PySem.Value.bool true, PySem.Value.int 181 0, PySem.Value.ref 16, PySem.Value.none, PySem.Value.ref 17, PySem.Value.ref 18, PySem.Value.ref 19, PySem.Value.int 191 0, PySem.Value.int 1 0, PySem.Value.str (PySem.Str.ofString "/claim/cut.py") 192] }),
  (21, { cls := PySem.Value.type "function", data := PySem.Data.func { name := PySem.Str.ofString "_wall", qualname := PySem.Str.ofString "_wall", params := fP (sAt 0), body := PySem.FuncBody.stmts (fB (sAt 0)), scope := fS (sAt 0), globals := 3, closure := [], defaults := PySem.Value.none, kwdefaults := PySem.Value.none, pyModule := PySem.Value.str (PySem.Str.ofString "__main__") 164, code := PySem.Value.ref 20 } }),
  (22, { cls := PySem.Value.type "tuple", data := PySem.Data.seq #[PySem.Value.type "ValueError"] }),
  (29, { cls := PySem.Value.type "tuple", data := PySem.Data.seq #[] }),
  (30, { cls := PySem.Value.type "dict", data := PySem.Data.dict #[{ hash := PySem.PyData.keyHash P (PySem.Str.ofString "__module__"), key := PySem.Value.str (PySem.Str.ofString "__module__") 203, val := PySem.Value.str (PySem.Str.ofString "lifting.errors") 194 }, { hash := PySem.PyData.keyHash P (PySem.Str.ofString "__firstlineno__"), key := PySem.Value.str (PySem.Str.ofString "__firstlineno__") 207, val := PySem.Value.int 5 206 }, { hash := PySem.PyData.keyHash P (PySem.Str.ofString "__static_attributes__"), key := PySem.Value.str (PySem.Str.ofString "__static_attributes__") 208, val := PySem.Value.ref 29 }, { hash := PySem.PyData.keyHash P (PySem.Str.ofString "__weakref__"), key := PySem.Value.str (PySem.Str.ofString "__weakref__") 210, val := PySem.Value.ref 32 }, { hash := PySem.PyData.keyHash P (PySem.Str.ofString "__doc__"), key := PySem.Value.str (PySem.Str.ofString "__doc__") 211, val := PySem.Value.none }] 3 }),
  (31, { cls := PySem.Value.type "type", data := PySem.Data.cls { name := PySem.Str.ofString "PackError", bases := [PySem.Value.type "ValueError"], mro := [PySem.Value.ref 31, PySem.Value.type "ValueError", PySem.Value.type "Exception", PySem.Value.type "BaseException", PySem.Value.type "object"], ns := 30, qualname := PySem.Str.ofString "PackError" }, slots := #[some (PySem.Value.ref 22), none, some (PySem.Value.str (PySem.Str.ofString "PackError") 196), some (PySem.Value.str (PySem.Str.ofString "PackError") 204), some (PySem.Value.builtin "ValueError.__new__"), some (PySem.Value.bool true)] }),
  (32, { cls := PySem.Value.type "getset_descriptor", data := PySem.Data.fields #[PySem.Value.str (PySem.Str.ofString "__weakref__") 209, PySem.Value.ref 31, PySem.Value.builtin "ExceptionGroup.__weakref__", PySem.Value.none] }),
  (35, { cls := PySem.Value.type "tuple", data := PySem.Data.seq #[] }),
  (37, { cls := PySem.Value.type "tuple", data := PySem.Data.seq #[PySem.Value.str (PySem.Str.ofString "value") 217] }),
  (38, { cls := PySem.Value.type "tuple", data := PySem.Data.seq #[] }),
  (40, { cls := PySem.Value.type "code", data := PySem.Data.fields #[PySem.Value.str (PySem.Str.ofString "shown") 214, PySem.Value.str (PySem.Str.ofString "shown") 215, PySem.Value.str (PySem.Str.ofString "/claim/cut.py") 216, PySem.Value.int 7 0, PySem.Value.int 1 0, PySem.Value.int 0 0, PySem.Value.int 0 0, PySem.Value.int 3 0, PySem.Value.ref 35, PySem.Value.bool true, PySem.Value.int 181 0, PySem.Value.ref 36, PySem.Value.none, PySem.Value.ref 37, PySem.Value.ref 38, PySem.Value.ref 39, PySem.Value.int 218 0, PySem.Value.int 7 0, PySem.Value.str (PySem.Str.ofString "/claim/cut.py") 219] }),
  (41, { cls := PySem.Value.type "function", data := PySem.Data.func { name := PySem.Str.ofString "shown", qualname := PySem.Str.ofString "shown", params := fP (sAt 3), body := PySem.FuncBody.stmts (fB (sAt 3)), scope := fS (sAt 3), globals := 3, closure := [], defaults := PySem.Value.none, kwdefaults := PySem.Value.none, pyModule := PySem.Value.str (PySem.Str.ofString "lifting.errors") 194, code := PySem.Value.ref 40 } }),
  (42, { cls := PySem.Value.type "tuple", data := PySem.Data.seq #[] }),
  (44, { cls := PySem.Value.type "tuple", data := PySem.Data.seq #[PySem.Value.str (PySem.Str.ofString "value") 224, PySem.Value.str (PySem.Str.ofString "least") 225, PySem.Value.str (PySem.Str.ofString "most") 226, PySem.Value.str (PySem.Str.ofString "what") 227] }),
  (45, { cls := PySem.Value.type "tuple", data := PySem.Data.seq #[] }),
  (47, { cls := PySem.Value.type "code", data := PySem.Data.fields #[PySem.Value.str (PySem.Str.ofString "need_number") 221, PySem.Value.str (PySem.Str.ofString "need_number") 222, PySem.Value.str (PySem.Str.ofString "/claim/cut.py") 223, PySem.Value.int 13 0, PySem.Value.int 4 0, PySem.Value.int 0 0, PySem.Value.int 0 0, PySem.Value.int 3 0, PySem.Value.ref 42, PySem.Value.bool true, PySem.Value.int 181 0, PySem.Value.ref 43, PySem.Value.none, PySem.Value.ref 44, PySem.Value.ref 45, PySem.Value.ref 46, PySem.Value.int 228 0, PySem.Value.int 13 0, PySem.Value.str (PySem.Str.ofString "/claim/cut.py") 229] }),
  (48, { cls := PySem.Value.type "function", data := PySem.Data.func { name := PySem.Str.ofString "need_number", qualname := PySem.Str.ofString "need_number", params := fP (sAt 4), body := PySem.FuncBody.stmts (fB (sAt 4)), scope := fS (sAt 4), globals := 3, closure := [], defaults := PySem.Value.none, kwdefaults := PySem.Value.none, pyModule := PySem.Value.str (PySem.Str.ofString "lifting.errors") 194, code := PySem.Value.ref 47 } }),
  (56, { cls := PySem.Value.type "tuple", data := PySem.Data.seq #[] }),
  (59, { cls := PySem.Value.type "code", data := PySem.Data.fields #[PySem.Value.str (PySem.Str.ofString "__init__") 247, PySem.Value.str (PySem.Str.ofString "Image.__init__") 248, PySem.Value.str (PySem.Str.ofString "/claim/cut.py") 249, PySem.Value.int 21 0, PySem.Value.int 2 0, PySem.Value.int 0 0, PySem.Value.int 0 0, PySem.Value.int 3 0, PySem.Value.ref 56, PySem.Value.bool true, PySem.Value.int 181 0, PySem.Value.ref 57, PySem.Value.none, PySem.Value.none, PySem.Value.none, PySem.Value.ref 58, PySem.Value.int 250 0, PySem.Value.int 21 0, PySem.Value.str (PySem.Str.ofString "/claim/cut.py") 251] }),
  (60, { cls := PySem.Value.type "function", data := PySem.Data.func { name := PySem.Str.ofString "__init__", qualname := PySem.Str.ofString "Image.__init__", params := fP (sIn 7 0), body := PySem.FuncBody.stmts (fB (sIn 7 0)), scope := fS (sIn 7 0), globals := 3, closure := [], defaults := PySem.Value.none, kwdefaults := PySem.Value.none, pyModule := PySem.Value.str (PySem.Str.ofString "lifting.images") 231, code := PySem.Value.ref 59 } }),
  (61, { cls := PySem.Value.type "tuple", data := PySem.Data.seq #[] }),
  (63, { cls := PySem.Value.type "tuple", data := PySem.Data.seq #[PySem.Value.str (PySem.Str.ofString "self") 256, PySem.Value.str (PySem.Str.ofString "other") 257] }),
  (64, { cls := PySem.Value.type "tuple", data := PySem.Data.seq #[] }),
  (66, { cls := PySem.Value.type "code", data := PySem.Data.fields #[PySem.Value.str (PySem.Str.ofString "same") 253, PySem.Value.str (PySem.Str.ofString "Image.same") 254, PySem.Value.str (PySem.Str.ofString "/claim/cut.py") 255, PySem.Value.int 41 0, PySem.Value.int 2 0, PySem.Value.int 0 0, PySem.Value.int 0 0, PySem.Value.int 3 0, PySem.Value.ref 61, PySem.Value.bool true, PySem.Value.int 181 0, PySem.Value.ref 62, PySem.Value.none, PySem.Value.ref 63, PySem.Value.ref 64, PySem.Value.ref 65, PySem.Value.int 258 0, PySem.Value.int 41 0, PySem.Value.str (PySem.Str.ofString "/claim/cut.py") 259] }),
  (67, { cls := PySem.Value.type "function", data := PySem.Data.func { name := PySem.Str.ofString "same", qualname := PySem.Str.ofString "Image.same", params := fP (sIn 7 1), body := PySem.FuncBody.stmts (fB (sIn 7 1)), scope := fS (sIn 7 1), globals := 3, closure := [], defaults := PySem.Value.none, kwdefaults := PySem.Value.none, pyModule := PySem.Value.str (PySem.Str.ofString "lifting.images") 231, code := PySem.Value.ref 66 } }),
  (68, { cls := PySem.Value.type "tuple", data := PySem.Data.seq #[] }),
  (70, { cls := PySem.Value.type "tuple", data := PySem.Data.seq #[PySem.Value.str (PySem.Str.ofString "self") 264] }),
  (71, { cls := PySem.Value.type "tuple", data := PySem.Data.seq #[] }),
  (73, { cls := PySem.Value.type "code", data := PySem.Data.fields #[PySem.Value.str (PySem.Str.ofString "count") 261, PySem.Value.str (PySem.Str.ofString "Image.count") 262, PySem.Value.str (PySem.Str.ofString "/claim/cut.py") 263, PySem.Value.int 44 0, PySem.Value.int 1 0, PySem.Value.int 0 0, PySem.Value.int 0 0, PySem.Value.int 3 0, PySem.Value.ref 68, PySem.Value.bool true, PySem.Value.int 181 0, PySem.Value.ref 69, PySem.Value.none, PySem.Value.ref 70, PySem.Value.ref 71, PySem.Value.ref 72, PySem.Value.int 265 0, PySem.Value.int 44 0, PySem.Value.str (PySem.Str.ofString "/claim/cut.py") 266] }),
  (74, { cls := PySem.Value.type "function", data := PySem.Data.func { name := PySem.Str.ofString "count", qualname := PySem.Str.ofString "Image.count", params := fP (sIn 7 2), body := PySem.FuncBody.stmts (fB (sIn 7 2)), scope := fS (sIn 7 2), globals := 3, closure := [], defaults := PySem.Value.none, kwdefaults := PySem.Value.none, pyModule := PySem.Value.str (PySem.Str.ofString "lifting.images") 231, code := PySem.Value.ref 73 } }),
  (75, { cls := PySem.Value.type "tuple", data := PySem.Data.seq #[] }),
  (78, { cls := PySem.Value.type "code", data := PySem.Data.fields #[PySem.Value.str (PySem.Str.ofString "crop") 268, PySem.Value.str (PySem.Str.ofString "Image.crop") 269, PySem.Value.str (PySem.Str.ofString "/claim/cut.py") 270, PySem.Value.int 47 0, PySem.Value.int 5 0, PySem.Value.int 0 0, PySem.Value.int 0 0, PySem.Value.int 3 0, PySem.Value.ref 75, PySem.Value.bool true, PySem.Value.int 181 0, PySem.Value.ref 76, PySem.Value.none, PySem.Value.none, PySem.Value.none, PySem.Value.ref 77, PySem.Value.int 271 0, PySem.Value.int 47 0, PySem.Value.str (PySem.Str.ofString "/claim/cut.py") 272] }),
  (79, { cls := PySem.Value.type "function", data := PySem.Data.func { name := PySem.Str.ofString "crop", qualname := PySem.Str.ofString "Image.crop", params := fP (sIn 7 3), body := PySem.FuncBody.stmts (fB (sIn 7 3)), scope := fS (sIn 7 3), globals := 3, closure := [], defaults := PySem.Value.none, kwdefaults := PySem.Value.none, pyModule := PySem.Value.str (PySem.Str.ofString "lifting.images") 231, code := PySem.Value.ref 78 } }),
  (80, { cls := PySem.Value.type "tuple", data := PySem.Data.seq #[] }),
  (82, { cls := PySem.Value.type "tuple", data := PySem.Data.seq #[PySem.Value.str (PySem.Str.ofString "self") 277, PySem.Value.str (PySem.Str.ofString "other") 278, PySem.Value.str (PySem.Str.ofString "left") 279, PySem.Value.str (PySem.Str.ofString "top") 280, PySem.Value.str (PySem.Str.ofString "k") 281, PySem.Value.str (PySem.Str.ofString "row") 282] }),
  (83, { cls := PySem.Value.type "tuple", data := PySem.Data.seq #[] }),
  (85, { cls := PySem.Value.type "code", data := PySem.Data.fields #[PySem.Value.str (PySem.Str.ofString "paste") 274, PySem.Value.str (PySem.Str.ofString "Image.paste") 275, PySem.Value.str (PySem.Str.ofString "/claim/cut.py") 276, PySem.Value.int 54 0, PySem.Value.int 4 0, PySem.Value.int 0 0, PySem.Value.int 0 0, PySem.Value.int 3 0, PySem.Value.ref 80, PySem.Value.bool true, PySem.Value.int 181 0, PySem.Value.ref 81, PySem.Value.none, PySem.Value.ref 82, PySem.Value.ref 83, PySem.Value.ref 84, PySem.Value.int 283 0, PySem.Value.int 54 0, PySem.Value.str (PySem.Str.ofString "/claim/cut.py") 284] }),
  (86, { cls := PySem.Value.type "function", data := PySem.Data.func { name := PySem.Str.ofString "paste", qualname := PySem.Str.ofString "Image.paste", params := fP (sIn 7 4), body := PySem.FuncBody.stmts (fB (sIn 7 4)), scope := fS (sIn 7 4), globals := 3, closure := [], defaults := PySem.Value.none, kwdefaults := PySem.Value.none, pyModule := PySem.Value.str (PySem.Str.ofString "lifting.images") 231, code := PySem.Value.ref 85 } }),
  (87, { cls := PySem.Value.type "tuple", data := PySem.Data.seq #[] }),
  (89, { cls := PySem.Value.type "tuple", data := PySem.Data.seq #[PySem.Value.str (PySem.Str.ofString "self") 289] }),
  (90, { cls := PySem.Value.type "tuple", data := PySem.Data.seq #[] }),
  (92, { cls := PySem.Value.type "code", data := PySem.Data.fields #[PySem.Value.str (PySem.Str.ofString "lines") 286, PySem.Value.str (PySem.Str.ofString "Image.lines") 287, PySem.Value.str (PySem.Str.ofString "/claim/cut.py") 288, PySem.Value.int 63 0, PySem.Value.int 1 0, PySem.Value.int 0 0, PySem.Value.int 0 0, PySem.Value.int 3 0, PySem.Value.ref 87, PySem.Value.bool true, PySem.Value.int 181 0, PySem.Value.ref 88, PySem.Value.none, PySem.Value.ref 89, PySem.Value.ref 90, PySem.Value.ref 91, PySem.Value.int 290 0, PySem.Value.int 63 0, PySem.Value.str (PySem.Str.ofString "/claim/cut.py") 291] }),
  (93, { cls := PySem.Value.type "function", data := PySem.Data.func { name := PySem.Str.ofString "lines", qualname := PySem.Str.ofString "Image.lines", params := fP (sIn 7 5), body := PySem.FuncBody.stmts (fB (sIn 7 5)), scope := fS (sIn 7 5), globals := 3, closure := [], defaults := PySem.Value.none, kwdefaults := PySem.Value.none, pyModule := PySem.Value.str (PySem.Str.ofString "lifting.images") 231, code := PySem.Value.ref 92 } }),
  (94, { cls := PySem.Value.type "tuple", data := PySem.Data.seq #[PySem.Value.str (PySem.Str.ofString "height") 293, PySem.Value.str (PySem.Str.ofString "planes") 294, PySem.Value.str (PySem.Str.ofString "width") 295] }),
  (95, { cls := PySem.Value.type "dict", data := PySem.Data.dict #[{ hash := PySem.PyData.keyHash P (PySem.Str.ofString "__module__"), key := PySem.Value.str (PySem.Str.ofString "__module__") 242, val := PySem.Value.str (PySem.Str.ofString "lifting.images") 231 }, { hash := PySem.PyData.keyHash P (PySem.Str.ofString "__firstlineno__"), key := PySem.Value.str (PySem.Str.ofString "__firstlineno__") 246, val := PySem.Value.int 19 245 }, { hash := PySem.PyData.keyHash P (PySem.Str.ofString "__init__"), key := PySem.Value.str (PySem.Str.ofString "__init__") 252, val := PySem.Value.ref 60 }, { hash := PySem.PyData.keyHash P (PySem.Str.ofString "same"), key := PySem.Value.str (PySem.Str.ofString "same") 260, val := PySem.Value.ref 67 }, { hash := PySem.PyData.keyHash P (PySem.Str.ofString "count"), key := PySem.Value.str (PySem.Str.ofString "count") 267, val := PySem.Value.ref 74 }, { hash := PySem.PyData.keyHash P (PySem.Str.ofString "crop"), key := PySem.Value.str (PySem.Str.ofString "crop") 273, val := PySem.Value.ref 79 }, { hash := PySem.PyData.keyHash P (PySem.Str.ofString "paste"), key := PySem.Value.str (PySem.Str.ofString "paste") 285, val := PySem.Value.ref 86 }, { hash := PySem.PyData.keyHash P (PySem.Str.ofString "lines"), key := PySem.Value.str (PySem.Str.ofString "lines") 292, val := PySem.Value.ref 93 }, { hash := PySem.PyData.keyHash P (PySem.Str.ofString "__static_attributes__"), key := PySem.Value.str (PySem.Str.ofString "__static_attributes__") 296, val := PySem.Value.ref 94 }, { hash := PySem.PyData.keyHash P (PySem.Str.ofString "__dict__"), key := PySem.Value.str (PySem.Str.ofString "__dict__") 298, val := PySem.Value.ref 97 }, { hash := PySem.PyData.keyHash P (PySem.Str.ofString "__weakref__"), key := PySem.Value.str (PySem.Str.ofString "__weakref__") 300, val := PySem.Value.ref 98 }, { hash := PySem.PyData.keyHash P (PySem.Str.ofString "__doc__"), key := PySem.Value.str (PySem.Str.ofString "__doc__") 301, val := PySem.Value.none }] 4 }),
  (96, { cls := PySem.Value.type "type", data := PySem.Data.cls { name := PySem.Str.ofString "Image", bases := [PySem.Value.type "object"], mro := [PySem.Value.ref 96, PySem.Value.type "object"], ns := 95, qualname := PySem.Str.ofString "Image" }, slots := #[none, none, some (PySem.Value.str (PySem.Str.ofString "Image") 235), some (PySem.Value.str (PySem.Str.ofString "Image") 243), some (PySem.Value.builtin "object.__new__"), some (PySem.Value.bool true)] }),
  (97, { cls := PySem.Value.type "getset_descriptor", data := PySem.Data.fields #[PySem.Value.str (PySem.Str.ofString "__dict__") 297, PySem.Value.ref 96, PySem.Value.builtin "function.__dict__", PySem.Value.builtin "function.__dict__#set"] }),
  (98, { cls := PySem.Value.type "getset_descriptor", data := PySem.Data.fields #[PySem.Value.str (PySem.Str.ofString "__weakref__") 299, PySem.Value.ref 96, PySem.Value.builtin "ExceptionGroup.__weakref__", PySem.Value.none] }),
  (101, { cls := PySem.Value.type "tuple", data := PySem.Data.seq #[PySem.Value.int 0 304] }),
  (102, { cls := PySem.Value.type "tuple", data := PySem.Data.seq #[] }),
  (105, { cls := PySem.Value.type "code", data := PySem.Data.fields #[PySem.Value.str (PySem.Str.ofString "blank") 305, PySem.Value.str (PySem.Str.ofString "blank") 306, PySem.Value.str (PySem.Str.ofString "/claim/cut.py") 307, PySem.Value.int 65 0, PySem.Value.int 4 0, PySem.Value.int 0 0, PySem.Value.int 0 0, PySem.Value.int 3 0, PySem.Value.ref 102, PySem.Value.bool true, PySem.Value.int 181 0, PySem.Value.ref 103, PySem.Value.none, PySem.Value.none, PySem.Value.none, PySem.Value.ref 104, PySem.Value.int 308 0, PySem.Value.int 65 0, PySem.Value.str (PySem.Str.ofString "/claim/cut.py") 309] }),
  (106, { cls := PySem.Value.type "function", data := PySem.Data.func { name := PySem.Str.ofString "blank", qualname := PySem.Str.ofString "blank", params := fP (sAt 8), body := PySem.FuncBody.stmts (fB (sAt 8)), scope := fS (sAt 8), globals := 3, closure := [], defaults := PySem.Value.ref 101, kwdefaults := PySem.Value.none, pyModule := PySem.Value.str (PySem.Str.ofString "lifting.images") 231, code := PySem.Value.ref 105 } }),
  (107, { cls := PySem.Value.type "tuple", data := PySem.Data.seq #[] }),
  (109, { cls := PySem.Value.type "tuple", data := PySem.Data.seq #[PySem.Value.str (PySem.Str.ofString "width") 314, PySem.Value.str (PySem.Str.ofString "height") 315, PySem.Value.str (PySem.Str.ofString "size") 316, PySem.Value.str (PySem.Str.ofString "out") 317, PySem.Value.str (PySem.Str.ofString "top") 318, PySem.Value.str (PySem.Str.ofString "left") 319] }),
  (110, { cls := PySem.Value.type "tuple", data := PySem.Data.seq #[] }),
  (112, { cls := PySem.Value.type "code", data := PySem.Data.fields #[PySem.Value.str (PySem.Str.ofString "tile_places") 311, PySem.Value.str (PySem.Str.ofString "tile_places") 312, PySem.Value.str (PySem.Str.ofString "/claim/cut.py") 313, PySem.Value.int 71 0, PySem.Value.int 3 0, PySem.Value.int 0 0, PySem.Value.int 0 0, PySem.Value.int 3 0, PySem.Value.ref 107, PySem.Value.bool true, PySem.Value.int 181 0, PySem.Value.ref 108, PySem.Value.none, PySem.Value.ref 109, PySem.Value.ref 110, PySem.Value.ref 111, PySem.Value.int 320 0, PySem.Value.int 71 0, PySem.Value.str (PySem.Str.ofString "/claim/cut.py") 321] }),
  (113, { cls := PySem.Value.type "function", data := PySem.Data.func { name := PySem.Str.ofString "tile_places", qualname := PySem.Str.ofString "tile_places", params := fP (sAt 9), body := PySem.FuncBody.stmts (fB (sAt 9)), scope := fS (sAt 9), globals := 3, closure := [], defaults := PySem.Value.none, kwdefaults := PySem.Value.none, pyModule := PySem.Value.str (PySem.Str.ofString "lifting.images") 231, code := PySem.Value.ref 112 } }),
  (114, { cls := PySem.Value.type "tuple", data := PySem.Data.seq #[] }),
  (116, { cls := PySem.Value.type "tuple", data := PySem.Data.seq #[PySem.Value.str (PySem.Str.ofString "script") 328, PySem.Value.str (PySem.Str.ofString "k") 329] }),
  (117, { cls := PySem.Value.type "tuple", data := PySem.Data.seq #[] }),
  (119, { cls := PySem.Value.type "code", data := PySem.Data.fields #[PySem.Value.str (PySem.Str.ofString "_law_cell") 325, PySem.Value.str (PySem.Str.ofString "_law_cell") 326, PySem.Value.str (PySem.Str.ofString "/claim/cut.py") 327, PySem.Value.int 78 0, PySem.Value.int 2 0, PySem.Value.int 0 0, PySem.Value.int 0 0, PySem.Value.int 3 0, PySem.Value.ref 114, PySem.Value.bool true, PySem.Value.int 181 0, PySem.Value.ref 115, PySem.Value.none, PySem.Value.ref 116, PySem.Value.ref 117, PySem.Value.ref 118, PySem.Value.int 330 0, PySem.Value.int 78 0, PySem.Value.str (PySem.Str.ofString "/claim/cut.py") 331] }),
  (120, { cls := PySem.Value.type "function", data := PySem.Data.func { name := PySem.Str.ofString "_law_cell", qualname := PySem.Str.ofString "_law_cell", params := fP (sAt 11), body := PySem.FuncBody.stmts (fB (sAt 11)), scope := fS (sAt 11), globals := 3, closure := [], defaults := PySem.Value.none, kwdefaults := PySem.Value.none, pyModule := PySem.Value.str (PySem.Str.ofString "law_ui0502_07") 323, code := PySem.Value.ref 119 } }),
  (121, { cls := PySem.Value.type "tuple", data := PySem.Data.seq #[] }),
  (124, { cls := PySem.Value.type "code", data := PySem.Data.fields #[PySem.Value.str (PySem.Str.ofString "_law_image") 333, PySem.Value.str (PySem.Str.ofString "_law_image") 334, PySem.Value.str (PySem.Str.ofString "/claim/cut.py") 335, PySem.Value.int 82 0, PySem.Value.int 4 0, PySem.Value.int 0 0, PySem.Value.int 0 0, PySem.Value.int 3 0, PySem.Value.ref 121, PySem.Value.bool true, PySem.Value.int 181 0, PySem.Value.ref 122, PySem.Value.none, PySem.Value.none, PySem.Value.none, PySem.Value.ref 123, PySem.Value.int 336 0, PySem.Value.int 82 0, PySem.Value.str (PySem.Str.ofString "/claim/cut.py") 337] }),
  (125, { cls := PySem.Value.type "function", data := PySem.Data.func { name := PySem.Str.ofString "_law_image", qualname := PySem.Str.ofString "_law_image", params := fP (sAt 12), body := PySem.FuncBody.stmts (fB (sAt 12)), scope := fS (sAt 12), globals := 3, closure := [], defaults := PySem.Value.none, kwdefaults := PySem.Value.none, pyModule := PySem.Value.str (PySem.Str.ofString "law_ui0502_07") 323, code := PySem.Value.ref 124 } }),
  (126, { cls := PySem.Value.type "tuple", data := PySem.Data.seq #[] }),
  (129, { cls := PySem.Value.type "code", data := PySem.Data.fields #[PySem.Value.str (PySem.Str.ofString "law") 339, PySem.Value.str (PySem.Str.ofString "law") 340, PySem.Value.str (PySem.Str.ofString "/claim/cut.py") 341, PySem.Value.int 95 0, PySem.Value.int 1 0, PySem.Value.int 0 0, PySem.Value.int 0 0, PySem.Value.int 3 0, PySem.Value.ref 126, PySem.Value.bool true, PySem.Value.int 181 0, PySem.Value.ref 127, PySem.Value.none, PySem.Value.none, PySem.Value.none, PySem.Value.ref 128, PySem.Value.int 342 0, PySem.Value.int 95 0, PySem.Value.str (PySem.Str.ofString "/claim/cut.py") 343] }),
  (130, { cls := PySem.Value.type "function", data := PySem.Data.func { name := PySem.Str.ofString "law", qualname := PySem.Str.ofString "law", params := fP (sAt 13), body := PySem.FuncBody.stmts (fB (sAt 13)), scope := fS (sAt 13), globals := 3, closure := [], defaults := PySem.Value.none, kwdefaults := PySem.Value.none, pyModule := PySem.Value.str (PySem.Str.ofString "law_ui0502_07") 323, code := PySem.Value.ref 129 } })]
def hd.view : Program := { PySem.Challenge.pw_ui0502_07 with main := { PySem.Challenge.pw_ui0502_07.main with body := [0, 2, 3, 4, 6, 7, 9, 11, 12, 13].filterMap (PySem.Challenge.pw_ui0502_07.main.body[·]?) } }
def hd.as : List Addr := [2, 3, 6, 15, 17, 18, 20, 21, 22, 29, 30, 31, 32, 35, 37, 38, 40, 41, 42, 44, 45, 47, 48, 56, 59, 60, 61, 63, 64, 66, 67, 68, 70, 71, 73, 74, 75, 78, 79, 80, 82, 83, 85, 86, 87, 89, 90, 92, 93, 94, 95, 96, 97, 98, 101, 102, 105, 106, 107, 109, 110, 112, 113, 114, 116, 117, 119, 120, 121, 124, 125, 126, 129, 130]
def hd.hook : Hook := kHook hd.heap_39 hd.as (fun _ => by kernel_rfl)
theorem hd.left : LeftO PySem.Challenge.rw_ui0502_07.row.prog hd.view [Str.ofString "blank"] (fun s => xlAt hd.view [] s && recOk (RowW.records PySem.Challenge.rw_ui0502_07.row.toRowW) s) (Hook.obs hd.hook) (Hook.val hd.hook) 1794 := fun w => by kernel_rfl
theorem hd.said : PySem.Challenge.rw_ui0502_07.wellSaid = true := by kernel_rfl
def hd.rec : DefRec := ⟨Str.ofString "law", fP (sAt 13), fB (sAt 13), fS (sAt 13), (sAt 13).pos⟩
theorem hd.all (h : WalkO hd.view [Str.ofString "blank"] (XL hd.view []) (Hook.says hd.hook) PySem.Challenge.rw_ui0502_07.row.toRowW hd.rec [] fun f vs => PySem.call f vs) : PySem.Challenge.rw_ui0502_07.Holds := by
  refine holds_law hd.said fun said => ?_
  refine holds_open (q := hd.view) (loose := [Str.ofString "blank"]) (Xt := fun s => xlAt hd.view [] s && recOk (RowW.records PySem.Challenge.rw_ui0502_07.row.toRowW) s) (XP := XL hd.view []) (Yf := Hook.obs hd.hook) (Ya := Hook.val hd.hook) (YP := Hook.says hd.hook) (N := 1794) (d := hd.rec) (kwd := []) hd.left (Hook.of hd.hook) (Hook.keeps hd.hook) (fun s e => xl_of s (Bool.and_eq_true_iff.mp e).1) XL.keeps (by kernel_rfl) (by kernel_rfl) (by kernel_rfl) (fun s e => recFacts_of (Bool.and_eq_true_iff.mp e).2) (by kernel_rfl) said (by decide +kernel) ⟨rfl, rfl, rfl, rfl, rfl, by decide +kernel⟩ ?hw h
  case hw => w_witness2
end
local macro_rules | `(tactic| walk_at "mem") => `(tactic| (with_reducible first | exact List.mem_cons_self | (refine List.mem_cons_of_mem _ ?_; walk_at "mem")))
local macro_rules | `(tactic| walk_at "up") => `(tactic| (with_reducible first | exact Up.head | (apply Up.tail; walk_at "up")))
local macro_rules | `(tactic| walk_at "w") => `(tactic| first
  | refine Thn_next ?_ | refine Thn_ret ?_ | refine Thn_brk ?_ | refine Thn_cont ?_ | refine LoopPost_next ?_ | refine LoopPost_ret ?_ | refine LoopPost_brk ?_ | refine LoopPost_cont ?_ | refine WSs_cons ?_ | refine WSs_nil ?_
  | (apply WE_name; focus (walk_at "mem")) | refine WE_int ?_
  | refine WL_nil ?_ | refine WL_cons ?_
  | refine WS_assign ?_ | refine WS_return ?_ | refine WS_expr ?_ | refine WS_if ?_ | refine WS_assign_tuple ?_ | refine WS_pass ?_ | refine WS_break ?_ | refine WS_continue ?_
  | refine WE_str ?_ | refine WE_none ?_ | refine WE_bool ?_
  | refine WE_BinOp ?_ | refine WE_UnaryOp ?_ | refine WE_Compare1 ?_ | refine WB_Compare1 ?_ | refine WB_Compare2 ?_ | refine WB_Not ?_ | refine WE_IfExp ?_ | refine WE_one ?_ | refine WE_and ?_ | refine WE_or ?_ | refine WIf_nil ?_ | refine WIf_true ?_ | refine WIf_false ?_ | refine WB_and ?_ | refine WB_or ?_ | refine WB_and_nil ?_ | refine WB_or_nil ?_
  | refine WE_menuX ?_ | refine WO_none ?_ | refine WO_some ?_ | refine exInt ?_ | refine WE_List ?_ | refine WE_Tuple ?_ | refine WE_Sub ?_
  | refine add_ii ?_ | refine sub_ii ?_ | refine lt_ii ?_ | refine gt_ii ?_ | refine le_ii ?_ | refine ge_ii ?_ | refine eq_ii ?_ | refine ne_ii ?_ | refine eq_ss ?_ | refine ne_ss ?_ | refine neg_i ?_ | (apply mod_ii; focus decide) | (apply fdiv_lit; focus decide)
  | refine WTr_bool ?_ | refine WAsL_nil ?_ | refine WAsL_cons ?_ | (apply WAs_name; focus (walk_at "up")) | (apply exUp; focus (walk_at "up")) | refine szAnd ?_
  | (apply ite_t; focus decide) | (apply ite_f; focus decide))
local macro_rules | `(tactic| walk_at "ww") => `(tactic| repeat walk_at "w")
local macro_rules | `(tactic| walk_at "ob") => `(tactic| first | assumption | exact ObjAt.new rfl | (refine ObjAt.up ?_; walk_at "ob"))
local macro_rules | `(tactic| walk_at "len") => `(tactic| (refine WE_call (by walk_at "mem") callable_builtin ?_; walk_at "ww"; refine WC_len (by walk_at "ob") (by simp; omega) ?_; walk_at "ww"))
local macro_rules | `(tactic| walk_at "x") => `(tactic| first | refine WE_head ?_ | walk_at "w" | refine ThR_next ?_ | refine WS_setattr ?_ | refine WE_attr ?_ | refine WS_setslice ?_ | refine WS_setitem ?_)
local macro_rules | `(tactic| walk_at "xx") => `(tactic| repeat walk_at "x")
def topObjs : List (Addr × O) := []
theorem topObjs_ok {P : Params} {h : Heap} (K : (hd.heap_39 P).In h) : ∀ b o, (b, o) ∈ topObjs → GO P h b o := fun _ _ hb => nomatch hb
def lawGlo : List (Str × Value) := [(Str.ofString "len", Value.builtin "len"), (Str.ofString "range", Value.type "range"), (Str.ofString "list", Value.type "list"), (Str.ofString "str", Value.type "str"), (Str.ofString "int", Value.type "int"), (Str.ofString "type", Value.type "type"), (Str.ofString "min", Value.builtin "min"), (Str.ofString "sum", Value.builtin "sum"), (Str.ofString "set", Value.type "set"), (Str.ofString "ValueError", Value.type "ValueError"), (Str.ofString "PackError", Value.ref 31), (Str.ofString "shown", Value.ref 41), (Str.ofString "need_number", Value.ref 48), (Str.ofString "LONGEST", Value.int 512 233), (Str.ofString "Image", Value.ref 96), (Str.ofString "blank", Value.ref 106), (Str.ofString "tile_places", Value.ref 113), (Str.ofString "_law_cell", Value.ref 120), (Str.ofString "_law_image", Value.ref 125)]
/-- the facts of this law's top -/
structure Law (C : Cx) : Prop where
  K : (hd.heap_39 C.w.params).In C.G
  top : ∀ x ∈ topObjs, x ∈ C.gob
  glo : ∀ x v, (x, v) ∈ lawGlo → C.mg x = some v ∨ (C.mg x = none ∧ C.mb x = some v)
  exc : OwnCls (Str.ofString "PackError") 31 [.type "ValueError", .type "Exception", .type "BaseException", .type "object"] "ValueError.__new__" C.mg C.G
theorem Law.wg {C : Cx} (c : Law C) (l : List (Str × Value)) : Law (C.wg l) := ⟨c.K, c.top, c.glo, c.exc⟩
theorem Law.c41 {C : Cx} (c : Law C) : Callable C (.ref 41) := callable_K c.K (by kernel_rfl)
theorem Law.c48 {C : Cx} (c : Law C) : Callable C (.ref 48) := callable_K c.K (by kernel_rfl)
theorem Law.c96 {C : Cx} (c : Law C) : Callable C (.ref 96) := callable_K c.K (by kernel_rfl)
theorem Law.c106 {C : Cx} (c : Law C) : Callable C (.ref 106) := callable_K c.K (by kernel_rfl)
theorem Law.c113 {C : Cx} (c : Law C) : Callable C (.ref 113) := callable_K c.K (by kernel_rfl)
theorem Law.c120 {C : Cx} (c : Law C) : Callable C (.ref 120) := callable_K c.K (by kernel_rfl)
theorem Law.c125 {C : Cx} (c : Law C) : Callable C (.ref 125) := callable_K c.K (by kernel_rfl)
theorem cell_spec {C : Cx} {A : Around} {σ : AH} {E : EX} {Q : V → AH → Prop} {a : Addr} {ns : List Int} {k : Int} (c : Law C) (hd : A.depth < recursionLimit) (hg : (a, O.list (ns.map .int)) ∈ C.gob) (hl : ns.length ≤ 63) (hk : 0 ≤ k) (hq : Q (.int (ns.getD k.toNat 0)) σ) : WC C A (.ref 120) [.k (.ref a), .int k] σ Q E := by
  refine WC_def (pn := [Str.ofString "script", Str.ofString "k"]) (ln := []) (gl := [(Str.ofString "len", Value.builtin "len")]) (dv := []) (ds := []) (c.K _ _ rfl) rfl (codeRec_of c.K (by kernel_rfl)) (by first | assumption | omega | exact Nat.le_of_ble_eq_true rfl) .nil rfl (fun x v h => c.glo x v ((show ∀ p ∈ ([(Str.ofString "len", Value.builtin "len")] : List (Str × Value)), p ∈ lawGlo by decide +kernel) (x, v) h)) ?_ (by decide +kernel) (by decide +kernel) (by decide +kernel) (by decide +kernel) ?_
  · intro s xs hkp hl
    obtain ⟨x0, x1, rfl⟩ := len2 hl
    first | exact BindsTo.of_eq rfl | exact BindsTo.of_defaults rfl (hkp _ _ (c.K _ _ rfl)) rfl rfl rfl
  intro env henv
  replace c := c.wg [(Str.ofString "len", Value.builtin "len")]
  show WSs (C.wg [(Str.ofString "len", Value.builtin "len")]) _ _ _ [(Str.ofString "script", some (.k (.ref a))), (Str.ofString "k", some (.int k))] _ _ _
  walk_at "ww"
  refine WE_call (by walk_at "mem") callable_builtin ?_
  walk_at "ww"
  refine WC_len (show ObjAt _ _ (.k (.ref a)) _ from hg) (by simp; omega) ?_
  walk_at "ww"
  refine ite_b (fun hb => ?_) fun hb => ?_
  · have hb' := of_decide_eq_true hb
    simp only [List.length_map] at hb'
    have hi : k.toNat < ns.length := by omega
    walk_at "ww"
    refine item_list (x := .int (ns.getD k.toNat 0)) (show ObjAt _ _ (.k (.ref a)) _ from hg) hk (by omega) (by simp [List.getD, hi]) ?_
    walk_at "ww"
    exact hq
  · have hb' := of_decide_eq_false hb
    simp only [List.length_map] at hb'
    have e : ns.getD k.toNat 0 = 0 := by rw [List.getD, List.getElem?_eq_none (by omega)]; rfl
    walk_at "ww"
    rw [e] at hq
    exact hq
theorem clsI {P : Params} : ClsOk (hd.heap_39 P) 96 := ⟨by kernel_rfl, by kernel_rfl, by kernel_rfl, by kernel_rfl, by kernel_rfl, by kernel_rfl⟩
abbrev Pln := Nat → Nat → List Int
def oRow (r : List Int) : O := .list (r.map .int)
def planeBlk (B : Nat) (rows : Nat → List Int) (H : Nat) : AH := (List.range H).map (fun j => oRow (rows j)) ++ [.list ((List.range H).map fun j => .ref (B + j))]
theorem planeBlk_len {B H : Nat} {rows : Nat → List Int} : (planeBlk B rows H).length = H + 1 := by simp [planeBlk]
def planesBlk (B : Nat) (P : Pln) (H : Nat) : Nat → AH
  | 0 => []
  | n + 1 => planesBlk B P H n ++ planeBlk (B + n * (H + 1)) (P n) H
theorem planesBlk_len {B H : Nat} {P : Pln} : ∀ n, (planesBlk B P H n).length = n * (H + 1)
  | 0 => by simp [planesBlk]
  | n + 1 => by rw [planesBlk, List.length_append, planesBlk_len n, planeBlk_len, Nat.add_mul, Nat.one_mul]
theorem blk_row {B H : Nat} {P : Pln} : ∀ {n k j : Nat}, k < n → j < H → (planesBlk B P H n)[k * (H + 1) + j]? = some (oRow (P k j))
  | n + 1, k, j, hk, hj => by
    rw [planesBlk]
    by_cases h : k < n
    · have hlt : k * (H + 1) + j < (planesBlk B P H n).length := by
        rw [planesBlk_len]
        have : (k + 1) * (H + 1) ≤ n * (H + 1) := Nat.mul_le_mul_right _ h
        rw [Nat.add_mul] at this; omega
      rw [List.getElem?_append_left hlt]; exact blk_row h hj
    · have : k = n := by omega
      subst this
      rw [List.getElem?_append_right (by rw [planesBlk_len]; omega), planesBlk_len, Nat.add_sub_cancel_left, planeBlk, List.getElem?_append_left (by simpa using hj)]
      simp [hj]
theorem blk_pl {B H : Nat} {P : Pln} : ∀ {n k : Nat}, k < n → (planesBlk B P H n)[k * (H + 1) + H]? = some (.list ((List.range H).map fun j => .ref (B + k * (H + 1) + j)))
  | n + 1, k, hk => by
    rw [planesBlk]
    by_cases h : k < n
    · have hlt : k * (H + 1) + H < (planesBlk B P H n).length := by
        rw [planesBlk_len]
        have : (k + 1) * (H + 1) ≤ n * (H + 1) := Nat.mul_le_mul_right _ h
        rw [Nat.add_mul] at this; omega
      rw [List.getElem?_append_left hlt]; exact blk_pl h
    · have : k = n := by omega
      subst this
      rw [List.getElem?_append_right (by rw [planesBlk_len]; omega), planesBlk_len, Nat.add_sub_cancel_left, planeBlk, List.getElem?_append_right (by simp)]
      simp
/-- planes to be read -/
structure PlAt (C : Cx) (σ : AH) (v : V) (P : Pln) (N H : Nat) : Prop where
  ex : ∃ (pv : Nat → V) (rv : Nat → Nat → V), ObjAt C σ v (.list ((List.range N).map pv)) ∧ (∀ k, k < N → ObjAt C σ (pv k) (.list ((List.range H).map (rv k)))) ∧ ∀ k j, k < N → j < H → ObjAt C σ (rv k j) (oRow (P k j))
/-- an image: its dict at b, the instance at b + 1, its rows from b + 2 on -/
structure ImgAt (σ : AH) (b : Nat) (P : Pln) (N H W : Nat) : Prop where
  ns : σ[b]? = some (.ns [(Str.ofString "planes", .ref (b + 2 + N * (H + 1))), (Str.ofString "height", .int H), (Str.ofString "width", .int W)])
  inst : σ[b + 1]? = some (.inst 96 b)
  top : σ[b + 2 + N * (H + 1)]? = some (.list ((List.range N).map fun k => .ref (b + 2 + k * (H + 1) + H)))
  pl : ∀ k, k < N → σ[b + 2 + k * (H + 1) + H]? = some (.list ((List.range H).map fun j => .ref (b + 2 + k * (H + 1) + j)))
  row : ∀ k j, k < N → j < H → σ[b + 2 + k * (H + 1) + j]? = some (oRow (P k j))
theorem ImgAt.planes {C : Cx} {σ : AH} {b : Nat} {P : Pln} {N H W : Nat} (h : ImgAt σ b P N H W) : PlAt C σ (.ref (b + 2 + N * (H + 1))) P N H :=
  ⟨fun k => .ref (b + 2 + k * (H + 1) + H), fun k j => .ref (b + 2 + k * (H + 1) + j), h.top, h.pl, h.row⟩
theorem gl_up {σ J : AH} {i : Nat} {o : O} (h : σ[i]? = some o) : (σ ++ J)[i]? = some o := by
  rw [List.getElem?_append_left (List.getElem?_eq_some_iff.mp h).1]; exact h
theorem ImgAt.up {σ J : AH} {b : Nat} {P : Pln} {N H W : Nat} (h : ImgAt σ b P N H W) : ImgAt (σ ++ J) b P N H W :=
  ⟨gl_up h.ns, gl_up h.inst, gl_up h.top, fun k hk => gl_up (h.pl k hk), fun k j hk hj => gl_up (h.row k j hk hj)⟩
def rowD (r : List Int) : PyData := .list (r.map .int)
def imgD (P : Pln) (N H : Nat) : PyData := .list ((List.range N).map fun k => .list ((List.range H).map fun j => rowD (P k j)))
theorem PlAt.rd {C : Cx} {σ : AH} {v : V} {P : Pln} {N H : Nat} (h : PlAt C σ v P N H) : Rd C σ v (imgD P N H) :=
  let ⟨_, _, h1, h2, h3⟩ := h.ex
  .list h1 (RdAll.range fun k hk => .list (h2 k hk) (RdAll.range fun j hj => Rd.lst (h3 k j hk hj)))
theorem PlAt.of {C : Cx} {σ : AH} {v : V} {P : Pln} {N H : Nat} (h : Rd C σ v (imgD P N H)) : PlAt C σ v P N H := by
  obtain ⟨xs, o, r⟩ := h.list_inv
  obtain ⟨pv, rfl, hp⟩ := r.range_inv
  have : ∀ k, ∃ f : Nat → V, k < N → ObjAt C σ (pv k) (.list ((List.range H).map f)) ∧ ∀ j, j < H → ObjAt C σ (f j) (oRow (P k j)) := by
    intro k
    by_cases hk : k < N
    · obtain ⟨ys, o', r'⟩ := (hp k hk).list_inv
      obtain ⟨f, rfl, hf⟩ := r'.range_inv
      exact ⟨f, fun _ => ⟨o', fun j hj => (hf j hj).ints_inv⟩⟩
    · exact ⟨fun _ => .none, fun h => absurd h hk⟩
  refine ⟨pv, fun k => (this k).choose, o, fun k hk => ((this k).choose_spec hk).1, fun k j hk hj => ((this k).choose_spec hk).2 j hj⟩
theorem imgD_congr {P P' : Pln} {N H : Nat} (h : ∀ k j, k < N → j < H → P k j = P' k j) : imgD P N H = imgD P' N H := by
  unfold imgD
  congr 1
  refine List.map_congr_left fun k hk => ?_
  congr 1
  refine List.map_congr_left fun j hj => ?_
  rw [h k j (List.mem_range.mp hk) (List.mem_range.mp hj)]
theorem eqv_all {ds : List PyData} (h : ∀ d ∈ ds, PyData.eqv d d = true) : PyData.eqvAll ds ds = true := by
  induction ds with
  | nil => rfl
  | cons d r ih =>
    have h1 := h d (.head _)
    have h2 := ih fun d hd => h d (.tail _ hd)
    simp [PyData.eqvAll, h1, h2]
theorem imgD_eqv {P : Pln} {N H : Nat} : PyData.eqv (imgD P N H) (imgD P N H) = true := by
  show PyData.eqvAll _ _ = true
  refine eqv_all fun d hd => ?_
  obtain ⟨k, hk, rfl⟩ := List.mem_map.mp hd
  show PyData.eqvAll _ _ = true
  refine eqv_all fun d hd => ?_
  obtain ⟨j, hj, rfl⟩ := List.mem_map.mp hd
  exact eqv_ints _
theorem canLay_all {ds : List PyData} (h : ∀ d ∈ ds, PyData.canLay0 d = true) : PyData.canLayAll0 ds = true := by
  induction ds with
  | nil => rfl
  | cons d r ih =>
    have h1 := h d (.head _)
    have h2 := ih fun d hd => h d (.tail _ hd)
    simp [PyData.canLayAll0, h1, h2]
theorem depth_all {ds : List PyData} {n : Nat} (h : ∀ d ∈ ds, PyData.depth d ≤ n) : PyData.depthAll ds ≤ n := by
  induction ds with
  | nil => simp [PyData.depthAll]
  | cons d r ih =>
    have h1 := h d (.head _)
    have h2 := ih fun d hd => h d (.tail _ hd)
    simp [PyData.depthAll]; omega
theorem imgD_shaped {P : Pln} {N H : Nat} : SeqAt.shaped (imgD P N H) = true := by
  have l1 : ∀ r, PyData.canLay0 (rowD r) = true := fun r => by simp [rowD, PyData.canLay0, canLay_ints]
  have l2 : ∀ k, PyData.canLay0 (.list ((List.range H).map fun j => rowD (P k j))) = true := fun k => by
    rw [PyData.canLay0]
    exact canLay_all fun d hd => by obtain ⟨j, _, rfl⟩ := List.mem_map.mp hd; exact l1 _
  have d1 : ∀ r, PyData.depth (rowD r) ≤ 2 := fun r => by have := depth_ints r; simp [rowD, PyData.depth]; omega
  have d2 : ∀ k, PyData.depth (.list ((List.range H).map fun j => rowD (P k j))) ≤ 3 := fun k => by
    have := depth_all (ds := (List.range H).map fun j => rowD (P k j)) (n := 2) (fun d hd => by obtain ⟨j, _, rfl⟩ := List.mem_map.mp hd; exact d1 _)
    simp [PyData.depth]; omega
  have d3 := depth_all (ds := (List.range N).map fun k => .list ((List.range H).map fun j => rowD (P k j))) (n := 3) (fun d hd => by obtain ⟨j, _, rfl⟩ := List.mem_map.mp hd; exact d2 _)
  have l3 := canLay_all (ds := (List.range N).map fun k => .list ((List.range H).map fun j => rowD (P k j))) (fun d hd => by obtain ⟨j, _, rfl⟩ := List.mem_map.mp hd; exact l2 _)
  unfold imgD
  simp only [SeqAt.shaped, PyData.canLay0, PyData.depth, l3, Bool.true_and]
  first | (simp; omega) | omega
theorem blk_inj {H k k' j j' : Nat} (h : k * (H + 1) + j = k' * (H + 1) + j') (hj : j ≤ H) (hj' : j' ≤ H) : k = k' ∧ j = j' := by
  have e : k = k' := by
    have a1 : (k * (H + 1) + j) / (H + 1) = k := by rw [Nat.mul_comm, Nat.mul_add_div (by omega), Nat.div_eq_of_lt (by omega)]; rfl
    have a2 : (k' * (H + 1) + j') / (H + 1) = k' := by rw [Nat.mul_comm, Nat.mul_add_div (by omega), Nat.div_eq_of_lt (by omega)]; rfl
    rw [← a1, ← a2, h]
  subst e; exact ⟨rfl, by omega⟩
theorem blk_lt {H N k j : Nat} (hk : k < N) (hj : j ≤ H) : k * (H + 1) + j < N * (H + 1) := by
  have : (k + 1) * (H + 1) ≤ N * (H + 1) := Nat.mul_le_mul_right _ hk
  rw [Nat.add_mul] at this; omega
def imgEnd (b N H : Nat) : Nat := b + 3 + N * (H + 1)
theorem ImgAt.frame {σ σ' : AH} {b : Nat} {P : Pln} {N H W : Nat} (h : ImgAt σ b P N H W) (hf : ∀ i, b ≤ i → i < imgEnd b N H → σ'[i]? = σ[i]?) : ImgAt σ' b P N H W := by
  unfold imgEnd at hf
  refine ⟨(hf _ (by omega) (by omega)).trans h.ns, (hf _ (by omega) (by omega)).trans h.inst, (hf _ (by omega) (by omega)).trans h.top, fun k hk => ?_, fun k j hk hj => ?_⟩
  · have := blk_lt hk (Nat.le_refl H)
    exact (hf _ (by omega) (by omega)).trans (h.pl k hk)
  · have := blk_lt hk (Nat.le_of_lt hj)
    exact (hf _ (by omega) (by omega)).trans (h.row k j hk hj)
theorem ImgAt.set {σ : AH} {b : Nat} {P : Pln} {N H W : Nat} (h : ImgAt σ b P N H W) {k j : Nat} (hk : k < N) (hj : j < H) (r : List Int) : ImgAt (σ.set (b + 2 + k * (H + 1) + j) (oRow r)) b (fun k' j' => if k' = k ∧ j' = j then r else P k' j') N H W := by
  have hlt := blk_lt hk (Nat.le_of_lt hj)
  refine ⟨?_, ?_, ?_, fun k' hk' => ?_, fun k' j' hk' hj' => ?_⟩
  · rw [List.getElem?_set_ne (by omega)]; exact h.ns
  · rw [List.getElem?_set_ne (by omega)]; exact h.inst
  · rw [List.getElem?_set_ne (by omega)]; exact h.top
  · rw [List.getElem?_set_ne]
    · exact h.pl k' hk'
    · intro e
      have := (blk_inj (H := H) (k := k) (k' := k') (j := j) (j' := H) (by omega) (by omega) (by omega)).2
      omega
  · by_cases e : k' = k ∧ j' = j
    · obtain ⟨rfl, rfl⟩ := e
      have h1 := h.row k' j' hk' hj'
      rw [List.getElem?_set_self (List.getElem?_eq_some_iff.mp h1).1, if_pos ⟨rfl, rfl⟩]
    · rw [if_neg e, List.getElem?_set_ne]
      · exact h.row k' j' hk' hj'
      · intro e'
        have := blk_inj (H := H) (k := k) (k' := k') (j := j) (j' := j') (by omega) (by omega) (by omega)
        omega
theorem ImgAt.congr {σ : AH} {b : Nat} {P P' : Pln} {N H W : Nat} (h : ImgAt σ b P N H W) (e : ∀ k j, k < N → j < H → P k j = P' k j) : ImgAt σ b P' N H W :=
  ⟨h.ns, h.inst, h.top, h.pl, fun k j hk hj => by rw [← e k j hk hj]; exact h.row k j hk hj⟩
theorem at_planes {C : Cx} {A : Around} {σ : AH} {E : EX} {Q : V → AH → Prop} {b : Nat} {P : Pln} {N H W : Nat} (c : Law C) (h : ImgAt σ b P N H W) (hq : Q (.ref (b + 2 + N * (H + 1))) σ) : WAt C A (.ref (b + 1)) (Str.ofString "planes") σ Q E :=
  at_inst c.K clsI (by kernel_rfl) h.inst h.ns (by kernel_rfl) rfl hq
theorem at_height {C : Cx} {A : Around} {σ : AH} {E : EX} {Q : V → AH → Prop} {b : Nat} {P : Pln} {N H W : Nat} (c : Law C) (h : ImgAt σ b P N H W) (hq : Q (.int H) σ) : WAt C A (.ref (b + 1)) (Str.ofString "height") σ Q E :=
  at_inst c.K clsI (by kernel_rfl) h.inst h.ns (by kernel_rfl) rfl hq
theorem at_width {C : Cx} {A : Around} {σ : AH} {E : EX} {Q : V → AH → Prop} {b : Nat} {P : Pln} {N H W : Nat} (c : Law C) (h : ImgAt σ b P N H W) (hq : Q (.int W) σ) : WAt C A (.ref (b + 1)) (Str.ofString "width") σ Q E :=
  at_inst c.K clsI (by kernel_rfl) h.inst h.ns (by kernel_rfl) rfl hq
theorem number_ok {C : Cx} {A : Around} {σ : AH} {E : EX} {Q : V → AH → Prop} {v lo hi : Int} {w : Str} (c : Law C) (hd' : A.depth < recursionLimit) (h0 : lo ≤ v) (h1 : v ≤ hi) (hq : Q (.int v) σ) : WC C A (.ref 48) [.int v, .int lo, .int hi, .str w] σ Q E := by
  refine WC_def (pn := [Str.ofString "value", Str.ofString "least", Str.ofString "most", Str.ofString "what"]) (ln := []) (gl := [(Str.ofString "type", Value.type "type"), (Str.ofString "int", Value.type "int"), (Str.ofString "PackError", Value.ref 31), (Str.ofString "shown", Value.ref 41)]) (dv := []) (ds := []) (c.K _ _ rfl) rfl (codeRec_of c.K (by kernel_rfl)) (by first | assumption | omega | exact Nat.le_of_ble_eq_true rfl) .nil rfl (fun x v h => c.glo x v ((show ∀ p ∈ ([(Str.ofString "type", Value.type "type"), (Str.ofString "int", Value.type "int"), (Str.ofString "PackError", Value.ref 31), (Str.ofString "shown", Value.ref 41)] : List (Str × Value)), p ∈ lawGlo by decide +kernel) (x, v) h)) ?_ (by decide +kernel) (by decide +kernel) (by decide +kernel) (by decide +kernel) ?_
  · intro s xs hkp hl
    obtain ⟨x0, x1, x2, x3, rfl⟩ := len4 hl
    first | exact BindsTo.of_eq rfl | exact BindsTo.of_defaults rfl (hkp _ _ (c.K _ _ rfl)) rfl rfl rfl
  intro env henv
  replace c := c.wg [(Str.ofString "type", Value.type "type"), (Str.ofString "int", Value.type "int"), (Str.ofString "PackError", Value.ref 31), (Str.ofString "shown", Value.ref 41)]
  show WSs (C.wg [(Str.ofString "type", Value.type "type"), (Str.ofString "int", Value.type "int"), (Str.ofString "PackError", Value.ref 31), (Str.ofString "shown", Value.ref 41)]) _ _ _ [(Str.ofString "value", some (.int v)), (Str.ofString "least", some (.int lo)), (Str.ofString "most", some (.int hi)), (Str.ofString "what", some (.str w))] _ _ _
  walk_at "xx"
  refine WE_call (by walk_at "mem") callable_type ?_
  walk_at "xx"
  refine WC_typeI ?_
  refine WE_glob (by walk_at "mem") ?_
  refine isNot_self_k ?_
  walk_at "xx"
  refine ite_f (decide_eq_false (by omega)) ?_
  walk_at "xx"
  refine ite_f (decide_eq_false (by omega)) ?_
  walk_at "xx"
  exact hq
theorem shownI {C : Cx} {A : Around} {σ : AH} {E : EX} {Q : V → AH → Prop} {v : Int} (c : Law C) (hd' : A.depth < recursionLimit) (h0 : 0 ≤ v) (h1 : v < 1000000) (hq : Q (.str (Str.ofString (toString v))) σ) : WC C A (.ref 41) [.int v] σ Q E := by
  refine WC_def (pn := [Str.ofString "value"]) (ln := []) (gl := [(Str.ofString "type", Value.type "type"), (Str.ofString "str", Value.type "str"), (Str.ofString "int", Value.type "int")]) (dv := []) (ds := []) (c.K _ _ rfl) rfl (codeRec_of c.K (by kernel_rfl)) (by first | assumption | omega | exact Nat.le_of_ble_eq_true rfl) .nil rfl (fun x v h => c.glo x v ((show ∀ p ∈ ([(Str.ofString "type", Value.type "type"), (Str.ofString "str", Value.type "str"), (Str.ofString "int", Value.type "int")] : List (Str × Value)), p ∈ lawGlo by decide +kernel) (x, v) h)) ?_ (by decide +kernel) (by decide +kernel) (by decide +kernel) (by decide +kernel) ?_
  · intro s xs hkp hl
    obtain ⟨x0, rfl⟩ := len1 hl
    first | exact BindsTo.of_eq rfl | exact BindsTo.of_defaults rfl (hkp _ _ (c.K _ _ rfl)) rfl rfl rfl
  intro env henv
  replace c := c.wg [(Str.ofString "type", Value.type "type"), (Str.ofString "str", Value.type "str"), (Str.ofString "int", Value.type "int")]
  show WSs (C.wg [(Str.ofString "type", Value.type "type"), (Str.ofString "str", Value.type "str"), (Str.ofString "int", Value.type "int")]) _ _ _ [(Str.ofString "value", some (.int v))] _ _ _
  walk_at "xx"
  refine WE_call (by walk_at "mem") callable_type ?_
  walk_at "xx"
  refine WC_typeI ?_
  refine WE_glob (by walk_at "mem") ?_
  refine is_other_k (by decide) ?_
  walk_at "xx"
  refine WE_call (by walk_at "mem") callable_type ?_
  walk_at "xx"
  refine WC_typeI ?_
  refine WE_glob (by walk_at "mem") ?_
  refine is_self_k ?_
  walk_at "xx"
  refine pow_ii (by decide) (by decide) (by decide) ?_
  walk_at "xx"
  refine ite_t (decide_eq_true (by have : (10 : Int) ^ Int.toNat 9 = 1000000000 := by decide
                                   omega)) ?_
  walk_at "xx"
  refine pow_ii (by decide) (by decide) (by decide) ?_
  walk_at "xx"
  refine ite_t (decide_eq_true (by have : (10 : Int) ^ Int.toNat 9 = 1000000000 := by decide
                                   omega)) ?_
  walk_at "xx"
  refine WE_call (by walk_at "mem") callable_type ?_
  walk_at "xx"
  refine WC_strI (log_small h0 h1) ?_
  walk_at "xx"
  exact hq
theorem number_bad {C : Cx} {A : Around} {σ : AH} {X : AH → Prop} {v lo hi : Int} {w : Str} (c : Law C) (hA : A.handled = none) (hd' : A.depth + 1 < recursionLimit) (h0 : 0 ≤ v) (h1 : v < 1000000) (hlo : lo ≤ v) (hbad : hi < v) (hw : w.length ≤ 100) (hq : X σ) : RC C A (.ref 48) [.int v, .int lo, .int hi, .str w] σ 31 X := by
  refine RCc.toRC (RCc_def (pn := [Str.ofString "value", Str.ofString "least", Str.ofString "most", Str.ofString "what"]) (ln := []) (gl := [(Str.ofString "type", Value.type "type"), (Str.ofString "int", Value.type "int"), (Str.ofString "PackError", Value.ref 31), (Str.ofString "shown", Value.ref 41)]) (dv := []) (ds := []) (c.K _ _ rfl) rfl (codeRec_of c.K (by kernel_rfl)) (by first | assumption | omega | exact Nat.le_of_ble_eq_true rfl) .nil rfl (fun x v h => c.glo x v ((show ∀ p ∈ ([(Str.ofString "type", Value.type "type"), (Str.ofString "int", Value.type "int"), (Str.ofString "PackError", Value.ref 31), (Str.ofString "shown", Value.ref 41)] : List (Str × Value)), p ∈ lawGlo by decide +kernel) (x, v) h)) ?_ (by decide +kernel) (by decide +kernel) (by decide +kernel) (by decide +kernel) ?_)
  · intro s xs hkp hl
    obtain ⟨x0, x1, x2, x3, rfl⟩ := len4 hl
    first | exact BindsTo.of_eq rfl | exact BindsTo.of_defaults rfl (hkp _ _ (c.K _ _ rfl)) rfl rfl rfl
  intro env henv
  replace c := c.wg [(Str.ofString "type", Value.type "type"), (Str.ofString "int", Value.type "int"), (Str.ofString "PackError", Value.ref 31), (Str.ofString "shown", Value.ref 41)]
  show RSs (C.wg [(Str.ofString "type", Value.type "type"), (Str.ofString "int", Value.type "int"), (Str.ofString "PackError", Value.ref 31), (Str.ofString "shown", Value.ref 41)]) _ _ _ [(Str.ofString "value", some (.int v)), (Str.ofString "least", some (.int lo)), (Str.ofString "most", some (.int hi)), (Str.ofString "what", some (.str w))] _ _ _ _
  have hlen := len_str_of_int v
  have e1 : (Str.ofString "no ").length = 3 := by decide +kernel
  have e2 : (Str.ofString ": ").length = 2 := by decide +kernel
  refine RSs_here (RS_if ?_)
  walk_at "xx"
  refine WE_call (by walk_at "mem") callable_type ?_
  walk_at "xx"
  refine WC_typeI ?_
  refine WE_glob (by walk_at "mem") ?_
  refine isNot_self_k ?_
  walk_at "xx"
  refine ite_f (decide_eq_false (by omega)) ?_
  walk_at "xx"
  refine ite_t (decide_eq_true (by omega)) ?_
  walk_at "xx"
  refine RSs_here (RS_raise (by walk_at "mem") c.exc PySem.F.excBase_ValueError hA ?_)
  walk_at "xx"
  refine add_ss (by rw [e1]; simp [sizeLine]; omega) ?_
  walk_at "xx"
  refine add_ss (by rw [Str.length_append, e1, e2]; simp [sizeLine]; omega) ?_
  walk_at "xx"
  refine WE_call (by walk_at "mem") c.c41 ?_
  walk_at "xx"
  refine shownI c (by show A.depth + 1 < _; exact hd') h0 h1 ?_
  refine add_ss (by rw [Str.length_append, Str.length_append, e1, e2]; have e3 : sizeLine = 16777216 := rfl; omega) ?_
  walk_at "xx"
  exact hq
def ISt (σ0 : AH) (es : List (Str × V)) (J : AH) : AH := σ0 ++ [.ns es] ++ [.inst 96 σ0.length] ++ J
theorem ISt.ns {σ0 J : AH} {es : List (Str × V)} : (ISt σ0 es J)[σ0.length]? = some (.ns es) := by
  unfold ISt; rw [List.append_assoc, List.append_assoc, List.getElem?_append_right (Nat.le_refl _)]; simp
theorem ISt.inst {σ0 J : AH} {es : List (Str × V)} : (ISt σ0 es J)[σ0.length + 1]? = some (.inst 96 σ0.length) := by
  unfold ISt; rw [List.append_assoc, List.append_assoc, List.getElem?_append_right (by omega)]; simp
theorem ISt.set {σ0 J : AH} {es es' : List (Str × V)} : (ISt σ0 es J).set σ0.length (.ns es') = ISt σ0 es' J := by
  unfold ISt; rw [List.append_assoc, List.append_assoc, List.set_append_right _ _ (Nat.le_refl _)]; simp
theorem ISt.blk {σ0 J : AH} {es : List (Str × V)} {i : Nat} {o : O} (h : J[i]? = some o) : (ISt σ0 es J)[σ0.length + 2 + i]? = some o := by
  unfold ISt
  rw [List.getElem?_append_right (by simp <;> omega)]
  rw [← h]; congr 1; simp <;> omega
theorem ISt.len {σ0 J : AH} {es : List (Str × V)} : (ISt σ0 es J).length = σ0.length + 2 + J.length := by unfold ISt; simp; omega
theorem ISt.snoc {σ0 J : AH} {es : List (Str × V)} {o : O} : ISt σ0 es J ++ [o] = ISt σ0 es (J ++ [o]) := by unfold ISt; rw [List.append_assoc (bs := J)]
theorem ISt.obj {C : Cx} {σ0 J : AH} {es : List (Str × V)} {v : V} {o : O} (h : ObjAt C σ0 v o) : ObjAt C (ISt σ0 es J) v o := ObjAt.up (ObjAt.up (ObjAt.up h))
theorem set_inst2 {C : Cx} {A : Around} {σ σ' : AH} {E : EX} {K : Frag} {Cl : Addr} {i d : Nat} {es : List (Str × V)} {name : Str} {x : V} {Q : AH → Prop} (X : K.In C.G) (ok : ClsOk K Cl) (ht : takerIn K Cl name = some none) (b : σ[i]? = some (.inst Cl d)) (bd : σ[d]? = some (.ns es))
    (hz : es.length ≤ sizeLine) (he : σ.set d (.ns (putNs name x es)) = σ') (h : Q σ') : WSt C A (.ref i) name x σ Q E := set_inst X ok ht b bd hz (he ▸ h)
theorem rng_getD {n i : Nat} {f : Nat → V} (h : i < n) : ((List.range n).map f).getD i .none = f i := by simp [List.getD, h]
theorem rng_get {n i : Nat} {f : Nat → V} (h : i < n) : ((List.range n).map f)[i]? = some (f i) := by simp [h]
theorem init_img {C : Cx} {A : Around} {σ0 : AH} {E : EX} {Q : V → AH → Prop} {v : V} {P : Pln} {N H W : Nat} (c : Law C) (hA : A.handled = none) (hd' : A.depth + 1 < recursionLimit) (hu : A.units + 200 < cLine)
    (hP : PlAt C σ0 v P N H) (hN : N = 1 ∨ N = 3) (hH : 1 ≤ H ∧ H ≤ 512) (hW : 1 ≤ W ∧ W ≤ 512) (hlen : ∀ k j, k < N → j < H → (P k j).length = W) (hs : ∀ k j, k < N → j < H → ∀ x ∈ P k j, 0 ≤ x ∧ x ≤ 255)
    (hq : ∀ J, ImgAt (σ0 ++ J) σ0.length P N H W → Q .none (σ0 ++ J)) : WCc C A (.ref 60) [.ref (σ0.length + 1), v] (σ0 ++ [.ns []] ++ [.inst 96 σ0.length]) Q E := by
  refine WCc_def (pn := [Str.ofString "self", Str.ofString "planes"]) (ln := [Str.ofString "plane", Str.ofString "row", Str.ofString "sample"]) (gl := [(Str.ofString "len", Value.builtin "len"), (Str.ofString "need_number", Value.ref 48), (Str.ofString "LONGEST", Value.int 512 233)]) (dv := []) (ds := []) (c.K _ _ rfl) rfl (codeRec_of c.K (by kernel_rfl)) (by first | assumption | omega | exact Nat.le_of_ble_eq_true rfl) .nil rfl (fun x v h => c.glo x v ((show ∀ p ∈ ([(Str.ofString "len", Value.builtin "len"), (Str.ofString "need_number", Value.ref 48), (Str.ofString "LONGEST", Value.int 512 233)] : List (Str × Value)), p ∈ lawGlo by decide +kernel) (x, v) h)) ?_ (by decide +kernel) (by decide +kernel) (by decide +kernel) (by decide +kernel) ?_
  · intro s xs hkp hl
    obtain ⟨x0, x1, rfl⟩ := len2 hl
    first | exact BindsTo.of_eq rfl | exact BindsTo.of_defaults rfl (hkp _ _ (c.K _ _ rfl)) rfl rfl rfl
  intro env henv
  replace c := c.wg [(Str.ofString "len", Value.builtin "len"), (Str.ofString "need_number", Value.ref 48), (Str.ofString "LONGEST", Value.int 512 233)]
  show WSs (C.wg [(Str.ofString "len", Value.builtin "len"), (Str.ofString "need_number", Value.ref 48), (Str.ofString "LONGEST", Value.int 512 233)]) _ _ _ [(Str.ofString "self", some (.ref (σ0.length + 1))), (Str.ofString "planes", some (v)), (Str.ofString "plane", none), (Str.ofString "row", none), (Str.ofString "sample", none)] _ _ _
  have hA' : (A.deeper env).handled = none := hA
  obtain ⟨pv, rv, p1, p2, p3⟩ := hP.ex
  have e0 : σ0 ++ [O.ns []] ++ [O.inst 96 σ0.length] = ISt σ0 [] [] := by unfold ISt; simp
  rw [e0]
  refine WSs_cons ?_
  refine WS_try_ok ?_
  refine WSs_cons ?_
  refine WS_setattrC ?_
  refine WE_ListComp2g (l2 := []) (capt := []) henv (by show compOk _ _ _ [] [] = true; decide +kernel) (by simp) (by simp) (by simp) ?_
  refine WItr_of ?_
  walk_at "xx"
  refine ⟨_, _, _, Itb_list hA' (ISt.obj p1), ?_⟩
  refine ⟨by simp [sizeLine]; omega, fun i acc σ' => σ' = ISt σ0 [] (planesBlk (σ0.length + 2) P H i) ∧ acc = (List.range i).map (fun k => V.ref (σ0.length + 2 + k * (H + 1) + H)), ⟨rfl, rfl⟩, ?_, ?_⟩
  · rintro i acc σ' pv' hi hp ⟨rfl, rfl⟩
    have hi' : i < N := by simpa using hi
    have hp' : pv i = pv' := (rng_getD hi').symm.trans hp
    subst hp'
    refine ⟨ISt.obj p1, fun cenv hc => WIf_nil ?_⟩
    rw [if_pos rfl]
    refine WE_ListComp2g (l2 := [(Str.ofString "list", Value.type "list")]) (capt := []) hc (by show compOk _ _ _ [] [Str.ofString "list"] = true; decide +kernel) (by simp) (by simp) (by intro p hp; simp only [List.mem_singleton] at hp; subst hp; exact .inr (c.glo _ _ (by decide +kernel))) ?_
    refine WItr_of ?_
    walk_at "xx"
    refine ⟨_, _, _, Itb_list hA' (ISt.obj (p2 i hi')), ?_⟩
    refine ⟨by simp [sizeLine]; omega, fun j acc σ' => σ' = ISt σ0 [] (planesBlk (σ0.length + 2) P H i ++ (List.range j).map (fun j => oRow (P i j))) ∧ acc = (List.range j).map (fun j => V.ref (σ0.length + 2 + i * (H + 1) + j)), ⟨by simp, rfl⟩, ?_, ?_⟩
    · rintro j acc σ' rv' hj hr ⟨rfl, rfl⟩
      have hj' : j < H := by simpa using hj
      have hr' : rv i j = rv' := (rng_getD hj').symm.trans hr
      subst hr'
      refine ⟨ISt.obj (p2 i hi'), fun cenv hc => WIf_nil ?_⟩
      rw [if_pos rfl]
      refine WE_call (C := C) (by walk_at "mem") callable_type ?_
      walk_at "xx"
      refine WC_list (xs := (P i j).map .int) (ISt.obj (p3 i j hi' hj')) (by rw [List.length_map, hlen i j hi' hj']; simp [sizeLine]; omega) ⟨?_, ?_⟩
      · rw [ISt.snoc, List.range_succ, List.map_append, ← List.append_assoc]; rfl
      · rw [List.range_succ, List.map_append, ISt.len, List.length_append, planesBlk_len]
        simp [Nat.add_assoc]
    · rintro acc σ' ⟨rfl, rfl⟩
      refine ⟨ISt.obj (p2 i hi'), ?_, ?_⟩
      · rw [ISt.snoc]
        congr 1
        rw [planesBlk, planeBlk]
        simp
      · rw [List.range_succ, List.map_append, ISt.len, List.length_append, planesBlk_len]
        simp [Nat.add_assoc]
  rintro acc σ' ⟨rfl, rfl⟩
  refine ⟨ISt.obj p1, ?_⟩
  show WE _ _ _ _ _ _ _ _
  rw [ISt.snoc]
  have hNl : (((List.range N).map pv).length) = N := by simp
  rw [hNl]
  have hlenB : (ISt σ0 [] (planesBlk (σ0.length + 2) P H N)).length = σ0.length + 2 + N * (H + 1) := by rw [ISt.len, planesBlk_len]
  rw [hlenB]
  generalize hB : planesBlk (σ0.length + 2) P H N ++ [O.list ((List.range N).map fun k => V.ref (σ0.length + 2 + k * (H + 1) + H))] = J
  have j1 : J[N * (H + 1)]? = some (.list ((List.range N).map fun k => V.ref (σ0.length + 2 + k * (H + 1) + H))) := by rw [← hB, List.getElem?_append_right (by rw [planesBlk_len]; omega), planesBlk_len]; simp
  have j2 : ∀ k, k < N → J[k * (H + 1) + H]? = some (.list ((List.range H).map fun j => V.ref (σ0.length + 2 + k * (H + 1) + j))) := fun k hk => by rw [← hB]; exact gl_up (blk_pl hk)
  have j3 : ∀ k j, k < N → j < H → J[k * (H + 1) + j]? = some (oRow (P k j)) := fun k j hk hj => by rw [← hB]; exact gl_up (blk_row hk hj)
  clear hB hlenB
  walk_at "xx"
  refine set_inst2 (d := σ0.length) (es := []) c.K clsI (by kernel_rfl) ISt.inst ISt.ns (by simp) ISt.set ?_
  have top : ∀ {es : List (Str × V)} {J' : AH}, ObjAt C (ISt σ0 es (J ++ J')) (.ref (σ0.length + 2 + N * (H + 1))) (.list ((List.range N).map fun k => V.ref (σ0.length + 2 + k * (H + 1) + H))) := fun {es J'} => ISt.blk (gl_up j1)
  have pl : ∀ {es : List (Str × V)} {J' : AH} {k : Nat}, k < N → ObjAt C (ISt σ0 es (J ++ J')) (.ref (σ0.length + 2 + k * (H + 1) + H)) (.list ((List.range H).map fun j => V.ref (σ0.length + 2 + k * (H + 1) + j))) := fun {es J' k} hk => by
    have := ISt.blk (σ0 := σ0) (es := es) (gl_up (J := J') (j2 k hk))
    show (ISt σ0 es (J ++ J'))[_]? = _
    rw [← this]; congr 1; omega
  have row : ∀ {es : List (Str × V)} {J' : AH} {k j : Nat}, k < N → j < H → ObjAt C (ISt σ0 es (J ++ J')) (.ref (σ0.length + 2 + k * (H + 1) + j)) (oRow (P k j)) := fun {es J' k j} hk hj => by
    have := ISt.blk (σ0 := σ0) (es := es) (gl_up (J := J') (j3 k j hk hj))
    show (ISt σ0 es (J ++ J'))[_]? = _
    rw [← this]; congr 1; omega
  have eJ : J = J ++ [] := by simp
  rw [eJ]
  generalize ([] : AH) = J'
  walk_at "xx"
  refine WE_call (C := C) (by walk_at "mem") callable_builtin ?_
  walk_at "xx"
  refine at_inst (v := .ref (σ0.length + 2 + N * (H + 1))) c.K clsI (by kernel_rfl) ISt.inst ISt.ns (by kernel_rfl) rfl ?_
  walk_at "xx"
  refine WC_len top (by simp; omega) ?_
  walk_at "xx"
  rw [ISt.snoc, List.append_assoc]
  refine nin_tuple_dd (xs := [.int 1, .int 3]) .int (.tuple (xs := [.int 1, .int 3]) (by show (ISt _ _ _)[_]? = _; rw [← List.append_assoc, ← ISt.snoc]; exact ObjAt.new (C := C) rfl) (.cons .int (.cons .int .nil))) (by decide +kernel) rfl (by show A.units + _ + 65 < _; omega) ?_
  rw [show (!([PyData.int 1, PyData.int 3].any fun y => PyData.eqv y (.int (((List.range N).map fun k => V.ref (σ0.length + 2 + k * (H + 1) + H)).length : Nat)))) = false by rcases hN with rfl | rfl <;> simp [PyData.eqv]]
  generalize J' ++ [O.tuple [V.int 1, V.int 3]] = J''
  clear eJ
  walk_at "xx"
  refine WE_call (C := C) (by walk_at "mem") callable_builtin ?_
  walk_at "xx"
  refine at_inst (v := .ref (σ0.length + 2 + N * (H + 1))) c.K clsI (by kernel_rfl) ISt.inst ISt.ns (by kernel_rfl) rfl ?_
  walk_at "xx"
  refine item_list top (by decide) (by decide) (rng_get (by omega)) ?_
  walk_at "xx"
  refine WC_len (pl (by omega)) (by simp; omega) ?_
  rw [show (((List.range H).map fun j => V.ref (σ0.length + 2 + Int.toNat 0 * (H + 1) + j)).length : Int) = H by simp]
  walk_at "xx"
  refine set_inst2 (d := σ0.length) c.K clsI (by kernel_rfl) ISt.inst ISt.ns (Nat.le_trans putNs_len (Nat.le_of_ble_eq_true rfl)) ISt.set ?_
  walk_at "xx"
  refine at_inst (v := .int H) c.K clsI (by kernel_rfl) ISt.inst ISt.ns (by kernel_rfl) rfl ?_
  walk_at "xx"
  refine ite_t (decide_eq_true (by omega)) ?_
  refine WE_call (C := C) (by walk_at "mem") callable_builtin ?_
  walk_at "xx"
  refine at_inst (v := .ref (σ0.length + 2 + N * (H + 1))) c.K clsI (by kernel_rfl) ISt.inst ISt.ns (by kernel_rfl) rfl ?_
  walk_at "xx"
  refine item_list top (by decide) (by decide) (rng_get (by omega)) ?_
  walk_at "xx"
  refine item_list (pl (by omega)) (by decide) (by decide) (rng_get (by omega)) ?_
  walk_at "xx"
  refine WC_len (row (by omega) (by omega)) (by rw [List.length_map, hlen _ _ (by omega) (by omega)]; omega) ?_
  rw [show (((P (Int.toNat 0) (Int.toNat 0)).map V.int).length : Int) = W by rw [List.length_map, hlen _ _ (by omega) (by omega)]]
  walk_at "xx"
  refine set_inst2 (d := σ0.length) c.K clsI (by kernel_rfl) ISt.inst ISt.ns (Nat.le_trans putNs_len (Nat.le_trans (Nat.succ_le_succ putNs_len) (Nat.le_of_ble_eq_true rfl))) ISt.set ?_
  have eN : putNs (Str.ofString "width") (V.int W) (putNs (Str.ofString "height") (V.int H) (putNs (Str.ofString "planes") (V.ref (σ0.length + 2 + N * (H + 1))) [])) = [(Str.ofString "planes", .ref (σ0.length + 2 + N * (H + 1))), (Str.ofString "height", .int H), (Str.ofString "width", .int W)] := by kernel_rfl
  rw [eN]
  generalize hes : ([(Str.ofString "planes", .ref (σ0.length + 2 + N * (H + 1))), (Str.ofString "height", .int H), (Str.ofString "width", .int W)] : List (Str × V)) = es
  have g1 : es.lookup (Str.ofString "planes") = some (.ref (σ0.length + 2 + N * (H + 1))) := by rw [← hes]; kernel_rfl
  have g2 : es.lookup (Str.ofString "height") = some (.int H) := by rw [← hes]; kernel_rfl
  have g3 : es.lookup (Str.ofString "width") = some (.int W) := by rw [← hes]; kernel_rfl
  have fin : ImgAt (ISt σ0 es (J ++ J'')) σ0.length P N H W := ⟨by rw [hes]; exact ISt.ns, ISt.inst, top, fun k hk => pl hk, fun k j hk hj => row hk hj⟩
  clear hes eN j1 j2 j3
  walk_at "xx"
  refine WE_call (C := C) (by walk_at "mem") c.c48 ?_
  walk_at "xx"
  refine at_inst c.K clsI (by kernel_rfl) ISt.inst ISt.ns g2 rfl ?_
  walk_at "xx"
  refine WE_globi (by walk_at "mem") ?_
  walk_at "xx"
  refine number_ok c (by show A.depth + 1 < _; omega) (by omega) (by omega) ?_
  walk_at "xx"
  refine WE_call (C := C) (by walk_at "mem") c.c48 ?_
  walk_at "xx"
  refine at_inst c.K clsI (by kernel_rfl) ISt.inst ISt.ns g3 rfl ?_
  walk_at "xx"
  refine WE_globi (by walk_at "mem") ?_
  walk_at "xx"
  refine number_ok c (by show A.depth + 1 < _; omega) (by omega) (by omega) ?_
  walk_at "xx"
  refine WS_for (WItr_of ?_)
  walk_at "xx"
  refine at_inst c.K clsI (by kernel_rfl) ISt.inst ISt.ns g1 rfl ?_
  refine ⟨_, _, _, Itb_list hA' top, ?_⟩
  refine ⟨fun i ρ' σ' => ∃ a1 a2 a3, σ' = ISt σ0 es (J ++ J'') ∧ ρ' = [(Str.ofString "self", some (V.ref (σ0.length + 1))), (Str.ofString "planes", some v), (Str.ofString "plane", a1), (Str.ofString "row", a2), (Str.ofString "sample", a3)], ⟨_, _, _, rfl, rfl⟩, ?_, ?_⟩
  · rintro i ρ' σ' hi ⟨a1, a2, a3, rfl, rfl⟩
    have hi' : i < N := by simpa using hi
    refine ⟨top, ?_⟩
    rw [rng_getD hi']
    walk_at "xx"
    refine WE_call (C := C) (by walk_at "mem") callable_builtin ?_
    walk_at "xx"
    refine WC_len (pl hi') (by simp; omega) ?_
    walk_at "xx"
    refine at_inst c.K clsI (by kernel_rfl) ISt.inst ISt.ns g2 rfl ?_
    walk_at "xx"
    refine ite_f (by simp) ?_
    walk_at "xx"
    refine WS_for (WItr_of ?_)
    walk_at "xx"
    refine ⟨_, _, _, Itb_list hA' (pl hi'), ?_⟩
    refine ⟨fun j ρ' σ' => ∃ a2 a3, σ' = ISt σ0 es (J ++ J'') ∧ ρ' = [(Str.ofString "self", some (V.ref (σ0.length + 1))), (Str.ofString "planes", some v), (Str.ofString "plane", some (V.ref (σ0.length + 2 + i * (H + 1) + H))), (Str.ofString "row", a2), (Str.ofString "sample", a3)], ⟨_, _, rfl, rfl⟩, ?_, ?_⟩
    · rintro j ρ' σ' hj ⟨a2, a3, rfl, rfl⟩
      have hj' : j < H := by simpa using hj
      refine ⟨pl hi', ?_⟩
      rw [rng_getD hj']
      walk_at "xx"
      refine WE_call (C := C) (by walk_at "mem") callable_builtin ?_
      walk_at "xx"
      refine WC_len (row hi' hj') (by rw [List.length_map, hlen _ _ hi' hj']; omega) ?_
      walk_at "xx"
      refine at_inst c.K clsI (by kernel_rfl) ISt.inst ISt.ns g3 rfl ?_
      walk_at "xx"
      refine ite_f (by simp [hlen i j hi' hj']) ?_
      walk_at "xx"
      refine WS_for (WItr_of ?_)
      walk_at "xx"
      refine ⟨_, _, _, Itb_list hA' (row hi' hj'), ?_⟩
      refine ⟨fun x ρ' σ' => ∃ a3, σ' = ISt σ0 es (J ++ J'') ∧ ρ' = [(Str.ofString "self", some (V.ref (σ0.length + 1))), (Str.ofString "planes", some v), (Str.ofString "plane", some (V.ref (σ0.length + 2 + i * (H + 1) + H))), (Str.ofString "row", some (V.ref (σ0.length + 2 + i * (H + 1) + j))), (Str.ofString "sample", a3)], ⟨_, rfl, rfl⟩, ?_, ?_⟩
      · rintro x ρ' σ' hx ⟨a3, rfl, rfl⟩
        refine ⟨row hi' hj', ?_⟩
        rw [List.length_map] at hx
        have hm := hs i j hi' hj' ((P i j).getD x 0) (by simp [List.getD, hx])
        rw [getD_v _ hx]
        walk_at "xx"
        refine WE_call (C := C) (by walk_at "mem") c.c48 ?_
        walk_at "xx"
        refine number_ok c (by show A.depth + 1 < _; omega) hm.1 hm.2 ?_
        walk_at "xx"
        exact ⟨_, rfl, rfl⟩
      · rintro ρ' σ' ⟨a3, rfl, rfl⟩
        refine ⟨row hi' hj', ?_⟩
        walk_at "xx"
        exact ⟨_, _, rfl, rfl⟩
    · rintro ρ' σ' ⟨a2, a3, rfl, rfl⟩
      refine ⟨pl hi', ?_⟩
      walk_at "xx"
      exact ⟨_, _, _, rfl, rfl⟩
  · rintro ρ' σ' ⟨a1, a2, a3, rfl, rfl⟩
    refine ⟨top, ?_⟩
    walk_at "xx"
    unfold ISt at fin ⊢
    rw [List.append_assoc, List.append_assoc] at fin ⊢
    exact hq _ fin
theorem new_img {C : Cx} {A : Around} {σ : AH} {E : EX} {Q : V → AH → Prop} {v : V} {P : Pln} {N H W : Nat} (c : Law C) (hA : A.handled = none) (hd' : A.depth + 2 < recursionLimit) (hu : A.units + 220 < cLine)
    (hP : Rd C σ v (imgD P N H)) (hN : N = 1 ∨ N = 3) (hH : 1 ≤ H ∧ H ≤ 512) (hW : 1 ≤ W ∧ W ≤ 512) (hlen : ∀ k j, k < N → j < H → (P k j).length = W) (hs : ∀ k j, k < N → j < H → ∀ x ∈ P k j, 0 ≤ x ∧ x ≤ 255)
    (hq : ∀ J, ImgAt (σ ++ J) σ.length P N H W → Q (.ref (σ.length + 1)) (σ ++ J)) : WC C A (.ref 96) [v] σ Q E := by
  refine WC_new (fI := 60) c.K clsI (by kernel_rfl) (by kernel_rfl) fun xs => ?_
  exact init_img c hA (by show A.depth + 1 + 1 < _; omega) (by have hcu : (Code.builtin "type.__call__" ⟨.ref 96 :: xs, []⟩).cUnits ≤ 8 := Nat.le_of_ble_eq_true rfl; show A.units + (Code.builtin "type.__call__" ⟨.ref 96 :: xs, []⟩).cUnits + 200 < _; omega) (PlAt.of hP) hN hH hW hlen hs fun J hi => ⟨rfl, hq J hi⟩
def pix (kind a b row k c : Int) : Int := [a, (a + b * (row + c) + 31 * k).fmod 256, (a * (row + 1) + b * c * c + 77 * k).fmod 256, if (row * b + c).fmod 5 == 0 then 255 - a else a].getD kind.toNat 0
theorem pix_ok {kind a b row k c : Int} (h0 : 0 ≤ kind) (h1 : kind < 4) (a0 : 0 ≤ a) (a1 : a < 256) : 0 ≤ pix kind a b row k c ∧ pix kind a b row k c ≤ 255 := by
  have f1 : 0 ≤ (a + b * (row + c) + 31 * k).fmod 256 ∧ (a + b * (row + c) + 31 * k).fmod 256 < 256 := ⟨Int.fmod_nonneg_of_pos _ (by decide), Int.fmod_lt_of_pos _ (by decide)⟩
  have f2 : 0 ≤ (a * (row + 1) + b * c * c + 77 * k).fmod 256 ∧ (a * (row + 1) + b * c * c + 77 * k).fmod 256 < 256 := ⟨Int.fmod_nonneg_of_pos _ (by decide), Int.fmod_lt_of_pos _ (by decide)⟩
  have four : kind = 0 ∨ kind = 1 ∨ kind = 2 ∨ kind = 3 := by omega
  unfold pix
  rcases four with rfl | rfl | rfl | rfl
  · show 0 ≤ a ∧ a ≤ 255; omega
  · show 0 ≤ (a + b * (row + c) + 31 * k).fmod 256 ∧ (a + b * (row + c) + 31 * k).fmod 256 ≤ 255; omega
  · show 0 ≤ (a * (row + 1) + b * c * c + 77 * k).fmod 256 ∧ (a * (row + 1) + b * c * c + 77 * k).fmod 256 ≤ 255; omega
  · show 0 ≤ (if (row * b + c).fmod 5 == 0 then 255 - a else a) ∧ (if (row * b + c).fmod 5 == 0 then 255 - a else a) ≤ 255; split <;> omega
def lawP (kind a b : Int) (W : Nat) : Pln := fun k j => (List.range W).map fun c : Nat => pix kind a b j k c
/- the blocks that _law_image makes -/
def lpBlk (B : Nat) (P : Pln) (H : Nat) : Nat → AH
  | 0 => []
  | n + 1 => lpBlk B P H n ++ ([.list ((List.range H).map fun j => .ref (B + n * (H + 1) + 1 + j))] ++ (List.range H).map (fun j => oRow (P n j)))
theorem lpBlk_len {B H : Nat} {P : Pln} : ∀ n, (lpBlk B P H n).length = n * (H + 1)
  | 0 => by simp [lpBlk]
  | n + 1 => by rw [lpBlk, List.length_append, lpBlk_len n, Nat.add_mul]; simp
theorem lp_pl {B H : Nat} {P : Pln} : ∀ {n k : Nat}, k < n → (lpBlk B P H n)[k * (H + 1)]? = some (.list ((List.range H).map fun j => .ref (B + k * (H + 1) + 1 + j)))
  | n + 1, k, hk => by
    rw [lpBlk]
    by_cases h : k < n
    · have hlt := blk_lt (H := H) (j := 0) h (by omega)
      rw [List.getElem?_append_left (by rw [lpBlk_len]; omega)]; exact lp_pl h
    · have : k = n := by omega
      subst this
      rw [List.getElem?_append_right (by rw [lpBlk_len]; omega), lpBlk_len]; simp
theorem lp_row {B H : Nat} {P : Pln} : ∀ {n k j : Nat}, k < n → j < H → (lpBlk B P H n)[k * (H + 1) + 1 + j]? = some (oRow (P k j))
  | n + 1, k, j, hk, hj => by
    rw [lpBlk]
    by_cases h : k < n
    · have hlt := blk_lt (H := H) (j := j + 1) h (by omega)
      rw [List.getElem?_append_left (by rw [lpBlk_len]; omega)]; exact lp_row h hj
    · have : k = n := by omega
      subst this
      rw [List.getElem?_append_right (by rw [lpBlk_len]; omega), lpBlk_len, List.getElem?_append_right (by simp; omega)]
      simp [hj, show k * (H + 1) + 1 + j - k * (H + 1) - 1 = j by omega]
theorem law_image_spec {C : Cx} {A : Around} {σ : AH} {E : EX} {Q : V → AH → Prop} {a0 : Addr} {ns : List Int} {at0 most : Int} {N : Nat} (c : Law C) (hA : A.handled = none) (hd' : A.depth + 1 < recursionLimit) (hg : (a0, O.list (ns.map .int)) ∈ C.gob) (hl : ns.length ≤ 63)
    (h0 : 0 ≤ at0) (hm : 1 ≤ most ∧ most ≤ 512) (hN : N ≤ 3)
    (hq : ∀ v J P (H W : Nat), 1 ≤ H → (H : Int) ≤ most → 1 ≤ W → (W : Int) ≤ most → Rd C (σ ++ J) v (imgD P N H) → (∀ k j, (P k j).length = W) → (∀ k j, ∀ x ∈ P k j, 0 ≤ x ∧ x ≤ 255) → Q v (σ ++ J)) :
    WC C A (.ref 125) [.k (.ref a0), .int at0, .int N, .int most] σ Q E := by
  refine WC_def (pn := [Str.ofString "script", Str.ofString "at", Str.ofString "planes", Str.ofString "most"]) (ln := [Str.ofString "width", Str.ofString "height", Str.ofString "kind", Str.ofString "a", Str.ofString "b", Str.ofString "out", Str.ofString "k", Str.ofString "plane", Str.ofString "row"]) (gl := [(Str.ofString "range", Value.type "range"), (Str.ofString "_law_cell", Value.ref 120)]) (dv := []) (ds := []) (c.K _ _ rfl) rfl (codeRec_of c.K (by kernel_rfl)) (by first | assumption | omega | exact Nat.le_of_ble_eq_true rfl) .nil rfl (fun x v h => c.glo x v ((show ∀ p ∈ ([(Str.ofString "range", Value.type "range"), (Str.ofString "_law_cell", Value.ref 120)] : List (Str × Value)), p ∈ lawGlo by decide +kernel) (x, v) h)) ?_ (by decide +kernel) (by decide +kernel) (by decide +kernel) (by decide +kernel) ?_
  · intro s xs hkp hl
    obtain ⟨x0, x1, x2, x3, rfl⟩ := len4 hl
    first | exact BindsTo.of_eq rfl | exact BindsTo.of_defaults rfl (hkp _ _ (c.K _ _ rfl)) rfl rfl rfl
  intro env henv
  replace c := c.wg [(Str.ofString "range", Value.type "range"), (Str.ofString "_law_cell", Value.ref 120)]
  show WSs (C.wg [(Str.ofString "range", Value.type "range"), (Str.ofString "_law_cell", Value.ref 120)]) _ _ _ [(Str.ofString "script", some (.k (.ref a0))), (Str.ofString "at", some (.int at0)), (Str.ofString "planes", some (.int N)), (Str.ofString "most", some (.int most)), (Str.ofString "width", none), (Str.ofString "height", none), (Str.ofString "kind", none), (Str.ofString "a", none), (Str.ofString "b", none), (Str.ofString "out", none), (Str.ofString "k", none), (Str.ofString "plane", none), (Str.ofString "row", none)] _ _ _
  have hA' : (A.deeper env).handled = none := hA
  have fm : ∀ (n m : Int), 0 < m → 0 ≤ n.fmod m ∧ n.fmod m < m := fun n m h => ⟨Int.fmod_nonneg_of_pos _ h, Int.fmod_lt_of_pos _ h⟩
  walk_at "xx"
  refine WE_call (C := C) (by walk_at "mem") c.c120 ?_
  walk_at "xx"
  refine cell_spec c (by show A.depth + 1 < _; omega) hg hl (by omega) ?_
  walk_at "xx"
  refine mod_ii (by omega) ?_
  obtain ⟨w0, w1⟩ := fm (ns.getD at0.toNat 0) most (by omega)
  generalize (ns.getD at0.toNat 0).fmod most = wi at *
  walk_at "xx"
  refine WE_call (C := C) (by walk_at "mem") c.c120 ?_
  walk_at "xx"
  refine cell_spec c (by show A.depth + 1 < _; omega) hg hl (by omega) ?_
  walk_at "xx"
  refine mod_ii (by omega) ?_
  obtain ⟨h0', h1'⟩ := fm (ns.getD (at0 + 1).toNat 0) most (by omega)
  generalize (ns.getD (at0 + 1).toNat 0).fmod most = hi at *
  walk_at "xx"
  refine WE_call (C := C) (by walk_at "mem") c.c120 ?_
  walk_at "xx"
  refine cell_spec c (by show A.depth + 1 < _; omega) hg hl (by omega) ?_
  walk_at "xx"
  obtain ⟨k0, k1⟩ := fm (ns.getD (at0 + 2).toNat 0) 4 (by decide)
  generalize (ns.getD (at0 + 2).toNat 0).fmod 4 = kind at *
  refine WE_call (C := C) (by walk_at "mem") c.c120 ?_
  walk_at "xx"
  refine cell_spec c (by show A.depth + 1 < _; omega) hg hl (by omega) ?_
  walk_at "xx"
  obtain ⟨a1, a2⟩ := fm (ns.getD (at0 + 3).toNat 0) 256 (by decide)
  generalize (ns.getD (at0 + 3).toNat 0).fmod 256 = a at *
  refine WE_call (C := C) (by walk_at "mem") c.c120 ?_
  walk_at "xx"
  refine cell_spec c (by show A.depth + 1 < _; omega) hg hl (by omega) ?_
  walk_at "xx"
  obtain ⟨b1, b2⟩ := fm (ns.getD (at0 + 4).toNat 0) 97 (by decide)
  generalize (ns.getD (at0 + 4).toNat 0).fmod 97 = b at *
  obtain ⟨W, hW⟩ : ∃ W : Nat, 1 + wi = (W : Int) := ⟨(1 + wi).toNat, by omega⟩
  obtain ⟨H, hH⟩ : ∃ H : Nat, 1 + hi = (H : Int) := ⟨(1 + hi).toNat, by omega⟩
  rw [hW, hH]
  have hq := fun v J => hq v J (lawP kind a b W) H W (by omega) (by omega) (by omega) (by omega)
  have hq := fun v J hr => hq v J hr (fun k j => by simp [lawP]) (fun k j x hx => by
    obtain ⟨c', _, rfl⟩ := List.mem_map.mp hx
    exact pix_ok k0 k1 a1 a2)
  generalize hP : lawP kind a b W = P at *
  refine WS_for (WItr_rng hA' (by walk_at "mem") ?_)
  walk_at "xx"
  refine exNat ⟨by omega, ?_⟩
  let B := σ.length + 1
  let St : Nat → AH := fun i => σ ++ [.list ((List.range i).map fun k => .ref (B + k * (H + 1)))] ++ lpBlk B P H i
  have stlen : ∀ i, (St i).length = B + i * (H + 1) := fun i => by show (σ ++ _ ++ lpBlk B P H i).length = σ.length + 1 + _; simp [lpBlk_len]; omega
  refine ⟨fun i ρ' σ' => ∃ t1 t2 t3, σ' = St i ∧ ρ' = [(Str.ofString "script", some (.k (.ref a0))), (Str.ofString "at", some (.int at0)), (Str.ofString "planes", some (.int N)), (Str.ofString "most", some (.int most)), (Str.ofString "width", some (.int W)), (Str.ofString "height", some (.int H)), (Str.ofString "kind", some (.int kind)), (Str.ofString "a", some (.int a)), (Str.ofString "b", some (.int b)), (Str.ofString "out", some (.ref σ.length)), (Str.ofString "k", t1), (Str.ofString "plane", t2), (Str.ofString "row", t3)], ⟨_, _, _, by show _ = σ ++ _ ++ []; simp, rfl⟩, ?_, ?_⟩
  · rintro i ρ' σ' hi' ⟨t1, t2, t3, rfl, rfl⟩
    refine ⟨trivial, ?_⟩
    walk_at "xx"
    refine WS_for (WItr_rng hA' (by walk_at "mem") ?_)
    walk_at "xx"
    refine exNat ⟨by omega, ?_⟩
    refine ⟨fun j ρ' σ' => ∃ t3, σ' = St i ++ [.list ((List.range j).map fun j => .ref (B + i * (H + 1) + 1 + j))] ++ (List.range j).map (fun j => oRow (P i j)) ∧ ρ' = [(Str.ofString "script", some (.k (.ref a0))), (Str.ofString "at", some (.int at0)), (Str.ofString "planes", some (.int N)), (Str.ofString "most", some (.int most)), (Str.ofString "width", some (.int W)), (Str.ofString "height", some (.int H)), (Str.ofString "kind", some (.int kind)), (Str.ofString "a", some (.int a)), (Str.ofString "b", some (.int b)), (Str.ofString "out", some (.ref σ.length)), (Str.ofString "k", some (.int i)), (Str.ofString "plane", some (.ref (St i).length)), (Str.ofString "row", t3)], ⟨_, by simp, rfl⟩, ?_, ?_⟩
    · rintro j ρ' σ' hj ⟨t3, rfl, rfl⟩
      refine ⟨trivial, ?_⟩
      walk_at "xx"
      refine WE_meth ?_
      walk_at "xx"
      refine WM_append (get_mid rfl) ⟨callable_builtin, ?_⟩
      walk_at "xx"
      refine WE_ListComp2g (l2 := []) (capt := [(Str.ofString "kind", some (.int kind)), (Str.ofString "a", some (.int a)), (Str.ofString "b", some (.int b)), (Str.ofString "k", some (.int i)), (Str.ofString "row", some (.int j))]) henv (by show compOk _ _ _ [Str.ofString "kind", Str.ofString "a", Str.ofString "b", Str.ofString "k", Str.ofString "row"] [] = true; decide +kernel) (by show [Str.ofString "kind", Str.ofString "a", Str.ofString "b", Str.ofString "k", Str.ofString "row"].Nodup; decide +kernel) (by
        intro p hp
        simp only [List.mem_cons, List.not_mem_nil, or_false] at hp
        rcases hp with rfl | rfl | rfl | rfl | rfl <;> walk_at "mem") (by simp) ?_
      refine WItr_rng hA' (by walk_at "mem") ?_
      walk_at "xx"
      refine exNat ⟨by omega, ?_⟩
      refine CompGo_ints (f := fun x => pix kind a b j i x) (by simp [sizeLine]; omega) trivial ?_ ?_
      · rintro x pv hx rfl cenv _
        walk_at "xx"
        refine mul_ii (mul_small (by omega) (by omega)) ?_
        walk_at "xx"
        refine mul_ii (mul_small (by decide) (by decide)) ?_
        walk_at "xx"
        refine mul_ii (mul_small (by omega) (by omega)) ?_
        walk_at "xx"
        refine mul_ii (mul_small (by omega) (by omega)) ?_
        walk_at "xx"
        refine mul_ii (mul_small_r (by omega) (by omega)) ?_
        walk_at "xx"
        refine mul_ii (mul_small (by decide) (by decide)) ?_
        walk_at "xx"
        refine mul_ii (mul_small_r (by omega) (by omega)) ?_
        walk_at "xx"
        refine ixB (x := .int (if ((j : Int) * b + x).fmod 5 == 0 then 255 - a else a)) (by split <;> simp [*]) ?_
        walk_at "xx"
        refine ixI (x := .int (pix kind a b j i x)) k0 (by omega) ?_ ⟨rfl, rfl⟩
        have four : kind = 0 ∨ kind = 1 ∨ kind = 2 ∨ kind = 3 := by omega
        rcases four with rfl | rfl | rfl | rfl <;> rfl
      have hrow : (List.range W).map (fun x : Nat => pix kind a b j i x) = P i j := by rw [← hP]; rfl
      rw [hrow]
      walk_at "xx"
      refine WC_append (xs := (List.range j).map fun j => .ref (B + i * (H + 1) + 1 + j)) (by rw [List.append_assoc]; exact get_mid rfl) (by simp [sizeLine]; omega) ?_
      walk_at "xx"
      refine ⟨_, ?_, rfl⟩
      rw [List.append_assoc (bs := List.map _ _), set_mid rfl, List.range_succ, List.map_append, List.map_append]
      have e2 : (St i ++ [O.list ((List.range j).map fun j => V.ref (B + i * (H + 1) + 1 + j))] ++ (List.range j).map (fun j => oRow (P i j))).length = B + i * (H + 1) + 1 + j := by
        simp [stlen]; omega
      rw [e2]; rfl
    · rintro ρ' σ' ⟨t3, rfl, rfl⟩
      refine ⟨trivial, ?_⟩
      walk_at "xx"
      refine WE_meth ?_
      walk_at "xx"
      have em : St i ++ [O.list ((List.range H).map fun j => V.ref (B + i * (H + 1) + 1 + j))] ++ (List.range H).map (fun j => oRow (P i j)) = σ ++ [.list ((List.range i).map fun k => .ref (B + k * (H + 1)))] ++ lpBlk B P H (i + 1) := by
        show σ ++ _ ++ lpBlk B P H i ++ _ ++ _ = _
        rw [lpBlk]; simp
      rw [em]
      refine WM_append (get_mid rfl) ⟨callable_builtin, ?_⟩
      walk_at "xx"
      refine WC_append (get_mid rfl) (by simp [sizeLine]; omega) ?_
      walk_at "xx"
      refine ⟨_, _, _, ?_, rfl⟩
      rw [set_mid rfl]
      show _ = σ ++ _ ++ lpBlk B P H (i + 1)
      rw [List.range_succ, List.map_append, stlen]; rfl
  · rintro ρ' σ' ⟨t1, t2, t3, rfl, rfl⟩
    refine ⟨trivial, ?_⟩
    walk_at "xx"
    have eS : St N = σ ++ ([.list ((List.range N).map fun k => .ref (B + k * (H + 1)))] ++ lpBlk B P H N) := by show σ ++ _ ++ _ = _; simp
    have at1 : ∀ i o, (lpBlk B P H N)[i]? = some o → (St N)[B + i]? = some o := fun i o h => by
      show (σ ++ _ ++ lpBlk B P H N)[σ.length + 1 + i]? = _
      rw [List.getElem?_append_right (by simp)]
      rw [← h]; congr 1; simp
    show Q (.ref σ.length) (St N)
    rw [eS]
    refine hq _ _ ?_
    rw [← eS]
    refine PlAt.rd ⟨fun k => .ref (B + k * (H + 1)), fun k j => .ref (B + k * (H + 1) + 1 + j), get_mid rfl, fun k hk => at1 _ _ (lp_pl hk), fun k j hk hj => ?_⟩
    have := at1 _ _ (lp_row (B := B) (P := P) hk hj)
    show (St N)[_]? = _
    rw [← this]; congr 1; omega
theorem rep_ints (W : Nat) (s : Int) : (List.replicate W [V.int s]).flatten = (List.replicate W s).map V.int := by
  rw [rep_one, List.map_replicate]
theorem blank_core {C : Cx} {A : Around} {σ : AH} {E : EX} {Q : V → AH → Prop} {N H W : Nat} {s : Int} (c : Law C) (hA : A.handled = none) (hd' : A.depth + 3 < recursionLimit) (hu : A.units + 300 < cLine)
    (hN : N = 1 ∨ N = 3) (hH : 1 ≤ H ∧ H ≤ 512) (hW : 1 ≤ W ∧ W ≤ 512) (hs : 0 ≤ s ∧ s ≤ 255)
    (hq : ∀ J b, σ.length ≤ b → ImgAt (σ ++ J) b (fun _ _ => List.replicate W s) N H W → Q (.ref (b + 1)) (σ ++ J)) : WC C A (.ref 106) [.int N, .int W, .int H, .int s] σ Q E := by
  refine WC_def (pn := [Str.ofString "planes", Str.ofString "width", Str.ofString "height", Str.ofString "sample"]) (ln := []) (gl := [(Str.ofString "need_number", Value.ref 48), (Str.ofString "LONGEST", Value.int 512 233), (Str.ofString "Image", Value.ref 96), (Str.ofString "range", Value.type "range")]) (dv := []) (ds := []) (c.K _ _ rfl) rfl (codeRec_of c.K (by kernel_rfl)) (by first | assumption | omega | exact Nat.le_of_ble_eq_true rfl) .nil rfl (fun x v h => c.glo x v ((show ∀ p ∈ ([(Str.ofString "need_number", Value.ref 48), (Str.ofString "LONGEST", Value.int 512 233), (Str.ofString "Image", Value.ref 96), (Str.ofString "range", Value.type "range")] : List (Str × Value)), p ∈ lawGlo by decide +kernel) (x, v) h)) ?_ (by decide +kernel) (by decide +kernel) (by decide +kernel) (by decide +kernel) ?_
  · intro s xs hkp hl
    obtain ⟨x0, x1, x2, x3, rfl⟩ := len4 hl
    first | exact BindsTo.of_eq rfl | exact BindsTo.of_defaults rfl (hkp _ _ (c.K _ _ rfl)) rfl rfl rfl
  intro env henv
  replace c := c.wg [(Str.ofString "need_number", Value.ref 48), (Str.ofString "LONGEST", Value.int 512 233), (Str.ofString "Image", Value.ref 96), (Str.ofString "range", Value.type "range")]
  show WSs (C.wg [(Str.ofString "need_number", Value.ref 48), (Str.ofString "LONGEST", Value.int 512 233), (Str.ofString "Image", Value.ref 96), (Str.ofString "range", Value.type "range")]) _ _ _ [(Str.ofString "planes", some (.int N)), (Str.ofString "width", some (.int W)), (Str.ofString "height", some (.int H)), (Str.ofString "sample", some (.int s))] _ _ _
  have hA' : (A.deeper env).handled = none := hA
  walk_at "xx"
  refine nin_tuple_dd (xs := [.int 1, .int 3]) .int (.tuple (xs := [.int 1, .int 3]) (ObjAt.new rfl) (.cons .int (.cons .int .nil))) (by decide +kernel) rfl (by show A.units + _ + 65 < _; omega) ?_
  rw [show (!([PyData.int 1, PyData.int 3].any fun y => PyData.eqv y (.int (N : Int)))) = false by rcases hN with rfl | rfl <;> simp [PyData.eqv]]
  walk_at "xx"
  refine WE_call (C := C) (by walk_at "mem") c.c48 ?_
  walk_at "xx"
  refine WE_globi (by walk_at "mem") ?_
  walk_at "xx"
  refine number_ok c (by show A.depth + 1 < _; omega) (by omega) (by omega) ?_
  walk_at "xx"
  refine WE_call (C := C) (by walk_at "mem") c.c48 ?_
  walk_at "xx"
  refine WE_globi (by walk_at "mem") ?_
  walk_at "xx"
  refine number_ok c (by show A.depth + 1 < _; omega) (by omega) (by omega) ?_
  walk_at "xx"
  refine WE_call (C := C) (by walk_at "mem") c.c96 ?_
  refine WL_cons ?_
  refine WE_ListComp2g (l2 := [(Str.ofString "range", Value.type "range")]) (capt := [(Str.ofString "width", some (.int W)), (Str.ofString "height", some (.int H)), (Str.ofString "sample", some (.int s))]) henv (by show compOk _ _ _ [Str.ofString "width", Str.ofString "height", Str.ofString "sample"] [Str.ofString "range"] = true; decide +kernel) (by show [Str.ofString "width", Str.ofString "height", Str.ofString "sample"].Nodup; decide +kernel) (by
    intro p hp
    simp only [List.mem_cons, List.not_mem_nil, or_false] at hp
    rcases hp with rfl | rfl | rfl <;> walk_at "mem") (by intro p hp; simp only [List.mem_singleton] at hp; subst hp; exact .inl (by walk_at "mem")) ?_
  refine WItr_rng hA' (by walk_at "mem") ?_
  walk_at "xx"
  refine exNat ⟨by omega, ?_⟩
  refine CompGo_data (fun _ => .list ((List.range H).map fun _ => rowD (List.replicate W s))) (by simp [sizeLine]; omega) (fun _ => trivial) ?_ ?_
  · rintro i pv J hi rfl cenv hc
    refine WE_ListComp2g (C := C) (l2 := []) (capt := [(Str.ofString "width", some (.int W)), (Str.ofString "sample", some (.int s))]) hc (by show compOk _ _ _ [Str.ofString "width", Str.ofString "sample"] [] = true; decide +kernel) (by show [Str.ofString "width", Str.ofString "sample"].Nodup; decide +kernel) (by
      intro p hp
      simp only [List.mem_cons, List.not_mem_nil, or_false] at hp
      rcases hp with rfl | rfl <;> walk_at "mem") (by simp) ?_
    refine WItr_rng hA' (by walk_at "mem") ?_
    walk_at "xx"
    refine exNat ⟨by omega, ?_⟩
    refine CompGo_data (fun _ => rowD (List.replicate W s)) (by simp [sizeLine]; omega) (fun _ => trivial) ?_ ?_
    · rintro j pv J' hj rfl cenv hc
      walk_at "xx"
      refine mul_li (xs := [.int s]) (ObjAt.new (C := C) rfl) (by omega) (by omega) (by simp; omega) ⟨[.list [.int s]] ++ [.list ((List.replicate W s).map .int)], ?_, ?_⟩
      · rw [← rep_ints, Int.toNat_natCast]; simp
      · rw [Int.toNat_natCast, rep_ints]
        exact Rd.lst (ObjAt.new rfl)
    · intro J' acc ha
      exact ⟨J' ++ [.list acc], by simp, .list (ObjAt.new rfl) ha.up⟩
  intro J acc ha
  walk_at "xx"
  refine new_img (P := fun _ _ => List.replicate W s) (N := N) (H := H) (W := W) c hA' (by show A.depth + 1 + 2 < _; omega) (by show A.units + _ + 220 < _; omega) (Rd.wg (.list (ObjAt.new rfl) ha.up)) hN hH hW (fun k j _ _ => by simp) (fun k j _ _ x hx => by rw [List.eq_of_mem_replicate hx]; exact hs) ?_
  intro J' hi
  walk_at "xx"
  have e9 : σ ++ [O.tuple [V.int 1, V.int 3]] ++ J ++ [O.list acc] ++ J' = σ ++ ([O.tuple [V.int 1, V.int 3]] ++ J ++ [O.list acc] ++ J') := by simp
  rw [e9] at hi ⊢
  exact hq _ _ (by simp) hi
theorem same_spec {C : Cx} {A : Around} {σ : AH} {E : EX} {Q : V → AH → Prop} {b b' : Nat} {P P' : Pln} {N H W N' H' W' : Nat} (c : Law C) (hd' : A.depth < recursionLimit) (hu : A.units + 200 < cLine) (h : ImgAt σ b P N H W) (h' : ImgAt σ b' P' N' H' W')
    (hq : Q (.bool (PyData.eqv (imgD P N H) (imgD P' N' H'))) σ) : WC C A (.ref 67) [.ref (b + 1), .ref (b' + 1)] σ Q E := by
  refine WC_def (pn := [Str.ofString "self", Str.ofString "other"]) (ln := []) (gl := []) (dv := []) (ds := []) (c.K _ _ rfl) rfl (codeRec_of c.K (by kernel_rfl)) (by first | assumption | omega | exact Nat.le_of_ble_eq_true rfl) .nil rfl (fun x v h => c.glo x v ((show ∀ p ∈ ([] : List (Str × Value)), p ∈ lawGlo by decide +kernel) (x, v) h)) ?_ (by decide +kernel) (by decide +kernel) (by decide +kernel) (by decide +kernel) ?_
  · intro s xs hkp hl
    obtain ⟨x0, x1, rfl⟩ := len2 hl
    first | exact BindsTo.of_eq rfl | exact BindsTo.of_defaults rfl (hkp _ _ (c.K _ _ rfl)) rfl rfl rfl
  intro env henv
  replace c := c.wg []
  show WSs (C.wg []) _ _ _ [(Str.ofString "self", some (.ref (b + 1))), (Str.ofString "other", some (.ref (b' + 1)))] _ _ _
  walk_at "xx"
  refine at_planes c h ?_
  walk_at "xx"
  refine at_planes c h' ?_
  refine eq_dd h.planes.rd h'.planes.rd imgD_shaped imgD_shaped (by show A.units + _ + 64 < _; omega) ?_
  walk_at "xx"
  exact hq
def cropP (P : Pln) (l t w : Nat) : Pln := fun k j => ((P k (t + j)).drop l).take w
theorem rngl {n : Nat} {f : Nat → V} : ((List.range n).map f).length = n := by rw [List.length_map, List.length_range]
theorem rng_cut {H t h : Nat} {f : Nat → V} (ht : t + h ≤ H) : (((List.range H).map f).drop t).take h = (List.range h).map fun j => f (t + j) := by
  refine List.ext_getElem (by simp; omega) fun i h1 h2 => ?_
  simp
theorem crop_spec {C : Cx} {A : Around} {σ : AH} {E : EX} {Q : V → AH → Prop} {b : Nat} {P : Pln} {N H W l t w h : Nat} (c : Law C) (hA : A.handled = none) (hd' : A.depth + 3 < recursionLimit) (hu : A.units + 300 < cLine)
    (hi : ImgAt σ b P N H W) (hN : N = 1 ∨ N = 3) (hH : 1 ≤ H ∧ H ≤ 512) (hW : 1 ≤ W ∧ W ≤ 512) (hlen : ∀ k j, k < N → j < H → (P k j).length = W) (hs : ∀ k j, k < N → j < H → ∀ x ∈ P k j, 0 ≤ x ∧ x ≤ 255)
    (hw : 1 ≤ w) (hh : 1 ≤ h) (hl : l + w ≤ W) (ht : t + h ≤ H)
    (hq : ∀ J b', σ.length ≤ b' → ImgAt (σ ++ J) b' (cropP P l t w) N h w → Q (.ref (b' + 1)) (σ ++ J)) : WC C A (.ref 79) [.ref (b + 1), .int l, .int t, .int w, .int h] σ Q E := by
  refine WC_def (pn := [Str.ofString "self", Str.ofString "left", Str.ofString "top", Str.ofString "width", Str.ofString "height"]) (ln := []) (gl := [(Str.ofString "need_number", Value.ref 48), (Str.ofString "Image", Value.ref 96)]) (dv := []) (ds := []) (c.K _ _ rfl) rfl (codeRec_of c.K (by kernel_rfl)) (by first | assumption | omega | exact Nat.le_of_ble_eq_true rfl) .nil rfl (fun x v h => c.glo x v ((show ∀ p ∈ ([(Str.ofString "need_number", Value.ref 48), (Str.ofString "Image", Value.ref 96)] : List (Str × Value)), p ∈ lawGlo by decide +kernel) (x, v) h)) ?_ (by decide +kernel) (by decide +kernel) (by decide +kernel) (by decide +kernel) ?_
  · intro s xs hkp hl
    obtain ⟨x0, x1, x2, x3, x4, rfl⟩ := len5 hl
    first | exact BindsTo.of_eq rfl | exact BindsTo.of_defaults rfl (hkp _ _ (c.K _ _ rfl)) rfl rfl rfl
  intro env henv
  replace c := c.wg [(Str.ofString "need_number", Value.ref 48), (Str.ofString "Image", Value.ref 96)]
  show WSs (C.wg [(Str.ofString "need_number", Value.ref 48), (Str.ofString "Image", Value.ref 96)]) _ _ _ [(Str.ofString "self", some (.ref (b + 1))), (Str.ofString "left", some (.int l)), (Str.ofString "top", some (.int t)), (Str.ofString "width", some (.int w)), (Str.ofString "height", some (.int h))] _ _ _
  have hA' : (A.deeper env).handled = none := hA
  walk_at "xx"
  refine WE_call (C := C) (by walk_at "mem") c.c48 ?_
  walk_at "xx"
  refine at_width c hi ?_
  walk_at "xx"
  refine number_ok c (by show A.depth + 1 < _; omega) (by omega) (by omega) ?_
  walk_at "xx"
  refine WE_call (C := C) (by walk_at "mem") c.c48 ?_
  walk_at "xx"
  refine at_height c hi ?_
  walk_at "xx"
  refine number_ok c (by show A.depth + 1 < _; omega) (by omega) (by omega) ?_
  walk_at "xx"
  refine WE_call (C := C) (by walk_at "mem") c.c48 ?_
  walk_at "xx"
  refine at_width c hi ?_
  walk_at "xx"
  refine number_ok c (by show A.depth + 1 < _; omega) (by omega) (by omega) ?_
  walk_at "xx"
  refine WE_call (C := C) (by walk_at "mem") c.c48 ?_
  walk_at "xx"
  refine at_height c hi ?_
  walk_at "xx"
  refine number_ok c (by show A.depth + 1 < _; omega) (by omega) (by omega) ?_
  walk_at "xx"
  refine WE_call (C := C) (by walk_at "mem") c.c96 ?_
  refine WL_cons ?_
  refine WE_ListComp2g (l2 := []) (capt := [(Str.ofString "left", some (.int l)), (Str.ofString "top", some (.int t)), (Str.ofString "width", some (.int w)), (Str.ofString "height", some (.int h))]) henv (by show compOk _ _ _ [Str.ofString "left", Str.ofString "top", Str.ofString "width", Str.ofString "height"] [] = true; decide +kernel) (by show [Str.ofString "left", Str.ofString "top", Str.ofString "width", Str.ofString "height"].Nodup; decide +kernel) (by
    intro p hp
    simp only [List.mem_cons, List.not_mem_nil, or_false] at hp
    rcases hp with rfl | rfl | rfl | rfl <;> walk_at "mem") (by simp) ?_
  refine WItr_of ?_
  walk_at "xx"
  refine at_planes c hi ?_
  refine ⟨_, _, _, Itb_list hA' (show ObjAt _ _ _ _ from hi.top), ?_⟩
  rw [show ((List.range N).map fun k => V.ref (b + 2 + k * (H + 1) + H)).length = N by simp]
  refine CompGo_data (fun k => .list ((List.range h).map fun j => rowD (cropP P l t w k j))) (by simp [sizeLine]; omega) (fun J => ObjAt.up (show ObjAt _ _ _ _ from hi.top)) ?_ ?_
  · intro k pv J hk hp cenv hc
    have hp' := (rng_getD hk).symm.trans hp
    clear hp
    subst hp'
    have hi' := hi.up (J := J)
    refine WE_ListComp2g (C := C) (l2 := []) (capt := [(Str.ofString "left", some (.int l)), (Str.ofString "width", some (.int w))]) hc (by show compOk _ _ _ [Str.ofString "left", Str.ofString "width"] [] = true; decide +kernel) (by show [Str.ofString "left", Str.ofString "width"].Nodup; decide +kernel) (by
      intro p hp
      simp only [List.mem_cons, List.not_mem_nil, or_false] at hp
      rcases hp with rfl | rfl <;> walk_at "mem") (by simp) ?_
    refine WItr_of ?_
    refine WE_slice ?_
    walk_at "xx"
    refine ⟨_, show ObjAt _ _ _ _ from hi'.pl k hk, by simp, by simp [sizeLine]; omega, ?_⟩
    rw [show ((t : Int) + h) = ((t + h : Nat) : Int) from rfl, pickV_nat _ (Nat.le_add_right t h) (by rw [rngl]; exact ht), Nat.add_sub_cancel_left, rng_cut ht]
    refine ⟨_, _, _, Itb_list hA' (ObjAt.new rfl), ?_⟩
    rw [show ((List.range h).map fun j => V.ref (b + 2 + k * (H + 1) + (t + j))).length = h by simp]
    refine CompGo_data (fun j => rowD (cropP P l t w k j)) (by simp [sizeLine]; omega) (fun J => ObjAt.up (ObjAt.new rfl)) ?_ ?_
    · intro j pv J' hj hp cenv hc
      have hp' := (rng_getD hj).symm.trans hp
      clear hp
      subst hp'
      have hr : ObjAt C (σ ++ J ++ [O.list ((List.range h).map fun j => V.ref (b + 2 + k * (H + 1) + (t + j)))] ++ J') (.ref (b + 2 + k * (H + 1) + (t + j))) (oRow (P k (t + j))) := ObjAt.up (ObjAt.up (show ObjAt C _ (.ref _) _ from hi'.row k (t + j) hk (by omega)))
      refine WE_slice ?_
      walk_at "xx"
      refine ⟨_, hr, by simp, by rw [List.length_map, hlen _ _ hk (by omega)]; simp [sizeLine]; omega, ?_⟩
      rw [show ((l : Int) + w) = ((l + w : Nat) : Int) from rfl, pickV_nat _ (Nat.le_add_right l w) (by rw [List.length_map, hlen _ _ hk (by omega)]; exact hl), Nat.add_sub_cancel_left, ← List.map_drop, ← List.map_take]
      exact ⟨[.list ((cropP P l t w k j).map .int)], rfl, Rd.lst (ObjAt.new rfl)⟩
    · intro J' acc ha
      refine ⟨[O.list ((List.range h).map fun j => V.ref (b + 2 + k * (H + 1) + (t + j)))] ++ J' ++ [.list acc], by simp, .list (ObjAt.new rfl) ha.up⟩
  intro J acc ha
  walk_at "xx"
  refine new_img (P := cropP P l t w) (N := N) (H := h) (W := w) c hA' (by show A.depth + 1 + 2 < _; omega) (by show A.units + _ + 220 < _; omega) (Rd.wg (.list (ObjAt.new rfl) ha.up)) hN (by omega) (by omega) (fun k j hk hj => ?_) (fun k j hk hj x hx => hs k (t + j) hk (by omega) x (List.mem_of_mem_drop (List.mem_of_mem_take hx))) ?_
  · unfold cropP
    rw [List.length_take, List.length_drop, hlen _ _ hk (by omega)]; omega
  intro J' hi2
  walk_at "xx"
  have e9 : σ ++ J ++ [O.list acc] ++ J' = σ ++ (J ++ [O.list acc] ++ J') := by simp
  rw [e9] at hi2 ⊢
  exact hq _ _ (by simp) hi2
def pasteRow (r o : List Int) (l w : Nat) : List Int := r.take l ++ o ++ r.drop (l + w)
def pasteP (P O : Pln) (l t w h : Nat) : Pln := fun k j => if t ≤ j ∧ j < t + h then pasteRow (P k j) (O k (j - t)) l w else P k j
/-- what is pasted when k planes and r rows of the next are done -/
def pasteT (P O : Pln) (l t w h : Nat) (k0 r0 : Nat) : Pln := fun k j => if (k < k0 ∧ t ≤ j ∧ j < t + h) ∨ (k = k0 ∧ t ≤ j ∧ j < t + r0) then pasteRow (P k j) (O k (j - t)) l w else P k j
theorem pasteT_0 {P O : Pln} {l t w h k j : Nat} : pasteT P O l t w h 0 0 k j = P k j := by unfold pasteT; rw [if_neg (by omega)]
theorem pasteT_old {P O : Pln} {l t w h k r : Nat} : pasteT P O l t w h k r k (t + r) = P k (t + r) := by unfold pasteT; rw [if_neg (by omega)]
theorem pasteT_set {P O : Pln} {l t w h k r k' j' : Nat} (hr : r < h) : (if k' = k ∧ j' = t + r then pasteRow (P k (t + r)) (O k r) l w else pasteT P O l t w h k r k' j') = pasteT P O l t w h k (r + 1) k' j' := by
  unfold pasteT
  by_cases e : k' = k ∧ j' = t + r
  · obtain ⟨rfl, rfl⟩ := e
    rw [if_pos ⟨rfl, rfl⟩, if_pos (by omega), Nat.add_sub_cancel_left]
  · rw [if_neg e]
    by_cases e2 : (k' < k ∧ t ≤ j' ∧ j' < t + h) ∨ (k' = k ∧ t ≤ j' ∧ j' < t + r)
    · rw [if_pos e2, if_pos (by omega)]
    · rw [if_neg e2, if_neg (by omega)]
theorem pasteT_row {P O : Pln} {l t w h k k' j' : Nat} : pasteT P O l t w h k h k' j' = pasteT P O l t w h (k + 1) 0 k' j' := by
  unfold pasteT
  by_cases e2 : (k' < k ∧ t ≤ j' ∧ j' < t + h) ∨ (k' = k ∧ t ≤ j' ∧ j' < t + h)
  · rw [if_pos e2, if_pos (by omega)]
  · rw [if_neg e2, if_neg (by omega)]
theorem pasteT_all {P O : Pln} {l t w h N k' j' : Nat} (hk : k' < N) : pasteT P O l t w h N 0 k' j' = pasteP P O l t w h k' j' := by
  unfold pasteT pasteP
  by_cases e2 : t ≤ j' ∧ j' < t + h
  · rw [if_pos e2, if_pos (by omega)]
  · rw [if_neg e2, if_neg (by omega)]
theorem apart_ref {b b' N H h k r j : Nat} (hk : k < N) (hj : j < H) (hr : r < h) (hap : imgEnd b N H ≤ b' ∨ imgEnd b' N h ≤ b) : b' + 2 + k * (h + 1) + r ≠ b + 2 + k * (H + 1) + j := by
  have hb1 := blk_lt (H := H) hk (Nat.le_of_lt hj)
  have hb2 := blk_lt (H := h) hk (Nat.le_of_lt hr)
  unfold imgEnd at hap
  omega
theorem apart_blk {b N H k j i : Nat} (hk : k < N) (hj : j < H) (hi : i < b ∨ imgEnd b N H ≤ i) : b + 2 + k * (H + 1) + j ≠ i := by
  have hb1 := blk_lt (H := H) hk (Nat.le_of_lt hj)
  unfold imgEnd at hi
  omega
theorem paste_spec {C : Cx} {A : Around} {σ : AH} {E : EX} {Q : V → AH → Prop} {b b' : Nat} {P O' : Pln} {N H W l t w h : Nat} (c : Law C) (hA : A.handled = none) (hd' : A.depth + 1 < recursionLimit)
    (hi : ImgAt σ b P N H W) (ho : ImgAt σ b' O' N h w) (hap : imgEnd b N H ≤ b' ∨ imgEnd b' N h ≤ b) (hN : N ≤ 3) (hH : 1 ≤ H ∧ H ≤ 512) (hW : 1 ≤ W ∧ W ≤ 512) (hlen : ∀ k j, k < N → j < H → (P k j).length = W) (hlo : ∀ k j, k < N → j < h → (O' k j).length = w)
    (hl : l + w ≤ W) (ht : t + h ≤ H)
    (hq : ∀ σ', σ'.length = σ.length → ImgAt σ' b (pasteP P O' l t w h) N H W → (∀ i, i < b ∨ imgEnd b N H ≤ i → σ'[i]? = σ[i]?) → Q .none σ') : WC C A (.ref 86) [.ref (b + 1), .ref (b' + 1), .int l, .int t] σ Q E := by
  refine WC_def (pn := [Str.ofString "self", Str.ofString "other", Str.ofString "left", Str.ofString "top"]) (ln := [Str.ofString "k", Str.ofString "row"]) (gl := [(Str.ofString "len", Value.builtin "len"), (Str.ofString "need_number", Value.ref 48), (Str.ofString "range", Value.type "range"), (Str.ofString "PackError", Value.ref 31)]) (dv := []) (ds := []) (c.K _ _ rfl) rfl (codeRec_of c.K (by kernel_rfl)) (by first | assumption | omega | exact Nat.le_of_ble_eq_true rfl) .nil rfl (fun x v h => c.glo x v ((show ∀ p ∈ ([(Str.ofString "len", Value.builtin "len"), (Str.ofString "need_number", Value.ref 48), (Str.ofString "range", Value.type "range"), (Str.ofString "PackError", Value.ref 31)] : List (Str × Value)), p ∈ lawGlo by decide +kernel) (x, v) h)) ?_ (by decide +kernel) (by decide +kernel) (by decide +kernel) (by decide +kernel) ?_
  · intro s xs hkp hl
    obtain ⟨x0, x1, x2, x3, rfl⟩ := len4 hl
    first | exact BindsTo.of_eq rfl | exact BindsTo.of_defaults rfl (hkp _ _ (c.K _ _ rfl)) rfl rfl rfl
  intro env henv
  replace c := c.wg [(Str.ofString "len", Value.builtin "len"), (Str.ofString "need_number", Value.ref 48), (Str.ofString "range", Value.type "range"), (Str.ofString "PackError", Value.ref 31)]
  show WSs (C.wg [(Str.ofString "len", Value.builtin "len"), (Str.ofString "need_number", Value.ref 48), (Str.ofString "range", Value.type "range"), (Str.ofString "PackError", Value.ref 31)]) _ _ _ [(Str.ofString "self", some (.ref (b + 1))), (Str.ofString "other", some (.ref (b' + 1))), (Str.ofString "left", some (.int l)), (Str.ofString "top", some (.int t)), (Str.ofString "k", none), (Str.ofString "row", none)] _ _ _
  have hA' : (A.deeper env).handled = none := hA
  walk_at "xx"
  refine WE_call (C := C) (by walk_at "mem") callable_builtin ?_
  walk_at "xx"
  refine at_planes c ho ?_
  walk_at "xx"
  refine WC_len (show ObjAt _ _ _ _ from ho.top) (by simp; omega) ?_
  walk_at "xx"
  refine WE_call (C := C) (by walk_at "mem") callable_builtin ?_
  walk_at "xx"
  refine at_planes c hi ?_
  walk_at "xx"
  refine WC_len (show ObjAt _ _ _ _ from hi.top) (by simp; omega) ?_
  walk_at "xx"
  refine ite_f (by simp) ?_
  walk_at "xx"
  refine WE_call (C := C) (by walk_at "mem") c.c48 ?_
  walk_at "xx"
  refine at_width c hi ?_
  walk_at "xx"
  refine at_width c ho ?_
  walk_at "xx"
  refine number_ok c (by show A.depth + 1 < _; omega) (by omega) (by omega) ?_
  walk_at "xx"
  refine WE_call (C := C) (by walk_at "mem") c.c48 ?_
  walk_at "xx"
  refine at_height c hi ?_
  walk_at "xx"
  refine at_height c ho ?_
  walk_at "xx"
  refine number_ok c (by show A.depth + 1 < _; omega) (by omega) (by omega) ?_
  walk_at "xx"
  refine WS_for (WItr_rng hA' (by walk_at "mem") ?_)
  walk_at "xx"
  refine WE_call (C := C) (by walk_at "mem") callable_builtin ?_
  walk_at "xx"
  refine at_planes c hi ?_
  walk_at "xx"
  refine WC_len (show ObjAt _ _ _ _ from hi.top) (by simp; omega) ?_
  rw [show ((List.range N).map fun k => V.ref (b + 2 + k * (H + 1) + H)).length = N by simp]
  walk_at "xx"
  refine exNat ⟨by omega, ?_⟩
  have keepO : ∀ σ' : AH, (∀ i, i < b ∨ imgEnd b N H ≤ i → σ'[i]? = σ[i]?) → ImgAt σ' b' O' N h w := fun σ' hf => ho.frame fun i h1 h2 => hf i (by omega)
  refine ⟨fun k ρ' σ' => ∃ a1 a2, σ'.length = σ.length ∧ ImgAt σ' b (pasteT P O' l t w h k 0) N H W ∧ (∀ i, i < b ∨ imgEnd b N H ≤ i → σ'[i]? = σ[i]?) ∧ ρ' = [(Str.ofString "self", some (V.ref (b + 1))), (Str.ofString "other", some (V.ref (b' + 1))), (Str.ofString "left", some (.int l)), (Str.ofString "top", some (.int t)), (Str.ofString "k", a1), (Str.ofString "row", a2)], ⟨_, _, rfl, hi.congr fun k j _ _ => ?_, fun _ _ => rfl, rfl⟩, ?_, ?_⟩
  · exact pasteT_0.symm
  · rintro k ρ' σ' hk ⟨a1, a2, hln, hi1, hf1, rfl⟩
    have ho1 := keepO σ' hf1
    refine ⟨trivial, ?_⟩
    walk_at "xx"
    refine WS_for (WItr_rng hA' (by walk_at "mem") ?_)
    walk_at "xx"
    refine at_height c ho1 ?_
    walk_at "xx"
    refine exNat ⟨by omega, ?_⟩
    refine ⟨fun r ρ' σ' => ∃ a2, σ'.length = σ.length ∧ ImgAt σ' b (pasteT P O' l t w h k r) N H W ∧ (∀ i, i < b ∨ imgEnd b N H ≤ i → σ'[i]? = σ[i]?) ∧ ρ' = [(Str.ofString "self", some (V.ref (b + 1))), (Str.ofString "other", some (V.ref (b' + 1))), (Str.ofString "left", some (.int l)), (Str.ofString "top", some (.int t)), (Str.ofString "k", some (.int k)), (Str.ofString "row", a2)], ⟨_, hln, hi1, hf1, rfl⟩, ?_, ?_⟩
    · rintro r ρ' σ' hr ⟨a2, hln, hi1, hf1, rfl⟩
      have ho1 := keepO σ' hf1
      refine ⟨trivial, ?_⟩
      have htr : t + r < H := by omega
      have hrow1 := hi1.row k (t + r) hk htr
      rw [pasteT_old] at hrow1
      have hl1 := hlen k (t + r) hk htr
      walk_at "xx"
      refine at_planes c ho1 ?_
      walk_at "xx"
      refine item_list (show ObjAt _ _ _ _ from ho1.top) (by omega) (by omega) (rng_get (by omega)) ?_
      walk_at "xx"
      refine item_list (show ObjAt _ _ _ _ from ho1.pl _ (by omega)) (by omega) (by omega) (rng_get (by omega)) ?_
      walk_at "xx"
      refine at_planes c hi1 ?_
      walk_at "xx"
      refine item_list (show ObjAt _ _ _ _ from hi1.top) (by omega) (by omega) (rng_get (by omega)) ?_
      walk_at "xx"
      refine item_list (show ObjAt _ _ _ _ from hi1.pl _ (by omega)) (by omega) (by omega) (rng_get (by omega)) ?_
      walk_at "xx"
      refine at_width c ho1 ?_
      walk_at "xx"
      have e1 : ((k : Int)).toNat = k := Int.toNat_natCast k
      have e2 : ((t : Int) + r).toNat = t + r := by omega
      have e3 : ((r : Int)).toNat = r := Int.toNat_natCast r
      rw [e1, e2, e3]
      refine ⟨_, _, (O' k r).map .int, _, _, rfl, fun e => apart_ref hk htr hr hap (V.ref.inj e), hrow1, show ObjAt _ _ _ _ from ho1.row k r hk hr, rfl, rfl, Int.natCast_nonneg l, by omega, by rw [List.length_map, hl1]; omega, by rw [List.length_map, List.length_map, hl1, hlo k r hk hr]; simp [sizeLine]; omega, ?_⟩
      rw [show ((l : Int)).toNat = l from rfl, show ((l : Int) + w).toNat = l + w from rfl, ← List.map_take, ← List.map_drop, ← List.map_append, ← List.map_append]
      walk_at "xx"
      refine ⟨_, by rw [List.length_set]; exact hln, (hi1.set hk htr (pasteRow (P k (t + r)) (O' k r) l w)).congr fun k' j' hk' hj' => pasteT_set hr, fun i hi' => ?_, rfl⟩
      rw [List.getElem?_set_ne (apart_blk hk htr hi')]
      exact hf1 i hi'
    · rintro ρ' σ' ⟨a2, hln, hi1, hf1, rfl⟩
      refine ⟨trivial, ?_⟩
      walk_at "xx"
      exact ⟨_, _, hln, hi1.congr fun k' j' hk' hj' => pasteT_row, hf1, rfl⟩
  · rintro ρ' σ' ⟨a1, a2, hln, hi1, hf1, rfl⟩
    refine ⟨trivial, ?_⟩
    walk_at "xx"
    exact hq σ' hln (hi1.congr fun k' j' hk' hj' => pasteT_all hk') hf1
abbrev Tile := Int × Int × Int × Int
def tupO (t : Tile) : O := .tuple [.int t.1, .int t.2.1, .int t.2.2.1, .int t.2.2.2]
def tileAt (w h s : Int) (i j : Nat) : Tile := (0 + (j : Int) * s, 0 + (i : Int) * s, min s (w - (0 + (j : Int) * s)), min s (h - (0 + (i : Int) * s)))
/-- how many steps of s reach across w -/
def nst (w s : Int) : Nat := (Builtin.Range.rangeSize 0 w s).toNat
def tileK (w h s : Int) (k : Nat) : Tile := tileAt w h s (k / nst w s) (k % nst w s)
theorem nst_pos {w s : Int} (hw : 1 ≤ w) (hs : 1 ≤ s) : 0 < nst w s := by
  unfold nst Builtin.Range.rangeSize
  rw [if_pos (by omega), if_pos (by omega)]
  have := Int.ediv_nonneg (a := w - 0 - 1) (b := s) (by omega) (by omega)
  omega
theorem nst_eq {w s : Int} (hw : 1 ≤ w) (hs : 1 ≤ s) : ((nst w s : Nat) : Int) = (w - 1) / s + 1 := by
  unfold nst Builtin.Range.rangeSize
  rw [if_pos (by omega), if_pos (by omega)]
  have := Int.ediv_nonneg (a := w - 0 - 1) (b := s) (by omega) (by omega)
  rw [Int.toNat_of_nonneg (by omega)]
  congr 2; omega
theorem nst_lt {w s : Int} (hw : 1 ≤ w) (hs : 1 ≤ s) {j : Nat} : j < nst w s ↔ (j : Int) * s < w := by
  have e := nst_eq hw hs
  constructor
  · intro h
    have h1 : (j : Int) ≤ (w - 1) / s := by omega
    have := (Int.le_ediv_iff_mul_le (by omega)).mp h1
    omega
  · intro h
    have : (j : Int) ≤ (w - 1) / s := (Int.le_ediv_iff_mul_le (by omega)).mpr (by omega)
    omega
theorem nst_le {w s : Int} (hw : 1 ≤ w) (hs : 1 ≤ s) : ((nst w s : Nat) : Int) ≤ w := by
  rw [nst_eq hw hs]
  have := Int.ediv_le_self (a := w - 1) s (by omega)
  omega
def tileS (σ : AH) (w h s : Int) (n : Nat) : AH := σ ++ [.list ((List.range n).map fun i => .ref (σ.length + 1 + i))] ++ (List.range n).map fun k => tupO (tileK w h s k)
theorem tileS_len {σ : AH} {w h s : Int} {n : Nat} : (tileS σ w h s n).length = σ.length + 1 + n := by simp [tileS]; omega
theorem tileS_push {σ : AH} {w h s : Int} {n : Nat} {t : Tile} (e : t = tileK w h s n) : (tileS σ w h s n ++ [tupO t]).set σ.length (.list ((List.range n).map (fun i => V.ref (σ.length + 1 + i)) ++ [.ref (tileS σ w h s n).length])) = tileS σ w h s (n + 1) := by
  subst e
  rw [tileS_len]
  unfold tileS
  rw [List.append_assoc (bs := List.map _ _), set_mid rfl, List.range_succ, List.map_append, List.map_append]
  rfl
theorem tileS_list {C : Cx} {σ : AH} {w h s : Int} {n : Nat} : ObjAt C (tileS σ w h s n) (.ref σ.length) (.list ((List.range n).map fun i => .ref (σ.length + 1 + i))) := get_mid rfl
theorem tileS_tup {C : Cx} {σ : AH} {w h s : Int} {n k : Nat} (hk : k < n) : ObjAt C (tileS σ w h s n) (.ref (σ.length + 1 + k)) (tupO (tileK w h s k)) := by
  show (tileS σ w h s n)[_]? = _
  unfold tileS
  rw [List.getElem?_append_right (by simp <;> omega)]
  simp [show σ.length + 1 + k - (σ.length + 1) = k by omega, hk]
theorem tile_spec {C : Cx} {A : Around} {σ : AH} {E : EX} {Q : V → AH → Prop} {w h s : Int} (c : Law C) (hA : A.handled = none) (hd' : A.depth < recursionLimit)
    (hw : 1 ≤ w ∧ w ≤ 512) (hh : 1 ≤ h ∧ h ≤ 512) (hs : 1 ≤ s ∧ s ≤ 512) (hq : Q (.ref σ.length) (tileS σ w h s (nst h s * nst w s))) : WC C A (.ref 113) [.int w, .int h, .int s] σ Q E := by
  refine WC_def (pn := [Str.ofString "width", Str.ofString "height", Str.ofString "size"]) (ln := [Str.ofString "out", Str.ofString "top", Str.ofString "left"]) (gl := [(Str.ofString "range", Value.type "range"), (Str.ofString "min", Value.builtin "min")]) (dv := []) (ds := []) (c.K _ _ rfl) rfl (codeRec_of c.K (by kernel_rfl)) (by first | assumption | omega | exact Nat.le_of_ble_eq_true rfl) .nil rfl (fun x v h => c.glo x v ((show ∀ p ∈ ([(Str.ofString "range", Value.type "range"), (Str.ofString "min", Value.builtin "min")] : List (Str × Value)), p ∈ lawGlo by decide +kernel) (x, v) h)) ?_ (by decide +kernel) (by decide +kernel) (by decide +kernel) (by decide +kernel) ?_
  · intro s xs hkp hl
    obtain ⟨x0, x1, x2, rfl⟩ := len3 hl
    first | exact BindsTo.of_eq rfl | exact BindsTo.of_defaults rfl (hkp _ _ (c.K _ _ rfl)) rfl rfl rfl
  intro env henv
  replace c := c.wg [(Str.ofString "range", Value.type "range"), (Str.ofString "min", Value.builtin "min")]
  show WSs (C.wg [(Str.ofString "range", Value.type "range"), (Str.ofString "min", Value.builtin "min")]) _ _ _ [(Str.ofString "width", some (.int w)), (Str.ofString "height", some (.int h)), (Str.ofString "size", some (.int s)), (Str.ofString "out", none), (Str.ofString "top", none), (Str.ofString "left", none)] _ _ _
  have hA' : (A.deeper env).handled = none := hA
  have b1 := nst_le hh.1 hs.1
  have b2 := nst_le hw.1 hs.1
  have p2 := nst_pos hw.1 hs.1
  generalize hnh : nst h s = nh at *
  generalize hnw : nst w s = nw at *
  have tk : ∀ i j, j < nw → tileK w h s (i * nw + j) = tileAt w h s i j := by
    intro i j hj
    unfold tileK
    rw [hnw, Nat.mul_comm i nw, Nat.mul_add_div p2, Nat.div_eq_of_lt hj, Nat.mul_add_mod, Nat.mod_eq_of_lt hj, Nat.add_zero]
  walk_at "xx"
  refine WS_for (WItr_range hA' (by walk_at "mem") ?_)
  walk_at "xx"
  refine ⟨0, h, s, rfl, by omega, by omega, by omega, by omega, fun i ρ' σ' => ∃ tv lv, σ' = tileS σ w h s (i * nw) ∧ ρ' = ([(Str.ofString "width", (some (.int w))), (Str.ofString "height", (some (.int h))), (Str.ofString "size", (some (.int s))), (Str.ofString "out", (some (.ref σ.length))), (Str.ofString "top", tv), (Str.ofString "left", lv)] : Loc), ⟨_, _, by simp [tileS], rfl⟩, ?_, ?_⟩
  · rintro i ρ' σ' hi ⟨tv, lv, rfl, rfl⟩
    have hi' : i < nh := by rw [← hnh]; exact hi
    refine ⟨trivial, ?_⟩
    walk_at "xx"
    refine WS_for (WItr_range hA' (by walk_at "mem") ?_)
    walk_at "xx"
    refine ⟨0, w, s, rfl, by omega, by omega, by omega, by omega, fun j ρ' σ' => ∃ lv, σ' = tileS σ w h s (i * nw + j) ∧ ρ' = ([(Str.ofString "width", (some (.int w))), (Str.ofString "height", (some (.int h))), (Str.ofString "size", (some (.int s))), (Str.ofString "out", (some (.ref σ.length))), (Str.ofString "top", (some (.int (0 + (i : Int) * s)))), (Str.ofString "left", lv)] : Loc), ⟨_, rfl, rfl⟩, ?_, ?_⟩
    · rintro j ρ' σ' hj ⟨lv, rfl, rfl⟩
      have hj' : j < nw := by rw [← hnw]; exact hj
      refine ⟨trivial, ?_⟩
      walk_at "xx"
      refine WE_meth ?_
      walk_at "xx"
      refine WM_append (show (tileS σ w h s (i * nw + j))[σ.length]? = some (O.list _) from tileS_list (C := C)) ⟨callable_builtin, ?_⟩
      walk_at "xx"
      refine WE_call (C := C) (by walk_at "mem") callable_builtin ?_
      walk_at "xx"
      refine WC_min hA' ?_
      walk_at "xx"
      refine WE_call (C := C) (by walk_at "mem") callable_builtin ?_
      walk_at "xx"
      refine WC_min hA' ?_
      walk_at "xx"
      refine WC_append (show (tileS σ w h s (i * nw + j) ++ _)[σ.length]? = some (O.list _) from (tileS_list (C := C)).up) ?_ ?_
      · have e1 : i * nw + j < 512 * 512 := by
          have : (i + 1) * nw ≤ 512 * 512 := Nat.mul_le_mul (by omega) (by omega)
          rw [Nat.add_mul] at this; omega
        simp [sizeLine]; omega
      · walk_at "xx"
        refine ⟨_, ?_, rfl⟩
        exact tileS_push (tk i j hj').symm
    · rintro ρ' σ' ⟨lv, rfl, rfl⟩
      refine ⟨trivial, ?_⟩
      walk_at "xx"
      refine ⟨_, _, ?_, rfl⟩
      show tileS σ w h s (i * nw + nst w s) = _
      rw [hnw, Nat.add_mul, Nat.one_mul]
  · rintro ρ' σ' ⟨tv, lv, rfl, rfl⟩
    refine ⟨trivial, ?_⟩
    walk_at "xx"
    show Q _ (tileS σ w h s (nst h s * nw))
    rw [hnh]; exact hq
/- the plain laws of the tiles -/
def area (t : Tile) : Int := t.2.2.1 * t.2.2.2
theorem min_step {w s : Int} {j : Nat} (hs : 1 ≤ s) (hj : (j : Int) * s < w) : min s (w - (0 + (j : Int) * s)) = min (((j + 1 : Nat) : Int) * s) w - (j : Int) * s := by
  have : ((j + 1 : Nat) : Int) * s = (j : Int) * s + s := by push_cast; rw [Int.add_mul, Int.one_mul]
  rw [this]
  omega
theorem area_sum {w h s : Int} (hw : 1 ≤ w) (hh : 1 ≤ h) (hs : 1 ≤ s) : ∀ i j, i ≤ nst h s → j ≤ nst w s → (i < nst h s ∨ j = 0) → ((List.range (i * nst w s + j)).map fun k => area (tileK w h s k)).sum = min ((i : Int) * s) h * w + (min ((i + 1 : Nat) * s) h - min ((i : Int) * s) h) * min ((j : Int) * s) w := by
  have p := nst_pos hw hs
  have tk : ∀ i j, j < nst w s → tileK w h s (i * nst w s + j) = tileAt w h s i j := by
    intro i j hj
    unfold tileK
    rw [Nat.mul_comm i, Nat.mul_add_div p, Nat.div_eq_of_lt hj, Nat.mul_add_mod, Nat.mod_eq_of_lt hj, Nat.add_zero]
  have full : ∀ (x : Int), 1 ≤ x → min ((nst x s : Nat) * s) x = x := by
    intro x hx
    have : ¬ (nst x s < nst x s) := Nat.lt_irrefl _
    rw [nst_lt hx hs] at this
    omega
  intro i
  induction i with
  | zero =>
    intro j
    induction j with
    | zero =>
      intro _ _ _
      simp only [Nat.zero_mul, Nat.add_zero, List.range_zero, List.map_nil, List.sum_nil, Int.natCast_zero, Int.zero_mul]
      rw [show min (0 : Int) h = 0 by omega, show min (0 : Int) w = 0 by omega]
      simp
    | succ j ih =>
      intro h1 h2 h3
      have hi0 : 0 < nst h s := nst_pos hh hs
      have ih := ih h1 (by omega) (.inl hi0)
      rw [← Nat.add_assoc, List.range_succ, List.map_append, List.sum_append, ih, List.map_cons, List.map_nil, List.sum_cons, List.sum_nil, tk _ _ (by omega)]
      have hjs := (nst_lt hw hs).mp (show j < nst w s by omega)
      have e1 := min_step hs hjs
      have e2 := min_step (j := 0) hs ((nst_lt hh hs).mp hi0)
      unfold area tileAt
      dsimp only
      rw [e1, e2]
      have m1 : min ((j : Int) * s) w = (j : Int) * s := by omega
      rw [m1]
      have m0 : min (((0 : Nat) : Int) * s) h = 0 := by simp; omega
      rw [m0]
      simp only [Int.zero_mul, Int.sub_zero, Int.zero_add, Int.add_zero, Int.natCast_zero]
      generalize min (((j + 1 : Nat) : Int) * s) w = X
      generalize min (((0 + 1 : Nat) : Int) * s) h = Y
      generalize (j : Int) * s = Z
      rw [Int.mul_comm (X - Z) Y, Int.mul_sub]; omega
  | succ i ihi =>
    intro j
    induction j with
    | zero =>
      intro h1 _ _
      have := ihi (nst w s) (by omega) (Nat.le_refl _) (.inl (by omega))
      rw [show (i + 1) * nst w s + 0 = i * nst w s + nst w s by rw [Nat.add_mul]; omega, this, full w hw]
      simp only [Int.natCast_zero, Int.zero_mul]
      rw [show min (0 : Int) w = 0 by omega, Int.mul_zero, Int.add_zero, Int.sub_mul]
      omega
    | succ j ih =>
      intro h1 h2 h3
      have hi1 : i + 1 < nst h s := by omega
      have ih := ih h1 (by omega) (.inl hi1)
      rw [← Nat.add_assoc, List.range_succ, List.map_append, List.sum_append, ih, List.map_cons, List.map_nil, List.sum_cons, List.sum_nil, tk _ _ (by omega)]
      have hjs := (nst_lt hw hs).mp (show j < nst w s by omega)
      have his := (nst_lt hh hs).mp hi1
      have e1 := min_step hs hjs
      have e2 := min_step hs his
      unfold area tileAt
      dsimp only
      rw [e1, e2]
      have m1 : min ((j : Int) * s) w = (j : Int) * s := by omega
      have m0 : min (((i + 1 : Nat) : Int) * s) h = ((i + 1 : Nat) : Int) * s := by omega
      rw [m1, m0]
      generalize min (((j + 1 : Nat) : Int) * s) w = X
      generalize min (((i + 1 + 1 : Nat) : Int) * s) h = Y
      generalize (j : Int) * s = Z
      generalize ((i + 1 : Nat) : Int) * s = U
      rw [Int.add_zero, Int.mul_comm (X - Z) (Y - U), Int.mul_sub]; omega
theorem tiles_area {w h s : Int} (hw : 1 ≤ w) (hh : 1 ≤ h) (hs : 1 ≤ s) : ((List.range (nst h s * nst w s)).map fun k => area (tileK w h s k)).sum = w * h := by
  have := area_sum hw hh hs (nst h s) 0 (Nat.le_refl _) (Nat.zero_le _) (.inr rfl)
  rw [Nat.add_zero] at this
  rw [this]
  have e : ¬ (nst h s < nst h s) := Nat.lt_irrefl _
  rw [nst_lt hh hs] at e
  rw [show min (((nst h s : Nat) : Int) * s) h = h by omega]
  simp only [Int.natCast_zero, Int.zero_mul]
  rw [show min (0 : Int) w = 0 by omega, Int.mul_zero, Int.add_zero, Int.mul_comm]
theorem tile_inj {w h s : Int} (hw : 1 ≤ w) (hs : 1 ≤ s) {k l : Nat} (e1 : (tileK w h s k).1 = (tileK w h s l).1) (e2 : (tileK w h s k).2.1 = (tileK w h s l).2.1) : k = l := by
  unfold tileK tileAt at e1 e2
  dsimp only at e1 e2
  have q1 : (((k % nst w s : Nat) : Int)) = ((l % nst w s : Nat) : Int) := Int.eq_of_mul_eq_mul_right (show s ≠ 0 by omega) (by omega)
  have q2 : (((k / nst w s : Nat) : Int)) = ((l / nst w s : Nat) : Int) := Int.eq_of_mul_eq_mul_right (show s ≠ 0 by omega) (by omega)
  have d1 := Nat.div_add_mod k (nst w s)
  have d2 := Nat.div_add_mod l (nst w s)
  rw [← d1, ← d2, show k / nst w s = l / nst w s by omega, show k % nst w s = l % nst w s by omega]
theorem ImgAt.end_le {σ : AH} {b : Nat} {P : Pln} {N H W : Nat} (h : ImgAt σ b P N H W) : imgEnd b N H ≤ σ.length := by
  have := (List.getElem?_eq_some_iff.mp h.top).1
  unfold imgEnd; omega
theorem pasteRow_get {r o : List Int} {l w W c : Nat} (hr : r.length = W) (ho : o.length = w) (hl : l + w ≤ W) (hc : c < W) : (pasteRow r o l w).getD c 0 = if l ≤ c ∧ c < l + w then o.getD (c - l) 0 else r.getD c 0 := by
  unfold pasteRow
  rw [List.getD_eq_getElem?_getD, List.getD_eq_getElem?_getD, List.getD_eq_getElem?_getD]
  by_cases h1 : c < l
  · rw [if_neg (by omega), List.append_assoc, List.getElem?_append_left (by rw [List.length_take]; omega), List.getElem?_take_of_lt h1]
  · by_cases h2 : c < l + w
    · rw [if_pos (by omega), List.append_assoc, List.getElem?_append_right (by rw [List.length_take]; omega), List.length_take, show c - min l r.length = c - l by omega, List.getElem?_append_left (by omega)]
    · rw [if_neg (by omega), List.getElem?_append_right (by rw [List.length_append, List.length_take]; omega), List.length_append, List.length_take, List.getElem?_drop]
      congr 2; omega
/- the tiles pasted again -/
def covP (P : Pln) (W s nw k : Nat) : Pln := fun p y => (List.range W).map fun x => if y / s * nw + x / s < k then (P p y).getD x 0 else 7
theorem ext_getD {a b : List Int} (hl : a.length = b.length) (h : ∀ c, c < a.length → a.getD c 0 = b.getD c 0) : a = b := by
  refine List.ext_getElem hl fun i h1 h2 => ?_
  have := h i h1
  simpa [List.getD_eq_getElem?_getD, h1, h2] using this
theorem covP_get {P : Pln} {W s nw k p y c : Nat} (hc : c < W) : (covP P W s nw k p y).getD c 0 = if y / s * nw + c / s < k then (P p y).getD c 0 else 7 := by
  unfold covP
  rw [List.getD_eq_getElem?_getD, List.getElem?_map, List.getElem?_range hc]; rfl
theorem covP_len {P : Pln} {W s nw k p y : Nat} : (covP P W s nw k p y).length = W := by simp [covP]
theorem in_step {s i y m : Nat} (hs : 0 < s) (hy : y < m) : (i * s ≤ y ∧ y < i * s + min s (m - i * s)) ↔ y / s = i := by
  rw [Nat.div_eq_iff hs]
  constructor
  · rintro ⟨h1, h2⟩
    omega
  · rintro ⟨h1, h2⟩
    omega
theorem ndec {n a b c d : Nat} (hb : b < n) (hd : d < n) (h : a * n + b = c * n + d) : a = c ∧ b = d := by
  have e1 : (a * n + b) / n = a := by rw [Nat.mul_comm, Nat.mul_add_div (by omega), Nat.div_eq_of_lt hb, Nat.add_zero]
  have e2 : (c * n + d) / n = c := by rw [Nat.mul_comm, Nat.mul_add_div (by omega), Nat.div_eq_of_lt hd, Nat.add_zero]
  have : a = c := by rw [← e1, ← e2, h]
  subst this
  exact ⟨rfl, by omega⟩
theorem cov_step {P : Pln} {W H s nw i j y : Nat} (hs : 0 < s) (hj : j < nw) (hnw : ∀ x, x < W → x / s < nw) (hy : y < H) (hjW : j * s < W) (hlen : (P 0 y).length = W) :
    pasteP (covP P W s nw (i * nw + j)) (cropP P (j * s) (i * s) (min s (W - j * s))) (j * s) (i * s) (min s (W - j * s)) (min s (H - i * s)) 0 y = covP P W s nw (i * nw + j + 1) 0 y := by
  have e1 := in_step (i := i) hs hy
  unfold pasteP
  by_cases h : y / s = i
  · have h' := e1.mpr h
    rw [if_pos h']
    have hcl : (cropP P (j * s) (i * s) (min s (W - j * s)) 0 (y - i * s)).length = min s (W - j * s) := by
      unfold cropP
      rw [show i * s + (y - i * s) = y by omega, List.length_take, List.length_drop, hlen]; omega
    have hpl : (pasteRow (covP P W s nw (i * nw + j) 0 y) (cropP P (j * s) (i * s) (min s (W - j * s)) 0 (y - i * s)) (j * s) (min s (W - j * s))).length = W := by
      unfold pasteRow
      simp only [List.length_append, List.length_take, List.length_drop, covP_len, hcl]; omega
    refine ext_getD (by rw [hpl, covP_len]) fun c hc => ?_
    rw [hpl] at hc
    rw [pasteRow_get covP_len hcl (by omega) hc, covP_get hc, covP_get hc, h]
    have e2 := in_step (i := j) hs hc
    by_cases q : c / s = j
    · have q' := e2.mpr q
      rw [if_pos q', if_pos (by omega)]
      unfold cropP
      rw [show i * s + (y - i * s) = y by omega, List.getD_eq_getElem?_getD, List.getElem?_take_of_lt (by omega), List.getElem?_drop, show j * s + (c - j * s) = c by omega, ← List.getD_eq_getElem?_getD]
    · rw [if_neg (fun z => q (e2.mp z))]
      by_cases z : i * nw + c / s < i * nw + j
      · rw [if_pos z, if_pos (by omega)]
      · rw [if_neg z, if_neg (by omega)]
  · rw [if_neg (fun z => h (e1.mp z))]
    refine ext_getD (by rw [covP_len, covP_len]) fun c hc => ?_
    rw [covP_len] at hc
    rw [covP_get hc, covP_get hc]
    have ne : y / s * nw + c / s ≠ i * nw + j := fun e => h (ndec (hnw c hc) hj e).1
    by_cases z : y / s * nw + c / s < i * nw + j
    · rw [if_pos z, if_pos (by omega)]
    · rw [if_neg z, if_neg (by omega)]
theorem cov_all {P : Pln} {W H s nw nh y : Nat} (hnw : ∀ x, x < W → x / s < nw) (hnh : y / s < nh) (hlen : (P 0 y).length = W) : covP P W s nw (nh * nw) 0 y = P 0 y := by
  refine ext_getD (by rw [covP_len, hlen]) fun c hc => ?_
  rw [covP_len] at hc
  rw [covP_get hc, if_pos]
  have h1 := hnw c hc
  have h2 : (y / s + 1) * nw ≤ nh * nw := Nat.mul_le_mul_right _ hnh
  rw [Nat.add_mul] at h2; omega
theorem nst_div {W s x : Nat} (hW : 1 ≤ W) (hs : 1 ≤ s) (hx : x < W) : x / s < nst W s := by
  refine (nst_lt (by omega) (by omega)).mpr ?_
  have := Nat.div_mul_le_self x s
  have h2 : (((x / s : Nat) : Int)) * s = ((x / s * s : Nat) : Int) := by push_cast; rfl
  rw [h2]; omega
theorem min_cast {s W x : Nat} (h : x < W) : min (s : Int) ((W : Int) - (x : Int)) = ((min s (W - x) : Nat) : Int) := by omega
theorem tupO_nat {W H s k : Nat} (hj : k % nst W s * s < W) (hi : k / nst W s * s < H) : tupO (tileK W H s k) = .tuple [.int ((k % nst W s * s : Nat) : Int), .int ((k / nst W s * s : Nat) : Int), .int ((min s (W - k % nst W s * s) : Nat) : Int), .int ((min s (H - k / nst W s * s) : Nat) : Int)] := by
  unfold tupO tileK tileAt
  dsimp only
  have e1 : (0 + ((k % nst W s : Nat) : Int) * s) = ((k % nst W s * s : Nat) : Int) := by push_cast; omega
  have e2 : (0 + ((k / nst W s : Nat) : Int) * s) = ((k / nst W s * s : Nat) : Int) := by push_cast; omega
  rw [e1, e2, min_cast hj, min_cast hi]
theorem crop_bad {C : Cx} {A : Around} {σ : AH} {X : AH → Prop} {b : Nat} {P : Pln} {N H W : Nat} {u : Int} (c : Law C) (hA : A.handled = none) (hd' : A.depth + 2 < recursionLimit)
    (hi : ImgAt σ b P N H W) (hW : 1 ≤ W ∧ W ≤ 512) (hH : 1 ≤ H ∧ H ≤ 512) (hu : u = 0 ∨ u = 1) (hq : X σ) : RC C A (.ref 79) [.ref (b + 1), .int 0, .int u, .int W, .int ((H : Int) + 1 - u)] σ 31 X := by
  refine RCc.toRC (RCc_def (pn := [Str.ofString "self", Str.ofString "left", Str.ofString "top", Str.ofString "width", Str.ofString "height"]) (ln := []) (gl := [(Str.ofString "need_number", Value.ref 48), (Str.ofString "Image", Value.ref 96)]) (dv := []) (ds := []) (c.K _ _ rfl) rfl (codeRec_of c.K (by kernel_rfl)) (by first | assumption | omega | exact Nat.le_of_ble_eq_true rfl) .nil rfl (fun x v h => c.glo x v ((show ∀ p ∈ ([(Str.ofString "need_number", Value.ref 48), (Str.ofString "Image", Value.ref 96)] : List (Str × Value)), p ∈ lawGlo by decide +kernel) (x, v) h)) ?_ (by decide +kernel) (by decide +kernel) (by decide +kernel) (by decide +kernel) ?_)
  · intro s xs hkp hl
    obtain ⟨x0, x1, x2, x3, x4, rfl⟩ := len5 hl
    first | exact BindsTo.of_eq rfl | exact BindsTo.of_defaults rfl (hkp _ _ (c.K _ _ rfl)) rfl rfl rfl
  intro env henv
  replace c := c.wg [(Str.ofString "need_number", Value.ref 48), (Str.ofString "Image", Value.ref 96)]
  show RSs (C.wg [(Str.ofString "need_number", Value.ref 48), (Str.ofString "Image", Value.ref 96)]) _ _ _ [(Str.ofString "self", some (.ref (b + 1))), (Str.ofString "left", some (.int 0)), (Str.ofString "top", some (.int u)), (Str.ofString "width", some (.int W)), (Str.ofString "height", some (.int ((H : Int) + 1 - u)))] _ _ _ _
  have hA' : (A.deeper env).handled = none := hA
  refine RSs_next ?_
  walk_at "xx"
  refine WE_call (C := C) (by walk_at "mem") c.c48 ?_
  walk_at "xx"
  refine at_width c hi ?_
  walk_at "xx"
  refine number_ok c (by show A.depth + 1 < _; omega) (by omega) (by omega) ?_
  walk_at "xx"
  rcases hu with rfl | rfl
  · refine RSs_here (RS_expr (RE_call (C := C) (by walk_at "mem") c.c48 ?_))
    walk_at "xx"
    refine at_height c hi ?_
    walk_at "xx"
    exact number_bad c hA' (by show A.depth + 1 + 1 < _; omega) (by omega) (by omega) (by omega) (by omega) (by decide +kernel) hq
  · refine RSs_next ?_
    walk_at "xx"
    refine WE_call (C := C) (by walk_at "mem") c.c48 ?_
    walk_at "xx"
    refine at_height c hi ?_
    walk_at "xx"
    refine number_ok c (by show A.depth + 1 < _; omega) (by omega) (by omega) ?_
    walk_at "xx"
    refine RSs_next ?_
    walk_at "xx"
    refine WE_call (C := C) (by walk_at "mem") c.c48 ?_
    walk_at "xx"
    refine at_width c hi ?_
    walk_at "xx"
    refine number_ok c (by show A.depth + 1 < _; omega) (by omega) (by omega) ?_
    walk_at "xx"
    refine RSs_here (RS_expr (RE_call (C := C) (by walk_at "mem") c.c48 ?_))
    walk_at "xx"
    refine at_height c hi ?_
    walk_at "xx"
    exact number_bad c hA' (by show A.depth + 1 + 1 < _; omega) (by omega) (by omega) (by omega) (by omega) (by decide +kernel) hq
theorem law_main {C : Cx} (c : Law C) {a : Addr} {ns : List Int} (hg : (a, O.list (ns.map .int)) ∈ C.gob) (hl : ns.length ≤ 63) (_ht : ∀ x ∈ topObjs, x ∈ C.gob) : WC C callerA (.ref 130) [.k (.ref a)] [] (fun v _ => v = .bool true) (fun _ _ => False) := by
  refine WCc.toWC (WCc_defF (pn := [Str.ofString "script"]) (ln := [Str.ofString "width", Str.ofString "height", Str.ofString "side", Str.ofString "rows", Str.ofString "left", Str.ofString "top", Str.ofString "wide", Str.ofString "high", Str.ofString "image", Str.ofString "out", Str.ofString "found"]) (gl := [(Str.ofString "tile_places", Value.ref 113), (Str.ofString "sum", Value.builtin "sum"), (Str.ofString "min", Value.builtin "min"), (Str.ofString "len", Value.builtin "len"), (Str.ofString "set", Value.type "set"), (Str.ofString "Image", Value.ref 96), (Str.ofString "blank", Value.ref 106), (Str.ofString "ValueError", Value.type "ValueError"), (Str.ofString "_law_cell", Value.ref 120), (Str.ofString "_law_image", Value.ref 125)]) (dv := []) (ds := []) (c.K _ _ rfl) rfl (codeRec_of c.K (by kernel_rfl)) (by first | assumption | omega | exact Nat.le_of_ble_eq_true rfl) .nil rfl (fun x v h => c.glo x v ((show ∀ p ∈ ([(Str.ofString "tile_places", Value.ref 113), (Str.ofString "sum", Value.builtin "sum"), (Str.ofString "min", Value.builtin "min"), (Str.ofString "len", Value.builtin "len"), (Str.ofString "set", Value.type "set"), (Str.ofString "Image", Value.ref 96), (Str.ofString "blank", Value.ref 106), (Str.ofString "ValueError", Value.type "ValueError"), (Str.ofString "_law_cell", Value.ref 120), (Str.ofString "_law_image", Value.ref 125)] : List (Str × Value)), p ∈ lawGlo by decide +kernel) (x, v) h)) ?_ (by decide +kernel) (by decide +kernel) (by decide +kernel) (by decide +kernel) ?_)
  · intro s xs hkp hl
    obtain ⟨x0, rfl⟩ := len1 hl
    first | exact BindsTo.of_eq rfl | exact BindsTo.of_defaults rfl (hkp _ _ (c.K _ _ rfl)) rfl rfl rfl
  intro env henv hfr
  replace c := c.wg [(Str.ofString "tile_places", Value.ref 113), (Str.ofString "sum", Value.builtin "sum"), (Str.ofString "min", Value.builtin "min"), (Str.ofString "len", Value.builtin "len"), (Str.ofString "set", Value.type "set"), (Str.ofString "Image", Value.ref 96), (Str.ofString "blank", Value.ref 106), (Str.ofString "ValueError", Value.type "ValueError"), (Str.ofString "_law_cell", Value.ref 120), (Str.ofString "_law_image", Value.ref 125)]
  show WSs (C.wg [(Str.ofString "tile_places", Value.ref 113), (Str.ofString "sum", Value.builtin "sum"), (Str.ofString "min", Value.builtin "min"), (Str.ofString "len", Value.builtin "len"), (Str.ofString "set", Value.type "set"), (Str.ofString "Image", Value.ref 96), (Str.ofString "blank", Value.ref 106), (Str.ofString "ValueError", Value.type "ValueError"), (Str.ofString "_law_cell", Value.ref 120), (Str.ofString "_law_image", Value.ref 125)]) _ _ _ [(Str.ofString "script", some (.k (.ref a))), (Str.ofString "width", none), (Str.ofString "height", none), (Str.ofString "side", none), (Str.ofString "rows", none), (Str.ofString "left", none), (Str.ofString "top", none), (Str.ofString "wide", none), (Str.ofString "high", none), (Str.ofString "image", none), (Str.ofString "out", none), (Str.ofString "found", none)] _ _ _
  have fm : ∀ (n m : Int), 0 < m → 0 ≤ n.fmod m ∧ n.fmod m < m := fun n m h => ⟨Int.fmod_nonneg_of_pos _ h, Int.fmod_lt_of_pos _ h⟩
  have hA' : (callerA.deeper env).handled = none := rfl
  have dep : (callerA.deeper env).depth + 5 < recursionLimit := Nat.le_of_ble_eq_true rfl
  have uni : (callerA.deeper env).units + 400 < cLine := Nat.le_of_ble_eq_true rfl
  have hst : (callerA.deeper env).frames = some [env] := rfl
  generalize callerA.deeper env = A at *
  walk_at "xx"
  refine WE_call (C := C) (by walk_at "mem") c.c120 ?_
  walk_at "xx"
  refine cell_spec c (by omega) hg hl (by decide) ?_
  walk_at "xx"
  obtain ⟨w0, w1⟩ := fm (ns.getD (Int.toNat 0) 0) 40 (by decide)
  generalize (ns.getD (Int.toNat 0) 0).fmod 40 = wi at *
  have hw : 1 ≤ 1 + wi ∧ 1 + wi ≤ 40 := by omega
  clear w0 w1
  generalize 1 + wi = w at *
  refine WE_call (C := C) (by walk_at "mem") c.c120 ?_
  walk_at "xx"
  refine cell_spec c (by omega) hg hl (by decide) ?_
  walk_at "xx"
  obtain ⟨w0, w1⟩ := fm (ns.getD (Int.toNat 1) 0) 40 (by decide)
  generalize (ns.getD (Int.toNat 1) 0).fmod 40 = wi at *
  have hh : 1 ≤ 1 + wi ∧ 1 + wi ≤ 40 := by omega
  clear w0 w1
  generalize 1 + wi = h at *
  refine WE_call (C := C) (by walk_at "mem") c.c120 ?_
  walk_at "xx"
  refine cell_spec c (by omega) hg hl (by decide) ?_
  walk_at "xx"
  obtain ⟨w0, w1⟩ := fm (ns.getD (Int.toNat 2) 0) 12 (by decide)
  generalize (ns.getD (Int.toNat 2) 0).fmod 12 = wi at *
  have hs : 1 ≤ 1 + wi ∧ 1 + wi ≤ 12 := by omega
  clear w0 w1
  generalize 1 + wi = s at *
  refine WE_call (C := C) (by walk_at "mem") c.c113 ?_
  walk_at "xx"
  refine tile_spec c hA' (by omega) (by omega) (by omega) (by omega) ?_
  have hnh := nst_le hh.1 hs.1
  have hnw := nst_le hw.1 hs.1
  have pw := nst_pos hw.1 hs.1
  have hn : nst h s * nst w s ≤ 1600 := Nat.mul_le_mul (show nst h s ≤ 40 by omega) (show nst w s ≤ 40 by omega)
  have colk : ∀ k : Nat, ((k % nst w s : Nat) : Int) * s < w := fun k => (nst_lt hw.1 hs.1).mp (Nat.mod_lt _ pw)
  have rowk : ∀ k, k < nst h s * nst w s → ((k / nst w s : Nat) : Int) * s < h := fun k hk => (nst_lt hh.1 hs.1).mp (Nat.div_lt_of_lt_mul (by rw [Nat.mul_comm]; exact hk))
  have nonn : ∀ k : Nat, 0 ≤ ((k : Nat) : Int) * s := fun k => Int.mul_nonneg (by omega) (by omega)
  have area1 := tiles_area hw.1 hh.1 hs.1
  generalize hnn : nst h s * nst w s = n at *
  have lst0 : ∀ {l' : List (Str × Value)}, ObjAt (C.wg l') (tileS [] w h s n) (.ref 0) (.list ((List.range n).map fun i => V.ref (0 + 1 + i))) := fun {l'} => tileS_list (C := C.wg l') (σ := [])
  have tup0 : ∀ {l' : List (Str × Value)} {k : Nat}, k < n → ObjAt (C.wg l') (tileS [] w h s n) (.ref (0 + 1 + k)) (tupO (tileK w h s k)) := fun {l' k} hk => tileS_tup (C := C.wg l') (σ := []) hk
  have lst : ∀ {l' : List (Str × Value)} {J : AH}, ObjAt (C.wg l') (tileS [] w h s n ++ J) (.ref 0) (.list ((List.range n).map fun i => V.ref (0 + 1 + i))) := fun {l' J} => ObjAt.up (tileS_list (C := C.wg l') (σ := []))
  have tup : ∀ {l' : List (Str × Value)} {J : AH} {k : Nat}, k < n → ObjAt (C.wg l') (tileS [] w h s n ++ J) (.ref (0 + 1 + k)) (tupO (tileK w h s k)) := fun {l' J k} hk => ObjAt.up (tileS_tup (C := C.wg l') (σ := []) hk)
  walk_at "xx"
  refine WE_call (C := C) (by walk_at "mem") callable_builtin ?_
  refine WL_cons ?_
  refine WE_ListCompG (C := C) (l2 := []) (capt := []) (xs := [Str.ofString "left", Str.ofString "top", Str.ofString "wide", Str.ofString "high"]) henv (compOkG.ok (by show compOkG _ _ [Str.ofString "left", Str.ofString "top", Str.ofString "wide", Str.ofString "high"] [] [] = true; decide +kernel)) (by simp) (by simp) (by simp) ?_
  refine WItr_of ?_
  walk_at "xx"
  refine ⟨_, _, _, Itb_list hA' lst0, ?_⟩
  rw [show ((List.range n).map fun i => V.ref (0 + 1 + i)).length = n by simp]
  refine ⟨by simp [sizeLine]; omega, fun k => [.int (tileK w h s k).1, .int (tileK w h s k).2.1, .int (tileK w h s k).2.2.1, .int (tileK w h s k).2.2.2], fun i acc σ' => σ' = tileS [] w h s n ∧ acc = ((List.range i).map fun k => area (tileK w h s k)).map V.int, ⟨rfl, rfl⟩, ?_, ?_⟩
  · rintro i acc σ' hi ⟨rfl, rfl⟩
    refine ⟨lst0, ?_, fun cenv hc => WIf_nil ?_⟩
    · show TgtOk _ _ _ _ (((List.range n).map fun i => V.ref (0 + 1 + i)).getD i .none) _ _
      rw [rng_getD hi]
      exact TgtOk_tuple (ts := [(Str.ofString "left", _), (Str.ofString "top", _), (Str.ofString "wide", _), (Str.ofString "high", _)]) hA' (tup0 hi) (by show [Str.ofString "left", Str.ofString "top", Str.ofString "wide", Str.ofString "high"].Nodup; decide +kernel) rfl rfl
    rw [if_pos rfl]
    show WE _ _ _ _ [(Str.ofString "left", some (.int (tileK w h s i).1)), (Str.ofString "top", some (.int (tileK w h s i).2.1)), (Str.ofString "wide", some (.int (tileK w h s i).2.2.1)), (Str.ofString "high", some (.int (tileK w h s i).2.2.2))] _ _ _
    walk_at "xx"
    have cj := colk i
    have nj := nonn (i % nst w s)
    refine mul_ii (mul_small (by show _ ≤ min s (w - (0 + ((i % nst w s : Nat) : Int) * s)); omega) (by show min s (w - (0 + ((i % nst w s : Nat) : Int) * s)) ≤ _; omega)) ⟨rfl, ?_⟩
    rw [List.range_succ, List.map_append, List.map_append]; rfl
  rintro acc σ' ⟨rfl, rfl⟩
  refine ⟨lst0, ?_⟩
  show WL _ _ _ _ _ _ _ _
  walk_at "xx"
  refine WC_sum hA' (ObjAt.new rfl) ?_
  rw [area1]
  walk_at "xx"
  refine mul_ii (mul_small (by omega) (by omega)) ?_
  walk_at "xx"
  refine ite_f (by simp) ?_
  walk_at "xx"
  generalize [O.list (((List.range n).map fun k => area (tileK w h s k)).map V.int)] = J1
  refine WS_for (WItr_of ?_)
  walk_at "xx"
  refine ⟨_, _, _, Itb_list hA' lst, ?_⟩
  rw [show ((List.range n).map fun i => V.ref (0 + 1 + i)).length = n by simp]
  refine ⟨fun _ ρ' σ1 => ∃ a1 a2 a3 a4, tileS [] w h s n ++ J1 = σ1 ∧ ρ' = ([(Str.ofString "script", (some (.k (.ref a)))), (Str.ofString "width", (some (.int w))), (Str.ofString "height", (some (.int h))), (Str.ofString "side", (some (.int s))), (Str.ofString "rows", (some (.ref 0))), (Str.ofString "left", a1), (Str.ofString "top", a2), (Str.ofString "wide", a3), (Str.ofString "high", a4), (Str.ofString "image", none), (Str.ofString "out", none), (Str.ofString "found", none)] : Loc), ⟨_, _, _, _, rfl, rfl⟩, ?_, ?_⟩
  · rintro k ρ' σ1 hk ⟨a1, a2, a3, a4, rfl, rfl⟩
    refine ⟨lst, ?_⟩
    rw [rng_getD hk]
    refine WAs_tuple hA' (tup hk) ?_
    walk_at "xx"
    refine mod_ii (by omega) ?_
    walk_at "xx"
    refine mod_ii (by omega) ?_
    walk_at "xx"
    rw [show ((tileK w h s k).1.fmod s + (tileK w h s k).2.1.fmod s) = 0 by
      show (0 + ((k % nst w s : Nat) : Int) * s).fmod s + (0 + ((k / nst w s : Nat) : Int) * s).fmod s = 0
      rw [Int.zero_add, Int.zero_add, Int.mul_fmod_left, Int.mul_fmod_left]; rfl]
    refine ite_f (by decide) ?_
    walk_at "xx"
    refine WE_call (C := C) (by walk_at "mem") callable_builtin ?_
    walk_at "xx"
    refine WC_min hA' ?_
    walk_at "xx"
    refine ite_f (by show (min s (w - (0 + ((k % nst w s : Nat) : Int) * s)) != min s (w - (0 + ((k % nst w s : Nat) : Int) * s))) = false; simp) ?_
    walk_at "xx"
    refine WE_call (C := C) (by walk_at "mem") callable_builtin ?_
    walk_at "xx"
    refine WC_min hA' ?_
    walk_at "xx"
    refine ite_f (by show (min s (h - (0 + ((k / nst w s : Nat) : Int) * s)) != min s (h - (0 + ((k / nst w s : Nat) : Int) * s))) = false; simp) ?_
    walk_at "xx"
    exact ⟨_, _, _, _, rfl, rfl⟩
  rintro ρ' σ1 ⟨a1, a2, a3, a4, rfl, rfl⟩
  refine ⟨lst, ?_⟩
  walk_at "xx"
  refine WE_lenset (C := C) hA' (by omega) (by walk_at "mem") (by walk_at "mem") ?_
  refine WE_ListCompG (C := C) (l2 := []) (capt := []) (xs := [Str.ofString "left", Str.ofString "top", Str.ofString "wide", Str.ofString "high"]) henv (compOkG.ok (by show compOkG _ _ [Str.ofString "left", Str.ofString "top", Str.ofString "wide", Str.ofString "high"] [] [] = true; decide +kernel)) (by simp) (by simp) (by simp) ?_
  refine WItr_of ?_
  walk_at "xx"
  refine ⟨_, _, _, Itb_list hA' lst, ?_⟩
  rw [show ((List.range n).map fun i => V.ref (0 + 1 + i)).length = n by simp]
  generalize hσ2 : tileS [] w h s n ++ J1 = σ2 at *
  replace lst : ∀ {l' : List (Str × Value)} {J : AH}, ObjAt (C.wg l') (σ2 ++ J) (.ref 0) (.list ((List.range n).map fun i => V.ref (0 + 1 + i))) := fun {l' J} => by rw [← hσ2]; exact ObjAt.up lst
  replace tup : ∀ {l' : List (Str × Value)} {J : AH} {k : Nat}, k < n → ObjAt (C.wg l') (σ2 ++ J) (.ref (0 + 1 + k)) (tupO (tileK w h s k)) := fun {l' J k} hk => by rw [← hσ2]; exact ObjAt.up (tup hk)
  clear hσ2 area1 colk rowk nonn
  refine ⟨by simp [sizeLine]; omega, fun k => [.int (tileK w h s k).1, .int (tileK w h s k).2.1, .int (tileK w h s k).2.2.1, .int (tileK w h s k).2.2.2], fun i acc σ' => σ' = σ2 ++ (List.range i).map (fun k => O.tuple ([(tileK w h s k).1, (tileK w h s k).2.1].map .int)) ∧ acc = (List.range i).map fun k => V.ref (σ2.length + k), ⟨by simp, rfl⟩, ?_, ?_⟩
  · rintro i acc σ' hi ⟨rfl, rfl⟩
    refine ⟨lst, ?_, fun cenv hc => WIf_nil ?_⟩
    · show TgtOk _ _ _ _ (((List.range n).map fun i => V.ref (0 + 1 + i)).getD i .none) _ _
      rw [rng_getD hi]
      exact TgtOk_tuple (ts := [(Str.ofString "left", _), (Str.ofString "top", _), (Str.ofString "wide", _), (Str.ofString "high", _)]) hA' (tup hi) (by show [Str.ofString "left", Str.ofString "top", Str.ofString "wide", Str.ofString "high"].Nodup; decide +kernel) rfl rfl
    rw [if_pos rfl]
    show WE _ _ _ _ [(Str.ofString "left", some (.int (tileK w h s i).1)), (Str.ofString "top", some (.int (tileK w h s i).2.1)), (Str.ofString "wide", some (.int (tileK w h s i).2.2.1)), (Str.ofString "high", some (.int (tileK w h s i).2.2.2))] _ _ _
    walk_at "xx"
    refine ⟨?_, ?_⟩
    · rw [List.range_succ, List.map_append, List.append_assoc]; rfl
    · rw [List.range_succ, List.map_append]; simp
  rintro acc σ' ⟨rfl, rfl⟩
  refine ⟨lst, n, fun k => .ref (σ2.length + k), fun k => [(tileK w h s k).1, (tileK w h s k).2.1], ObjAt.new rfl, hn, fun i hi => ?_, fun i j hij hj e => ?_, ?_⟩
  · refine ObjAt.up ?_
    show (σ2 ++ _)[σ2.length + i]? = _
    rw [List.getElem?_append_right (by omega)]
    simp [hi]
  · injection e with e1 e2
    injection e2 with e2 _
    have := tile_inj hw.1 hs.1 e1 e2
    omega
  walk_at "xx"
  generalize (List.range n).map (fun k => O.tuple ([(tileK w h s k).1, (tileK w h s k).2.1].map .int)) = J2
  refine WE_call (C := C) (by walk_at "mem") callable_builtin ?_
  walk_at "xx"
  refine WC_len lst.up (by simp; omega) ?_
  rw [show ((List.range n).map fun i => V.ref (0 + 1 + i)).length = n by simp]
  walk_at "xx"
  refine ite_f (by simp) ?_
  clear lst tup
  generalize σ2 ++ J2 ++ _ = σ3
  walk_at "xx"
  refine WE_call (C := C) (by walk_at "mem") c.c96 ?_
  walk_at "xx"
  refine WE_call (C := C) (by walk_at "mem") c.c125 ?_
  walk_at "xx"
  refine law_image_spec (N := 1) c hA' (by omega) hg hl (by decide) (by decide) (by omega) ?_
  intro v J P H W hH1 hH2 hW1 hW2 hr hlen hsm
  walk_at "xx"
  refine new_img (P := P) (N := 1) (H := H) (W := W) c hA' (by omega) (by omega) hr (.inl rfl) (by omega) (by omega) (fun k j _ _ => hlen k j) (fun k j _ _ => hsm k j) ?_
  intro J' hi
  clear hr
  generalize (σ3 ++ J).length = b at *
  generalize σ3 ++ J ++ J' = σ at *
  walk_at "xx"
  refine WE_call (C := C) (by walk_at "mem") c.c106 ?_
  walk_at "xx"
  refine at_width c hi ?_
  walk_at "xx"
  refine at_height c hi ?_
  walk_at "xx"
  refine blank_core (N := 1) (H := H) (W := W) c hA' (by omega) (by omega) (.inl rfl) (by omega) (by omega) (by decide) ?_
  intro J3 bo hbo ho
  have lb : imgEnd b 1 H ≤ bo := Nat.le_trans hi.end_le hbo
  replace hi := hi.up (J := J3)
  generalize σ ++ J3 = σ at *
  have lbo := ho.end_le
  obtain ⟨sN, rfl⟩ : ∃ sN : Nat, s = (sN : Int) := ⟨s.toNat, by omega⟩
  walk_at "xx"
  refine WS_for (WItr_of ?_)
  refine WE_call (C := C) (by walk_at "mem") c.c113 ?_
  walk_at "xx"
  refine at_width c hi ?_
  walk_at "xx"
  refine at_height c hi ?_
  walk_at "xx"
  refine tile_spec c hA' (by omega) (by omega) (by omega) (by omega) ?_
  have pw := nst_pos (show (1 : Int) ≤ (W : Int) by omega) hs.1
  have hnwx : ∀ x, x < W → x / sN < nst W sN := fun x hx => nst_div (by omega) (by omega) hx
  have hnhx : ∀ x, x < H → x / sN < nst H sN := fun x hx => nst_div (by omega) (by omega) hx
  have tl : ∀ {J : AH}, ObjAt C (tileS σ W H sN (nst H sN * nst W sN) ++ J) (.ref σ.length) (.list ((List.range (nst H sN * nst W sN)).map fun i => V.ref (σ.length + 1 + i))) := fun {J} => ObjAt.up (tileS_list (C := C))
  have bnd : ∀ k, k < nst H sN * nst W sN → k % nst W sN * sN < W ∧ k / nst W sN * sN < H ∧ k % nst W sN < nst W sN := by
    intro k hk
    have q1 := (nst_lt (show (1 : Int) ≤ (W : Int) by omega) hs.1).mp (Nat.mod_lt k pw)
    have q2 := (nst_lt (show (1 : Int) ≤ (H : Int) by omega) hs.1).mp (show k / nst W sN < nst H sN from Nat.div_lt_of_lt_mul (by rw [Nat.mul_comm]; exact hk))
    refine ⟨?_, ?_, Nat.mod_lt k pw⟩
    · have : ((k % nst W sN : Nat) : Int) * sN = ((k % nst W sN * sN : Nat) : Int) := by push_cast; rfl
      omega
    · have : ((k / nst W sN : Nat) : Int) * sN = ((k / nst W sN * sN : Nat) : Int) := by push_cast; rfl
      omega
  have tt : ∀ {k : Nat}, k < nst H sN * nst W sN → ObjAt C (tileS σ W H sN (nst H sN * nst W sN)) (.ref (σ.length + 1 + k)) (.tuple [.int ((k % nst W sN * sN : Nat) : Int), .int ((k / nst W sN * sN : Nat) : Int), .int ((min sN (W - k % nst W sN * sN) : Nat) : Int), .int ((min sN (H - k / nst W sN * sN) : Nat) : Int)]) := fun {k} hk => by
    rw [← tupO_nat (bnd k hk).1 (bnd k hk).2.1]; exact tileS_tup hk
  generalize hm : nst H sN * nst W sN = m at *
  generalize hS0 : tileS σ W H sN m = S0 at *
  have hS0l : S0.length = σ.length + 1 + m := by rw [← hS0]; exact tileS_len
  have hi0 : ImgAt S0 b P 1 H W := by rw [← hS0]; unfold tileS; exact hi.up.up
  have ho0 : ImgAt S0 bo (fun _ _ => List.replicate W 7) 1 H W := by rw [← hS0]; unfold tileS; exact ho.up.up
  have tl0 : ObjAt C S0 (.ref σ.length) (.list ((List.range m).map fun i => V.ref (σ.length + 1 + i))) := by have := tl (J := []); rw [List.append_nil] at this; exact this
  clear tl hi ho hS0
  generalize σ.length = q at *
  have keep : ∀ σ' : AH, (∀ i, i < S0.length → i < bo ∨ imgEnd bo 1 H ≤ i → σ'[i]? = S0[i]?) → ImgAt σ' b P 1 H W ∧ ObjAt C σ' (.ref q) (.list ((List.range m).map fun i => V.ref (q + 1 + i))) := by
    intro σ' hf
    refine ⟨hi0.frame fun i h1 h2 => hf i (by have := hi0.end_le; omega) (.inl (by omega)), ?_⟩
    show σ'[q]? = _
    rw [hf q (by omega) (.inr lbo)]; exact tl0
  refine ⟨_, _, _, Itb_list hA' tl0, ?_⟩
  rw [show ((List.range m).map fun i => V.ref (q + 1 + i)).length = m by simp]
  refine ⟨fun k ρ' σ' => ∃ a1 a2 a3 a4, S0.length ≤ σ'.length ∧ ImgAt σ' bo (covP P W sN (nst W sN) k) 1 H W ∧ (∀ i, i < S0.length → i < bo ∨ imgEnd bo 1 H ≤ i → σ'[i]? = S0[i]?) ∧ ρ' = ([(Str.ofString "script", (some (.k (.ref a)))), (Str.ofString "width", (some (.int w))), (Str.ofString "height", (some (.int h))), (Str.ofString "side", (some (.int (sN : Int)))), (Str.ofString "rows", (some (.ref 0))), (Str.ofString "left", a1), (Str.ofString "top", a2), (Str.ofString "wide", a3), (Str.ofString "high", a4), (Str.ofString "image", (some (.ref (b + 1)))), (Str.ofString "out", (some (.ref (bo + 1)))), (Str.ofString "found", none)] : Loc), ⟨_, _, _, _, Nat.le_refl _, ho0.congr fun k j _ _ => ?_, fun _ _ _ => rfl, rfl⟩, ?_, ?_⟩
  · refine ext_getD (by simp [covP_len]) fun x hx => ?_
    rw [List.length_replicate] at hx
    rw [covP_get hx, if_neg (Nat.not_lt_zero _), List.getD_eq_getElem?_getD, List.getElem?_replicate, if_pos hx]; rfl
  · rintro k ρ' σ' hk ⟨a1, a2, a3, a4, hln, ho1, hf1, rfl⟩
    obtain ⟨hi1, tl1⟩ := keep σ' hf1
    refine ⟨tl1, ?_⟩
    rw [rng_getD hk]
    have tk := hf1 (q + 1 + k) (by omega) (.inr (by omega))
    have tk2 : S0[q + 1 + k]? = _ := tt hk
    refine WAs_tuple hA' (show ObjAt _ _ (.ref (q + 1 + k)) _ from tk.trans tk2) ?_
    clear tk2
    obtain ⟨bd1, bd2, bd3⟩ := bnd k hk
    have hdm : k / nst W sN * nst W sN + k % nst W sN = k := by rw [Nat.mul_comm]; exact Nat.div_add_mod ..
    generalize k % nst W sN = j at *
    generalize k / nst W sN = i at *
    walk_at "xx"
    refine WE_meth ?_
    walk_at "xx"
    refine WM_inst (f := 86) c.K clsI (by kernel_rfl) (by kernel_rfl) ho1.inst ho1.ns (by kernel_rfl) ⟨callable_K c.K (by kernel_rfl), ?_⟩
    refine WL_cons ?_
    refine WE_meth ?_
    walk_at "xx"
    refine WM_inst (f := 79) c.K clsI (by kernel_rfl) (by kernel_rfl) hi1.inst hi1.ns (by kernel_rfl) ⟨callable_K c.K (by kernel_rfl), ?_⟩
    walk_at "xx"
    refine crop_spec c hA' (by omega) (by omega) hi1 (.inl rfl) (by omega) (by omega) (fun k j _ _ => hlen k j) (fun k j _ _ => hsm k j) (by omega) (by omega) (by omega) (by omega) ?_
    intro J5 b5 hb5 h5
    walk_at "xx"
    have lb5 := ho1.end_le
    refine paste_spec c hA' (by omega) (ho1.up (J := J5)) h5 (.inl (by omega)) (by omega) (by omega) (by omega) (fun k j _ _ => covP_len) (fun p y hp hy => ?_) (by omega) (by omega) ?_
    · unfold cropP
      rw [List.length_take, List.length_drop, hlen]; omega
    intro σ2' hln2 ho2 hf2
    walk_at "xx"
    refine ⟨_, _, _, _, by rw [hln2, List.length_append]; omega, ho2.congr fun p y hp hy => ?_, fun x hx1 hx2 => ?_, rfl⟩
    · obtain rfl : p = 0 := by omega
      rw [← hdm]
      exact cov_step (by omega) bd3 hnwx hy bd1 (hlen 0 y)
    · rw [hf2 x hx2, List.getElem?_append_left (by omega)]
      exact hf1 x hx1 hx2
  rintro ρ' σ' ⟨a1, a2, a3, a4, hln, ho1, hf1, rfl⟩
  obtain ⟨hi1, tl1⟩ := keep σ' hf1
  refine ⟨tl1, ?_⟩
  walk_at "xx"
  refine WB_plain ?_
  refine WE_meth ?_
  walk_at "xx"
  refine WM_inst (f := 67) c.K clsI (by kernel_rfl) (by kernel_rfl) ho1.inst ho1.ns (by kernel_rfl) ⟨callable_K c.K (by kernel_rfl), ?_⟩
  walk_at "xx"
  refine same_spec c (by omega) (by omega) ho1 hi1 ?_
  rw [show imgD (covP P W sN (nst W sN) m) 1 H = imgD P 1 H from imgD_congr fun p y hp hy => by
    obtain rfl : p = 0 := by omega
    rw [← hm]
    exact cov_all (H := H) hnwx (hnhx y hy) (hlen 0 y), imgD_eqv]
  walk_at "xx"
  refine WS_try_raise (C := C) c.K (T := "ValueError") (PC := 31) (by walk_at "mem") (by kernel_rfl) hst hfr ?_
  refine RSs_here (RS_expr (RE_meth ?_))
  walk_at "xx"
  refine WM_inst (f := 79) c.K clsI (by kernel_rfl) (by kernel_rfl) hi1.inst hi1.ns (by kernel_rfl) ⟨callable_K c.K (by kernel_rfl), ?_⟩
  walk_at "xx"
  refine WE_call (C := C) (by walk_at "mem") c.c120 ?_
  walk_at "xx"
  refine cell_spec c (by omega) hg hl (by decide) ?_
  walk_at "xx"
  obtain ⟨u0, u1⟩ := fm (ns.getD (Int.toNat 9) 0) 2 (by decide)
  refine at_width c hi1 ?_
  walk_at "xx"
  refine at_height c hi1 ?_
  walk_at "xx"
  refine WE_call (C := C) (by walk_at "mem") c.c120 ?_
  walk_at "xx"
  refine cell_spec c (by omega) hg hl (by decide) ?_
  walk_at "xx"
  generalize (ns.getD (Int.toNat 9) 0).fmod 2 = u at *
  refine crop_bad c hA' (by omega) hi1 (by omega) (by omega) (by omega) ?_
  intro e
  walk_at "xx"
  show V.bool (Str.ofString "ValueError" == Str.ofString "ValueError") = _
  rw [beq_self_eq_true]
end Mine
open PySem PySem.W PyProof.Rows Mine
theorem PySem.Challenge.cw_ui0502_07_holds : PySem.Challenge.rw_ui0502_07.Holds := by
  refine Mine.hd.all ?_
  intro w s₀ s₁ mg mb G Y fa o pm cd doc dV kV ho hd' hcd hD hmg hg args vals as hpre hlay hrd hwl hlo
  have KX : (hd.heap_39 w.params).In s₁.heap := kIn_of (K := hd.heap_39) (as := hd.as) (e := fun _ => by kernel_rfl) Y
  refine Ground.open G ?_
  intro T B D TE TW
  have hfa : fa = 130 := by
    have h1 := mg_of (n := Str.ofString "law") KX T.g (v := .ref 130) (by kernel_rfl)
    have h2 : mg (Str.ofString "law") = some (.ref fa) := hmg
    rw [h1] at h2
    injection h2 with h2
    injection h2 with h2
    exact h2.symm
  subst hfa
  clear hd' hcd hD hmg ho
  wrow_args hpre hlay hrd hwl hlo
  rename_i ns _ _ _ _ _ _ _ a vs _ hL _ _ _ hI _ hlen _
  let C : Cx := { prog := PySem.Challenge.rw_ui0502_07.row.prog, w := w, G := s₁.heap, gob := (a, .list (ns.map .int)) :: topObjs, glo := [], mg := mg, mb := mb }
  have glb : ∀ x v, nsIn (hd.heap_39 w.params) mainGlobals x = some none → bootBuiltins x = some v → x ≠ Str.ofString "__name__" → mg x = some v ∨ (mg x = none ∧ mb x = some v) :=
    fun x v e1 e2 e3 => .inr ⟨mg_none_of KX T.g e1, (T.builtins x e3).trans e2⟩
  have c : Law C := by
    refine ⟨KX, fun x hx => List.mem_cons_of_mem _ hx, ?_, ?_⟩
    rotate_left
    · obtain ⟨C', O, _⟩ := T.ownAt (x := Str.ofString "PackError") (newId := "ValueError.__new__") (bm := [.type "ValueError", .type "Exception", .type "BaseException", .type "object"]) (by kernel_rfl)
      have h1 : mg (Str.ofString "PackError") = some (.ref 31) := mg_of KX T.g (by kernel_rfl)
      have h2 := O.bound
      rw [h1] at h2
      injection h2 with h2
      injection h2 with h2
      subst h2
      exact O.own
    intro x v hx
    simp only [lawGlo, List.mem_cons, List.not_mem_nil, or_false] at hx
    rcases hx with e | e | e | e | e | e | e | e | e | e | e | e | e | e | e | e | e | e | e <;> cases e
    · exact glb _ _ (by kernel_rfl) (by boot_by_name) (by decide)
    · exact glb _ _ (by kernel_rfl) (by boot_by_name) (by decide)
    · exact glb _ _ (by kernel_rfl) (by boot_by_name) (by decide)
    · exact glb _ _ (by kernel_rfl) (by boot_by_name) (by decide)
    · exact glb _ _ (by kernel_rfl) (by boot_by_name) (by decide)
    · exact glb _ _ (by kernel_rfl) (by boot_by_name) (by decide)
    · exact glb _ _ (by kernel_rfl) (by boot_by_name) (by decide)
    · exact glb _ _ (by kernel_rfl) (by boot_by_name) (by decide)
    · exact glb _ _ (by kernel_rfl) (by boot_by_name) (by decide)
    · exact glb _ _ (by kernel_rfl) (by boot_by_name) (by decide)
    · exact .inl (mg_of KX T.g (by kernel_rfl))
    · exact .inl (mg_of KX T.g (by kernel_rfl))
    · exact .inl (mg_of KX T.g (by kernel_rfl))
    · exact .inl (mg_of KX T.g (by kernel_rfl))
    · exact .inl (mg_of KX T.g (by kernel_rfl))
    · exact .inl (mg_of KX T.g (by kernel_rfl))
    · exact .inl (mg_of KX T.g (by kernel_rfl))
    · exact .inl (mg_of KX T.g (by kernel_rfl))
    · exact .inl (mg_of KX T.g (by kernel_rfl))
  have ok : C.Ok := by
    refine ⟨?_, T.g, T.b, fun x v hx => (nomatch hx), T.nolimit⟩
    · intro b o hb
      rcases List.mem_cons.mp hb with e | hb'
      · cases e
        exact ⟨vs.toArray, hL, by simpa using RVs.ints hI⟩
      · exact topObjs_ok KX b o hb'
  exact bridge PySem.Challenge.rw_ui0502_07 (C := C) rfl rfl rfl ok hg (law_main c (.head _) (by omega) (fun x hx => List.mem_cons_of_mem _ hx))

