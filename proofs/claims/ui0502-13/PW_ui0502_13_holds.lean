import PyProof.Rows.All
import Wide.All
import OpenK.AllK
import Wide.FinOn
import PySem.Challenge.RW_ui0502_13
set_option Elab.async false
set_option maxRecDepth 100000
set_option maxHeartbeats 8000000
-- part Aw0
set_option autoImplicit false
set_option linter.unusedVariables false
namespace Mine
open PySem

theorem size_upd (h : Heap) (a : Addr) (f : Obj → Obj) : (h.update a f).objs.size = h.objs.size := (Heap.SameBut.update h a f).1
theorem size_psh (h : Heap) (o : Obj) : (h.push o).objs.size = h.objs.size + 1 := by simp [Heap.push]
theorem runs_sz {M : Model} {Γ : Ctx} {p : Pos} {t : Sem Fin} {fs : List Frame} {s s' : Shared} {e : End} (h : Runs M Γ p t fs s e s') : s.heap.objs.size ≤ s'.heap.objs.size := by
  induction h <;> (try simp only [Shared.setGen, size_upd, size_psh] at *) <;> omega
theorem wakes_sz {M : Model} {Γ : Ctx} {p : Pos} {g : Nat} {r : Resume} {s s' : Shared} {res : GenResult} (h : Wakes M Γ p g r s res s') : s.heap.objs.size ≤ s'.heap.objs.size := by
  unfold Wakes at h
  split at h
  · exact h.elim
  · split at h
    · obtain ⟨e₁, s₁, hr, _, _, rfl⟩ := h; exact (runs_sz hr : (s.setGen g .running).heap.objs.size ≤ s₁.heap.objs.size)
    · rw [h.2]; exact Nat.le_refl _
    · rw [h.2]; exact Nat.le_refl _
  · obtain ⟨e₁, s₁, hr, _, _, rfl⟩ := h; exact (runs_sz hr : (s.setGen g .running).heap.objs.size ≤ s₁.heap.objs.size)
  · rw [h.2]; exact Nat.le_refl _
  · rw [h.2]; exact Nat.le_refl _
theorem wp_sz {α : Type} (M : Model) (Γ : Ctx) (n : Nat) (t : Sem α) : ∀ (Q : α → Pos → Shared → Prop) (E : Value → Pos → Shared → Prop) (p : Pos) (s : Shared), n ≤ s.heap.objs.size → Sem.wp M Γ t Q E p s →
    Sem.wp M Γ t (fun a p' s' => n ≤ s'.heap.objs.size ∧ Q a p' s') (fun e p' s' => n ≤ s'.heap.objs.size ∧ E e p' s') p s := by
  induction t with
  | pure a => intro Q E p s hn h; exact ⟨hn, h⟩
  | raise e => intro Q E p s hn h; exact ⟨hn, h⟩
  | unsupported _ => intro Q E p s _ h; exact h
  | finish _ => intro Q E p s _ h; exact h
  | rule _ k ih => intro Q E p s hn h; exact ih () Q E p s hn h
  | «at» p' k ih => intro Q E p s hn h; exact ih () Q E p' s hn h
  | load a _ k ih => intro Q E p s hn h; obtain ⟨o, ho, h⟩ := h; exact ⟨o, ho, ih o Q E p s hn h⟩
  | update a _ f k ih => intro Q E p s hn h; exact ⟨h.1, ih () Q E p _ (by simp only [size_upd]; exact hn) h.2⟩
  | loadIfAlive a k ih => intro Q E p s hn h; exact ih _ Q E p s hn h
  | point _ k ih => intro Q E p s hn h; exact ih () Q E p s hn h
  | register _ _ => intro Q E p s _ h; exact h
  | alloc o k ih => intro Q E p s hn h; exact ih _ Q E p _ (by simp only [size_psh]; omega) h
  | fresh k ih => intro Q E p s hn h; exact ih _ Q E p _ hn h
  | ask k ih => intro Q E p s hn h; exact ih _ Q E p s hn h
  | choose src m k ih => intro Q E p s hn h; exact ⟨h.1, ih _ Q E p _ hn h.2⟩
  | os q _ k ih => intro Q E p s hn h; exact ih _ Q E p _ hn h
  | call c hd _ _ k ih => intro Q E p s hn h; obtain ⟨r, s', hr, h⟩ := h; exact ⟨r, s', hr, ih r Q E p s' (Nat.le_trans hn (runs_sz hr)) h⟩
  | handled own k ih => intro Q E p s hn h; exact ih _ Q E p s hn h
  | genState g k ih => intro Q E p s hn h; obtain ⟨st, hs, h⟩ := h; exact ⟨st, hs, ih _ Q E p s hn h⟩
  | newGen c k ih => intro Q E p s hn h; exact ih _ Q E p _ hn h
  | resume g r _ k ih => intro Q E p s hn h; obtain ⟨res, s', hw, h⟩ := h; exact ⟨res, s', hw, ih res Q E p s' (Nat.le_trans hn (wakes_sz hw)) h⟩
  | yield _ _ _ _ => intro Q E p s _ h; exact h
  | stack k ih => intro Q E p s hn h; exact ih _ Q E p s hn h
  | fork _ _ => intro Q E p s _ h; exact h
  | thread k ih => intro Q E p s hn h; exact ih _ Q E p s hn h
  | await _ _ _ _ _ => intro Q E p s _ h; exact h
/-- the heap never shrinks -/
theorem wpAny_sz {α : Type} {M : Model} {A : Around} {s : Shared} {t : Sem α} {Q : α → Shared → Prop} {E : Value → Shared → Prop}
    (h : wpAny M A t (fun a s' => s.heap.objs.size ≤ s'.heap.objs.size → Q a s') E s) : wpAny M A t Q E s :=
  have h2 : wpAny M A t (fun a s' => s.heap.objs.size ≤ s'.heap.objs.size ∧ (s.heap.objs.size ≤ s'.heap.objs.size → Q a s')) (fun e s' => s.heap.objs.size ≤ s'.heap.objs.size ∧ E e s') s :=
    fun Γ p hΓ => wp_sz M Γ s.heap.objs.size t _ _ p s (Nat.le_refl _) (h Γ p hΓ)
  wpAny_mono h2 (fun _ _ x => x.2 x.1) (fun _ _ x => x.2)
end Mine

-- part Aw1
set_option autoImplicit false
namespace Mine
open PySem

inductive V where
  | none
  | bool (b : Bool)
  | int (i : Int)
  | str (s : Str)
  | bytes (b : Array UInt8)
  | ref (i : Nat)
  | k (v : Value)

inductive O where
  | list (xs : List V)
  | tuple (xs : List V)
  | inst (C : Addr) (d : Nat)
  | ns (es : List (Str × V))

abbrev AH := List O
abbrev Loc := List (Str × Option V)

def RV (ad : List Addr) : V → Value → Prop
  | .none, x => x = .none
  | .bool b, x => x = .bool b
  | .int i, x => ∃ t, x = .int i t
  | .str s, x => ∃ t, x = .str s t
  | .bytes b, x => ∃ t, x = .bytes b t
  | .ref i, x => ∃ a, ad[i]? = some a ∧ x = .ref a
  | .k v, x => x = v

inductive RVs (ad : List Addr) : List V → List Value → Prop
  | nil : RVs ad [] []
  | cons {v : V} {x : Value} {vs : List V} {xs : List Value} : RV ad v x → RVs ad vs xs → RVs ad (v :: vs) (x :: xs)

inductive REs (P : Params) (ad : List Addr) : List (Str × V) → List DictEntry → Prop
  | nil : REs P ad [] []
  | cons {k : Str} {v : V} {t : Tok} {x : Value} {es : List (Str × V)} {ds : List DictEntry} : RV ad v x → REs P ad es ds → REs P ad ((k, v) :: es) (⟨PyData.keyHash P k, .str k t, x⟩ :: ds)

def RO (P : Params) (ad : List Addr) : O → Obj → Prop
  | .list xs, o => ∃ vs n, o = ⟨.type "list", none, .seq vs n, #[]⟩ ∧ RVs ad xs vs.toList
  | .tuple xs, o => ∃ vs n, o = ⟨.type "tuple", none, .seq vs n, #[]⟩ ∧ RVs ad xs vs.toList
  | .inst C d, o => ∃ a, ad[d]? = some a ∧ o = ⟨.ref C, some a, .plain, #[]⟩
  | .ns es, o => ∃ ds n, o = ⟨.type "dict", none, .dict ds n, #[]⟩ ∧ REs P ad es ds.toList

theorem RV.mono {ad nw : List Addr} {v : V} {x : Value} (h : RV ad v x) : RV (ad ++ nw) v x := by
  cases v <;> try exact h
  obtain ⟨a, h1, h2⟩ := h
  refine ⟨a, ?_, h2⟩
  rw [List.getElem?_append_left]
  · exact h1
  · exact (List.getElem?_eq_some_iff.mp h1).1
theorem RVs.mono {ad nw : List Addr} {v : List V} {x : List Value} (h : RVs ad v x) : RVs (ad ++ nw) v x := by
  induction h with
  | nil => exact .nil
  | cons a _ ih => exact .cons a.mono ih
theorem REs.mono {P : Params} {ad nw : List Addr} {v : List (Str × V)} {x : List DictEntry} (h : REs P ad v x) : REs P (ad ++ nw) v x := by
  induction h with
  | nil => exact .nil
  | cons a _ ih => exact .cons a.mono ih
theorem RO.mono {P : Params} {ad nw : List Addr} {o : O} {x : Obj} (h : RO P ad o x) : RO P (ad ++ nw) o x := by
  cases o with
  | list xs => obtain ⟨vs, n, e, r⟩ := h; exact ⟨vs, n, e, r.mono⟩
  | tuple xs => obtain ⟨vs, n, e, r⟩ := h; exact ⟨vs, n, e, r.mono⟩
  | inst C d =>
    obtain ⟨a, h1, h2⟩ := h
    refine ⟨a, ?_, h2⟩
    rw [List.getElem?_append_left]
    · exact h1
    · exact (List.getElem?_eq_some_iff.mp h1).1
  | ns es => obtain ⟨vs, n, e, r⟩ := h; exact ⟨vs, n, e, r.mono⟩
theorem RO.notFreed {P : Params} {ad : List Addr} {o : O} {x : Obj} (h : RO P ad o x) : x.isFreed = false := by
  cases o with
  | list xs => obtain ⟨vs, n, e, r⟩ := h; subst e; rfl
  | tuple xs => obtain ⟨vs, n, e, r⟩ := h; subst e; rfl
  | inst C d => obtain ⟨a, h1, h2⟩ := h; subst h2; rfl
  | ns es => obtain ⟨vs, n, e, r⟩ := h; subst e; rfl
theorem RVs.length {ad : List Addr} {v : List V} {x : List Value} (h : RVs ad v x) : v.length = x.length := by
  induction h with
  | nil => rfl
  | cons _ _ ih => simp [ih]
theorem RVs.get {ad : List Addr} {v : List V} {x : List Value} (h : RVs ad v x) : ∀ {i : Nat} {a : V}, v[i]? = some a → ∃ u, x[i]? = some u ∧ RV ad a u := by
  induction h with
  | nil => intro i a h; simp at h
  | cons r _ ih =>
    intro i a h
    cases i with
    | zero => simp at h; subst h; exact ⟨_, rfl, r⟩
    | succ i => simp at h; obtain ⟨u, h1, h2⟩ := ih h; exact ⟨u, by simpa using h1, h2⟩

structure Cx where
  prog : Program
  w : World
  G : Heap
  gob : List (Addr × O)
  glo : List (Str × Value)
  mg : Str → Option Value
  mb : Str → Option Value

abbrev Cx.wg (C : Cx) (l : List (Str × Value)) : Cx := { C with glo := l }
def nmOk (x : Str) : Bool := !(x == ("__debug__" : Str)) && !(x == ("__classdict__" : Str))
theorem nmOk_d {x : Str} (h : nmOk x = true) : (x == ("__debug__" : Str)) = false := by unfold nmOk at h; simp at h ⊢; exact h.1
theorem nmOk_c {x : Str} (h : nmOk x = true) : (x == ("__classdict__" : Str)) = false := by unfold nmOk at h; simp at h ⊢; exact h.2
/-- an object of the base, as read -/
def GO (P : Params) (h : Heap) (a : Addr) : O → Prop
  | .list xs => ∃ vs, h.IsList a vs ∧ RVs [] xs vs.toList
  | .tuple xs => ∃ vs, h.IsTuple a vs ∧ RVs [] xs vs.toList
  | o => ∃ ob, h.get? a = some ob ∧ RO P [] o ob
theorem GO.keeps {P : Params} {h h' : Heap} {a : Addr} {o : O} (x : GO P h a o) (k : ∀ b o, h.get? b = some o → h'.get? b = some o) : GO P h' a o := by
  cases o with
  | list xs => obtain ⟨vs, ⟨o, ho, r⟩, r2⟩ := x; exact ⟨vs, ⟨o, k _ _ ho, r⟩, r2⟩
  | tuple xs => obtain ⟨vs, ⟨o, ho, r⟩, r2⟩ := x; exact ⟨vs, ⟨o, k _ _ ho, r⟩, r2⟩
  | inst C d => obtain ⟨ob, h1, h2⟩ := x; exact ⟨ob, k _ _ h1, h2⟩
  | ns es => obtain ⟨ob, h1, h2⟩ := x; exact ⟨ob, k _ _ h1, h2⟩
structure Cx.Ok (C : Cx) : Prop where
  gob : ∀ a o, (a, o) ∈ C.gob → GO C.w.params C.G a o
  g : C.G.Ns mainGlobals C.mg
  b : C.G.Ns builtinsNs C.mb
  glo : ∀ x v, (x, v) ∈ C.glo → C.mg x = some v ∨ (C.mg x = none ∧ C.mb x = some v)
  lim : C.G.NoLimit

structure HR (C : Cx) (ad : List Addr) (σ : AH) (h : Heap) : Prop where
  ok : C.Ok
  keep : ∀ b o, C.G.get? b = some o → h.get? b = some o
  len : ad.length = σ.length
  nd : ad.Nodup
  off : ∀ a ∈ ad, C.G.get? a = none
  low : ∀ a ∈ ad, a ≠ sysModules
  obj : ∀ (i : Nat) (o : O) (a : Addr), σ[i]? = some o → ad[i]? = some a → ∃ ob, h.get? a = some ob ∧ RO C.w.params ad o ob

def fa (env : Env) : List Addr := env.locals :: env.cells.map (·.2)

structure ER (C : Cx) (env : Env) (ρ : Loc) (ad : List Addr) (h : Heap) : Prop where
  kind : env.scope.kind = .function
  glob : env.globals = mainGlobals
  blt : env.builtins = builtinsNs
  nd : (ρ.map (·.1)).Nodup
  kd : ∀ x v, (x, v) ∈ ρ → env.kindOf x = some .local ∨ ((env.kindOf x = some .cell ∨ env.kindOf x = some .free) ∧ (env.cells.lookup x).isSome = true)
  m : ∃ m, h.Ns env.locals m ∧ ∀ x v, (x, some v) ∈ ρ → env.kindOf x = some .local → ∃ u, m x = some u ∧ RV ad v u
  cell : ∀ x c, env.cells.lookup x = some c → ∃ o w, h.get? c = some o ∧ o.data = .cell w ∧ (∀ v, (x, some v) ∈ ρ → env.kindOf x ≠ some .local → ∃ u, w = some u ∧ RV ad v u)
  cinj : ∀ x y c, env.cells.lookup x = some c → env.cells.lookup y = some c → x = y
  cl : ∀ x c, env.cells.lookup x = some c → c ≠ env.locals
  off : ∀ a ∈ fa env, C.G.get? a = none ∧ a ∉ ad
  lt : ∀ a ∈ fa env, a < h.objs.size
  nm : ∀ x v, (x, v) ∈ ρ → nmOk x = true
  gk : ∀ x v, (x, v) ∈ C.glo → env.kindOf x = some .globalImplicit ∧ nmOk x = true

structure Nx (C : Cx) (ch : List Addr) (ad : List Addr) (s : Shared) (ad' : List Addr) (σ' : AH) (s' : Shared) : Prop where
  eq : ∃ h tk, s' = { s with heap := h, toks := tk }
  pre : ∃ nw, ad' = ad ++ nw ∧ ∀ a ∈ nw, s.heap.objs.size ≤ a
  size : s.heap.objs.size ≤ s'.heap.objs.size
  same : ∀ b o, s.heap.get? b = some o → b ∉ ad → b ∉ ch → s'.heap.get? b = some o
  hr : HR C ad' σ' s'.heap

theorem mem_cells {env : Env} {x : Str} {c : Addr} (h : env.cells.lookup x = some c) : c ∈ fa env := by
  unfold fa
  refine List.mem_cons_of_mem _ ?_
  generalize env.cells = l at h
  induction l with
  | nil => simp at h
  | cons p r ih =>
    obtain ⟨y, d⟩ := p
    simp only [List.lookup_cons] at h
    split at h
    · cases h; simp
    · simp only [List.map_cons, List.mem_cons]; exact .inr (ih h)

theorem Nx.refl {C : Cx} {ch ad : List Addr} {σ : AH} {s : Shared} (h : HR C ad σ s.heap) : Nx C ch ad s ad σ s :=
  ⟨⟨s.heap, s.toks, rfl⟩, ⟨[], by simp, by simp⟩, Nat.le_refl _, fun _ _ e _ _ => e, h⟩
theorem Nx.tok {C : Cx} {ch ad : List Addr} {σ : AH} {s : Shared} (t : Nat) (h : HR C ad σ s.heap) : Nx C ch ad s ad σ { s with toks := t } :=
  ⟨⟨s.heap, t, rfl⟩, ⟨[], by simp, by simp⟩, Nat.le_refl _, fun _ _ e _ _ => e, h⟩
theorem Nx.trans {C : Cx} {ch ad ad1 ad2 : List Addr} {σ1 σ2 : AH} {s s1 s2 : Shared} (a : Nx C ch ad s ad1 σ1 s1) (b : Nx C ch ad1 s1 ad2 σ2 s2) : Nx C ch ad s ad2 σ2 s2 := by
  obtain ⟨h1, t1, e1⟩ := a.eq
  obtain ⟨h2, t2, e2⟩ := b.eq
  obtain ⟨n1, p1, q1⟩ := a.pre
  obtain ⟨n2, p2, q2⟩ := b.pre
  refine ⟨⟨h2, t2, by rw [e2, e1]⟩, ⟨n1 ++ n2, by rw [p2, p1, List.append_assoc], ?_⟩, Nat.le_trans a.size b.size, ?_, b.hr⟩
  · intro x hx
    rcases List.mem_append.mp hx with hx | hx
    · exact q1 x hx
    · exact Nat.le_trans a.size (q2 x hx)
  · intro x o e n c
    refine b.same x o (a.same x o e n c) ?_ c
    rw [p1]
    intro hx
    rcases List.mem_append.mp hx with hx | hx
    · exact n hx
    · exact absurd (Heap.lt_size e) (Nat.not_lt.mpr (q1 x hx))
theorem Nx.weak {C : Cx} {ch ad ad1 : List Addr} {σ1 : AH} {s s1 : Shared} (a : Nx C [] ad s ad1 σ1 s1) : Nx C ch ad s ad1 σ1 s1 :=
  ⟨a.eq, a.pre, a.size, fun b o e n _ => a.same b o e n (by simp), a.hr⟩
theorem Nx.rv {C : Cx} {ch ad ad1 : List Addr} {σ1 : AH} {s s1 : Shared} (a : Nx C ch ad s ad1 σ1 s1) {v : V} {x : Value} (h : RV ad v x) : RV ad1 v x := by
  obtain ⟨n1, p1, q1⟩ := a.pre; rw [p1]; exact h.mono
theorem Nx.rvs {C : Cx} {ch ad ad1 : List Addr} {σ1 : AH} {s s1 : Shared} (a : Nx C ch ad s ad1 σ1 s1) {v : List V} {x : List Value} (h : RVs ad v x) : RVs ad1 v x := by
  obtain ⟨n1, p1, q1⟩ := a.pre; rw [p1]; exact h.mono

theorem ER.next {C : Cx} {env : Env} {ρ : Loc} {ad ad1 : List Addr} {σ1 : AH} {s s1 : Shared} (r : ER C env ρ ad s.heap) (a : Nx C [] ad s ad1 σ1 s1) : ER C env ρ ad1 s1.heap := by
  have keep : ∀ b ∈ fa env, ∀ o, s.heap.get? b = some o → s1.heap.get? b = some o := fun b hb o e => a.same b o e (r.off b hb).2 (by simp)
  refine ⟨r.kind, r.glob, r.blt, r.nd, r.kd, ?_, ?_, r.cinj, r.cl, ?_, fun b hb => Nat.lt_of_lt_of_le (r.lt b hb) a.size, r.nm, r.gk⟩
  · obtain ⟨m, hm, h⟩ := r.m
    refine ⟨m, hm.at' fun o e => keep _ (by simp [fa]) o e, fun x v hx hk => ?_⟩
    obtain ⟨u, h1, h2⟩ := h x v hx hk
    exact ⟨u, h1, a.rv h2⟩
  · intro x c hc
    obtain ⟨o, w, h1, h2, h3⟩ := r.cell x c hc
    refine ⟨o, w, keep c (mem_cells hc) o h1, h2, fun v hv hk => ?_⟩
    obtain ⟨u, e, hu⟩ := h3 v hv hk
    exact ⟨u, e, a.rv hu⟩
  · intro b hb
    refine ⟨(r.off b hb).1, ?_⟩
    obtain ⟨n1, p1, q1⟩ := a.pre
    rw [p1]
    intro hx
    rcases List.mem_append.mp hx with hx | hx
    · exact (r.off b hb).2 hx
    · exact absurd (r.lt b hb) (Nat.not_lt.mpr (q1 b hx))

end Mine

-- part Aw2
set_option autoImplicit false
set_option linter.unusedVariables false
namespace Mine
open PySem PyProof.Rows

inductive Fl where
  | next
  | brk
  | cont
  | ret (v : V)
def RF (ad : List Addr) : Fl → Flow → Prop
  | .next, f => f = .next
  | .brk, f => f = .brk
  | .cont, f => f = .cont
  | .ret v, f => ∃ u, f = .ret u ∧ RV ad v u

/- the syntax looked at, cheaply -/
def isCompE : Expr → Bool
  | .ListComp .. => true
  | .SetComp .. => true
  | .DictComp .. => true
  | _ => false
theorem swaps_not {e : Expr} {t : Option Expr} {l : Nat} {env : Env} (h : isCompE e = false) : swapsWith e t l env = pure false := by
  cases e <;> first | rfl | cases h
def isSetE : Expr → Bool
  | .Set .. => true
  | _ => false
theorem folded_not {e : Expr} {env : Env} (h : isSetE e = false) : ∀ x, foldedSetIterable e env x = pure x := by
  intro x
  cases e <;> first | rfl | cases h
theorem marks_not {op : CmpOp} {e : Expr} (h : isSetE e = false) : behindInMarks op e = false := by
  cases e <;> first | rfl | cases h
def starE : Expr → Bool
  | .Starred .. => true
  | _ => false
theorem star_not {e : Expr} {es : List Expr} {env : Env} (h : starE e = false) : starEach (e :: es) env = (false, eval e env) :: starEach es env := by
  cases e <;> first | rfl | cases h
theorem assign_not {e : Expr} {es : List Expr} {env : Env} (h : starE e = false) : assignEach (e :: es) env = (false, assign e env) :: assignEach es env := by
  cases e <;> first | rfl | cases h
def plainTest : Expr → Bool
  | .UnaryOp .Not _ _ => false
  | .BoolOp .. => false
  | .IfExp .. => false
  | .Compare .. => false
  | _ => true
abbrev EX := Value → Shared → Prop
def PE (C : Cx) (ad : List Addr) (s : Shared) (Q : V → AH → Prop) : Value → Shared → Prop :=
  fun u s' => ∃ ad' σ' v, Nx C [] ad s ad' σ' s' ∧ RV ad' v u ∧ Q v σ'
def PB (C : Cx) (ad : List Addr) (s : Shared) (Q : Bool → AH → Prop) : Bool → Shared → Prop :=
  fun u s' => ∃ ad' σ', Nx C [] ad s ad' σ' s' ∧ Q u σ'
def PL (C : Cx) (ad : List Addr) (s : Shared) (Q : List V → AH → Prop) : List Value → Shared → Prop :=
  fun u s' => ∃ ad' σ' v, Nx C [] ad s ad' σ' s' ∧ RVs ad' v u ∧ Q v σ'
def PS (C : Cx) (env : Env) (ad : List Addr) (s : Shared) (Q : Fl → Loc → AH → Prop) : Flow → Shared → Prop :=
  fun f s' => ∃ ad' σ' ρ' fl, Nx C (fa env) ad s ad' σ' s' ∧ ER C env ρ' ad' s'.heap ∧ RF ad' fl f ∧ Q fl ρ' σ'

structure WE (C : Cx) (A : Around) (env : Env) (e : Expr) (ρ : Loc) (σ : AH) (Q : V → AH → Prop) (E : EX) : Prop where
  run : ∀ ad s, HR C ad σ s.heap → ER C env ρ ad s.heap → wpAny (model C.prog C.w) A (eval e env) (PE C ad s Q) E s
structure WB (C : Cx) (A : Around) (env : Env) (e : Expr) (ρ : Loc) (σ : AH) (Q : Bool → AH → Prop) (E : EX) : Prop where
  run : ∀ ad s, HR C ad σ s.heap → ER C env ρ ad s.heap → wpAny (model C.prog C.w) A (isTrue e env (eval e env)) (PB C ad s Q) E s
structure WL (C : Cx) (A : Around) (env : Env) (es : List Expr) (ρ : Loc) (σ : AH) (Q : List V → AH → Prop) (E : EX) : Prop where
  run : ∀ ad s pos, HR C ad σ s.heap → ER C env ρ ad s.heap → wpAny (model C.prog C.w) A (spliced (backTo pos (starEach es env))) (PL C ad s Q) E s
structure WS (C : Cx) (A : Around) (env : Env) (st : Stmt) (ρ : Loc) (σ : AH) (Q : Fl → Loc → AH → Prop) (E : EX) : Prop where
  run : ∀ ad s, HR C ad σ s.heap → ER C env ρ ad s.heap → wpAny (model C.prog C.w) A (exec st env) (PS C env ad s Q) E s
structure WSs (C : Cx) (A : Around) (env : Env) (st : List Stmt) (ρ : Loc) (σ : AH) (Q : Fl → Loc → AH → Prop) (E : EX) : Prop where
  run : ∀ ad s, HR C ad σ s.heap → ER C env ρ ad s.heap → wpAny (model C.prog C.w) A (execs st env) (PS C env ad s Q) E s
structure WOp2 (C : Cx) (A : Around) (t : Value → Value → Sem Value) (a b : V) (σ : AH) (Q : V → AH → Prop) (E : EX) : Prop where
  run : ∀ ad s x y, HR C ad σ s.heap → RV ad a x → RV ad b y → wpAny (model C.prog C.w) A (t x y) (PE C ad s Q) E s
structure WOp1 (C : Cx) (A : Around) (t : Value → Sem Value) (a : V) (σ : AH) (Q : V → AH → Prop) (E : EX) : Prop where
  run : ∀ ad s x, HR C ad σ s.heap → RV ad a x → wpAny (model C.prog C.w) A (t x) (PE C ad s Q) E s
structure WTr (C : Cx) (A : Around) (a : V) (σ : AH) (Q : Bool → AH → Prop) (E : EX) : Prop where
  run : ∀ ad s x, HR C ad σ s.heap → RV ad a x → wpAny (model C.prog C.w) A (truthy x) (PB C ad s Q) E s
structure WC (C : Cx) (A : Around) (f : Value) (args : List V) (σ : AH) (Q : V → AH → Prop) (E : EX) : Prop where
  run : ∀ ad s xs, HR C ad σ s.heap → RVs ad args xs → wpAny (model C.prog C.w) A (call f xs) (PE C ad s Q) E s

section
variable {C : Cx} {A : Around} {env : Env} {ρ : Loc} {σ : AH} {E : EX}

theorem PE.trans {ad ad1 : List Addr} {s s1 s' : Shared} {σ1 : AH} {Q : V → AH → Prop} {u : Value} (n : Nx C [] ad s ad1 σ1 s1) (p : PE C ad1 s1 Q u s') : PE C ad s Q u s' := by
  obtain ⟨ad', σ', v, a, b, c⟩ := p
  exact ⟨ad', σ', v, n.trans a, b, c⟩
theorem PB.trans {ad ad1 : List Addr} {s s1 s' : Shared} {σ1 : AH} {Q : Bool → AH → Prop} {u : Bool} (n : Nx C [] ad s ad1 σ1 s1) (p : PB C ad1 s1 Q u s') : PB C ad s Q u s' := by
  obtain ⟨ad', σ', a, c⟩ := p
  exact ⟨ad', σ', n.trans a, c⟩
theorem PL.trans {ad ad1 : List Addr} {s s1 s' : Shared} {σ1 : AH} {Q : List V → AH → Prop} {u : List Value} (n : Nx C [] ad s ad1 σ1 s1) (p : PL C ad1 s1 Q u s') : PL C ad s Q u s' := by
  obtain ⟨ad', σ', v, a, b, c⟩ := p
  exact ⟨ad', σ', v, n.trans a, b, c⟩
theorem PS.trans {ad ad1 : List Addr} {s s1 s' : Shared} {σ1 : AH} {Q : Fl → Loc → AH → Prop} {u : Flow} (n : Nx C (fa env) ad s ad1 σ1 s1) (p : PS C env ad1 s1 Q u s') : PS C env ad s Q u s' := by
  obtain ⟨ad', σ', ρ', fl, a, b, c⟩ := p
  exact ⟨ad', σ', ρ', fl, n.trans a, b, c⟩

theorem WC.mono {f : Value} {args : List V} {Q Q' : V → AH → Prop} (h : WC C A f args σ Q E) (hq : ∀ v σ', Q v σ' → Q' v σ') : WC C A f args σ Q' E := .mk fun ad s xs hr er =>
  wpAny_mono (h.run ad s xs hr er) (fun _ _ ⟨a, b, c, d, e, f⟩ => ⟨a, b, c, d, e, hq _ _ f⟩) fun _ _ x => x
/- expressions -/
theorem WE_int {i : Int} {k : Nat} {pos : Pos} {Q : V → AH → Prop} (h : Q (.int i) σ) : WE C A env (.Constant (.int i) k pos) ρ σ Q E := .mk <|
  fun ad s hr _ => wpAny_Constant_int ⟨ad, σ, .int i, Nx.tok _ hr, ⟨_, rfl⟩, h⟩
theorem WE_str {i : Str} {k : Nat} {pos : Pos} {Q : V → AH → Prop} (h : Q (.str i) σ) : WE C A env (.Constant (.str i) k pos) ρ σ Q E := .mk <|
  fun ad s hr _ => wpAny_Constant_str ⟨ad, σ, .str i, Nx.tok _ hr, ⟨_, rfl⟩, h⟩
theorem WE_none {k : Nat} {pos : Pos} {Q : V → AH → Prop} (h : Q .none σ) : WE C A env (.Constant .none k pos) ρ σ Q E := .mk <|
  fun ad s hr _ => wpAny_Constant_none ⟨ad, σ, .none, Nx.refl hr, rfl, h⟩
theorem WE_bool {b : Bool} {k : Nat} {pos : Pos} {Q : V → AH → Prop} (h : Q (.bool b) σ) : WE C A env (.Constant (.bool b) k pos) ρ σ Q E := .mk <|
  fun ad s hr _ => wpAny_Constant_bool ⟨ad, σ, .bool b, Nx.refl hr, rfl, h⟩

theorem WE_BinOp {l r : Expr} {op : Operator} {pos : Pos} {Q : V → AH → Prop}
    (h : WE C A env l ρ σ (fun a σ1 => WE C A env r ρ σ1 (fun b σ2 => WOp2 C A (binaryOp op) a b σ2 Q E) E) E) : WE C A env (.BinOp l op r pos) ρ σ Q E := by
  refine ⟨?_⟩
  intro ad s hr er
  refine wpAny_BinOp (wpAny_mono (h.run ad s hr er) ?_ fun _ _ x => x)
  rintro a s1 ⟨ad1, σ1, va, n1, r1, h1⟩
  refine wpAny_mono (h1.run ad1 s1 n1.hr (er.next n1)) ?_ fun _ _ x => x
  rintro b s2 ⟨ad2, σ2, vb, n2, r2, h2⟩
  exact wpAny_mono (h2.run ad2 s2 a b n2.hr (n2.rv r1) r2) (fun u s' p => PE.trans (n1.trans n2) p) fun _ _ x => x
theorem WE_UnaryOp {x : Expr} {op : UnaryOp} {pos : Pos} {Q : V → AH → Prop}
    (h : WE C A env x ρ σ (fun a σ1 => WOp1 C A (unaryOp op) a σ1 Q E) E) : WE C A env (.UnaryOp op x pos) ρ σ Q E := by
  refine ⟨?_⟩
  intro ad s hr er
  refine wpAny_UnaryOp (wpAny_mono (h.run ad s hr er) ?_ fun _ _ x => x)
  rintro a s1 ⟨ad1, σ1, va, n1, r1, h1⟩
  exact wpAny_mono (h1.run ad1 s1 a n1.hr r1) (fun u s' p => PE.trans n1 p) fun _ _ x => x
theorem WE_Compare1 {l r : Expr} {op : CmpOp} {pos : Pos} {Q : V → AH → Prop}
    (h : WE C A env l ρ σ (fun a σ1 => WE C A env r ρ σ1 (fun b σ2 => WOp2 C A (compareOp op) a b σ2 Q E) E) E)
    (hm : isSetE r = false := by rfl) : WE C A env (.Compare l [op] [r] pos) ρ σ Q E := by
  refine ⟨?_⟩
  intro ad s hr er
  refine wpAny_Compare1 (wpAny_mono (h.run ad s hr er) ?_ fun _ _ x => x) (marks_not hm)
  rintro a s1 ⟨ad1, σ1, va, n1, r1, h1⟩
  refine wpAny_mono (h1.run ad1 s1 n1.hr (er.next n1)) ?_ fun _ _ x => x
  rintro b s2 ⟨ad2, σ2, vb, n2, r2, h2⟩
  exact wpAny_mono (h2.run ad2 s2 a b n2.hr (n2.rv r1) r2) (fun u s' p => PE.trans (n1.trans n2) p) fun _ _ x => x
theorem WB_Compare1 {l r : Expr} {op : CmpOp} {pos : Pos} {Q : Bool → AH → Prop}
    (h : WE C A env l ρ σ (fun a σ1 => WE C A env r ρ σ1 (fun b σ2 => WOp2 C A (compareOp op) a b σ2 (fun c σ3 => WTr C A c σ3 Q E) E) E) E)
    (hm : isSetE r = false := by rfl) : WB C A env (.Compare l [op] [r] pos) ρ σ Q E := by
  refine ⟨?_⟩
  intro ad s hr er
  refine wpAny_isTrue_Compare1 (wpAny_mono (h.run ad s hr er) ?_ fun _ _ x => x) (marks_not hm)
  rintro a s1 ⟨ad1, σ1, va, n1, r1, h1⟩
  refine wpAny_mono (h1.run ad1 s1 n1.hr (er.next n1)) ?_ fun _ _ x => x
  rintro b s2 ⟨ad2, σ2, vb, n2, r2, h2⟩
  refine wpAny_mono (h2.run ad2 s2 a b n2.hr (n2.rv r1) r2) ?_ fun _ _ x => x
  rintro c s3 ⟨ad3, σ3, vc, n3, r3, h3⟩
  exact wpAny_mono (h3.run ad3 s3 c n3.hr r3) (fun u s' p => PB.trans ((n1.trans n2).trans n3) p) fun _ _ x => x
theorem WTr_bool {b : Bool} {Q : Bool → AH → Prop} (h : Q b σ) : WTr C A (.bool b) σ Q E := by
  refine ⟨?_⟩
  rintro ad s x hr rfl
  exact wpAny_truthy_bool ⟨ad, σ, Nx.refl hr, h⟩
theorem WB_and_nil {pos : Pos} {Q : Bool → AH → Prop} (h : Q true σ) : WB C A env (.BoolOp .And [] pos) ρ σ Q E := .mk fun ad _ hr _ => isTrue_and_nil ⟨ad, σ, Nx.refl hr, h⟩
theorem WB_or_nil {pos : Pos} {Q : Bool → AH → Prop} (h : Q false σ) : WB C A env (.BoolOp .Or [] pos) ρ σ Q E := .mk fun ad _ hr _ => isTrue_or_nil ⟨ad, σ, Nx.refl hr, h⟩
theorem isTrue_BoolOp_whole {op : BoolOp} {vs : List Expr} {pos : Pos} (x y : Sem Value) : isTrue (.BoolOp op vs pos) env x = isTrue (.BoolOp op vs pos) env y := rfl
theorem WB_or {x : Expr} {rest : List Expr} {pos : Pos} {Q : Bool → AH → Prop} (h : WB C A env x ρ σ (fun b σ1 => if b then Q true σ1 else WB C A env (.BoolOp .Or rest pos) ρ σ1 Q E) E) :
    WB C A env (.BoolOp .Or (x :: rest) pos) ρ σ Q E := by
  refine ⟨?_⟩
  intro ad s hr er
  refine isTrue_or (wpAny_mono (h.run ad s hr er) ?_ fun _ _ x => x)
  rintro b s1 ⟨ad1, σ1, n1, h1⟩
  cases b with
  | true => exact ⟨ad1, σ1, n1, h1⟩
  | false => rw [isTrue_BoolOp_whole _ (eval (.BoolOp .Or rest pos) env)]; exact wpAny_mono (h1.run ad1 s1 n1.hr (er.next n1)) (fun u s' p => PB.trans n1 p) fun _ _ x => x
theorem WE_IfExp {test body orelse : Expr} {pos : Pos} {Q : V → AH → Prop} (h : WB C A env test ρ σ (fun b σ1 => if b then WE C A env body ρ σ1 Q E else WE C A env orelse ρ σ1 Q E) E) :
    WE C A env (.IfExp test body orelse pos) ρ σ Q E := by
  refine ⟨?_⟩
  intro ad s hr er
  refine wpAny_IfExp (wpAny_mono (h.run ad s hr er) ?_ fun _ _ x => x)
  rintro b s1 ⟨ad1, σ1, n1, h1⟩
  cases b with
  | true => exact wpAny_mono (h1.run ad1 s1 n1.hr (er.next n1)) (fun u s' p => PE.trans n1 p) fun _ _ x => x
  | false => exact wpAny_mono (h1.run ad1 s1 n1.hr (er.next n1)) (fun u s' p => PE.trans n1 p) fun _ _ x => x
/- lists of expressions -/
theorem WL_nil {Q : List V → AH → Prop} (h : Q [] σ) : WL C A env [] ρ σ Q E := .mk fun ad _ _ hr _ => Calls.spliced_nil ⟨ad, σ, [], Nx.refl hr, .nil, h⟩
theorem WL_cons {e : Expr} {es : List Expr} {Q : List V → AH → Prop} (h : WE C A env e ρ σ (fun v σ1 => WL C A env es ρ σ1 (fun vs σ2 => Q (v :: vs) σ2) E) E)
    (he : starE e = false := by rfl) : WL C A env (e :: es) ρ σ Q E := by
  refine ⟨?_⟩
  intro ad s pos hr er
  rw [star_not he]
  refine Calls.spliced_cons (wpAny_mono (h.run ad s hr er) ?_ fun _ _ x => x)
  rintro a s1 ⟨ad1, σ1, va, n1, r1, h1⟩
  refine wpAny_mono (h1.run ad1 s1 pos n1.hr (er.next n1)) ?_ fun _ _ x => x
  rintro b s2 ⟨ad2, σ2, vb, n2, r2, h2⟩
  exact ⟨ad2, σ2, va :: vb, n1.trans n2, .cons (n2.rv r1) r2, h2⟩

/- names -/
theorem WE_name {x : Str} {pos : Pos} {v : V} {Q : V → AH → Prop} (hx : (x, some v) ∈ ρ) (h : Q v σ) :
    WE C A env (.Name x pos) ρ σ Q E := by
  refine ⟨?_⟩
  intro ad s hr er
  have hn := nmOk_c (er.nm x _ hx)
  refine wpAny_Name ?_ (nmOk_d (er.nm x _ hx))
  rcases er.kd x _ hx with hk | ⟨hk, hc⟩
  · obtain ⟨m, hm, h1⟩ := er.m
    obtain ⟨u, hu, rv⟩ := h1 x v hx hk
    exact wpAny_loadName_local er.kind hk hm hu ⟨ad, σ, v, Nx.refl hr, rv, h⟩
  · obtain ⟨c, hc⟩ := Option.isSome_iff_exists.mp hc
    obtain ⟨o, w, ho, hw, hv⟩ := er.cell x c hc
    obtain ⟨u, e, rv⟩ := hv v hx (by rcases hk with hk | hk <;> rw [hk] <;> simp)
    subst e
    rcases hk with hk | hk
    · exact wpAny_loadName_cell er.kind hk hc ⟨o, ho, hw⟩ ⟨ad, σ, v, Nx.refl hr, rv, h⟩
    · exact wpAny_loadName_free er.kind hk hc ⟨o, ho, hw⟩ ⟨ad, σ, v, Nx.refl hr, rv, h⟩ hn
theorem WE_glob {C : Cx} {l : List (Str × Value)} {x : Str} {pos : Pos} {v : Value} {Q : V → AH → Prop} (hx : (x, v) ∈ l) (h : Q (.k v) σ) :
    WE (C.wg l) A env (.Name x pos) ρ σ Q E := by
  refine ⟨?_⟩
  intro ad s hr er
  obtain ⟨hk, hn⟩ := er.gk x v hx
  refine Calls.Name_function_global er.kind hk ?_ (nmOk_d hn)
  have fin : PE (C.wg l) ad s Q v s := ⟨ad, σ, .k v, Nx.refl hr, rfl, h⟩
  rcases hr.ok.glo x v hx with e | ⟨e1, e2⟩
  · exact Calls.loadGlobal_global (by rw [er.glob]; exact hr.ok.g.keeps hr.keep) e fin
  · exact Calls.loadGlobal_builtin (by rw [er.glob]; exact hr.ok.g.keeps hr.keep) e1 (by rw [er.blt]; exact hr.ok.b.keeps hr.keep) e2 fin

/- statements -/
theorem PS.ofE {ad : List Addr} {s s1 : Shared} {ad1 : List Addr} {σ1 : AH} {Q : Fl → Loc → AH → Prop} {fl : Fl} {f : Flow} (er : ER C env ρ ad s.heap) (n : Nx C [] ad s ad1 σ1 s1) (hf : RF ad1 fl f) (h : Q fl ρ σ1) : PS C env ad s Q f s1 :=
  ⟨ad1, σ1, ρ, fl, n.weak, er.next n, hf, h⟩
theorem WSs_nil {Q : Fl → Loc → AH → Prop} (h : Q .next ρ σ) : WSs C A env [] ρ σ Q E := .mk fun ad s hr er => wpAny_execs_nil ⟨ad, σ, ρ, .next, Nx.refl hr, er, rfl, h⟩
structure Thn (C : Cx) (A : Around) (env : Env) (rest : List Stmt) (Q : Fl → Loc → AH → Prop) (E : EX) (fl : Fl) (ρ : Loc) (σ : AH) : Prop where
  run : match fl with
    | .next => WSs C A env rest ρ σ Q E
    | f => Q f ρ σ
theorem Thn_next {rest : List Stmt} {Q : Fl → Loc → AH → Prop} (h : WSs C A env rest ρ σ Q E) : Thn C A env rest Q E .next ρ σ := ⟨h⟩
theorem Thn_ret {rest : List Stmt} {Q : Fl → Loc → AH → Prop} {v : V} (h : Q (.ret v) ρ σ) : Thn C A env rest Q E (.ret v) ρ σ := ⟨h⟩
theorem Thn_brk {rest : List Stmt} {Q : Fl → Loc → AH → Prop} (h : Q .brk ρ σ) : Thn C A env rest Q E .brk ρ σ := ⟨h⟩
theorem Thn_cont {rest : List Stmt} {Q : Fl → Loc → AH → Prop} (h : Q .cont ρ σ) : Thn C A env rest Q E .cont ρ σ := ⟨h⟩
theorem WSs_cons {st : Stmt} {rest : List Stmt} {Q : Fl → Loc → AH → Prop} (h : WS C A env st ρ σ (Thn C A env rest Q E) E) : WSs C A env (st :: rest) ρ σ Q E := by
  refine ⟨?_⟩
  intro ad s hr er
  refine wpAny_execs_cons (wpAny_mono (h.run ad s hr er) ?_ fun _ _ x => x)
  rintro f s1 ⟨ad1, σ1, ρ1, fl, n1, e1, r1, ⟨h1⟩⟩
  cases fl with
  | next => cases r1; exact wpAny_mono (h1.run ad1 s1 n1.hr e1) (fun u s' p => PS.trans n1 p) fun _ _ x => x
  | brk => cases r1; exact ⟨ad1, σ1, ρ1, .brk, n1, e1, rfl, h1⟩
  | cont => cases r1; exact ⟨ad1, σ1, ρ1, .cont, n1, e1, rfl, h1⟩
  | ret v => obtain ⟨u, rfl, ru⟩ := r1; exact ⟨ad1, σ1, ρ1, .ret v, n1, e1, ⟨u, rfl, ru⟩, h1⟩
theorem WS_pass {pos : Pos} {Q : Fl → Loc → AH → Prop} (h : Q .next ρ σ) : WS C A env (.Pass pos) ρ σ Q E := .mk fun ad s hr er => wpAny_Pass ⟨ad, σ, ρ, .next, Nx.refl hr, er, rfl, h⟩
theorem WS_return {e : Expr} {pos : Pos} {Q : Fl → Loc → AH → Prop} (h : WE C A env e ρ σ (fun v σ1 => Q (.ret v) ρ σ1) E) : WS C A env (.Return (some e) pos) ρ σ Q E := by
  refine ⟨?_⟩
  intro ad s hr er
  refine wpAny_Return_some (wpAny_mono (h.run ad s hr er) ?_ fun _ _ x => x)
  rintro a s1 ⟨ad1, σ1, va, n1, r1, h1⟩
  exact PS.ofE er n1 (fl := .ret va) ⟨a, rfl, r1⟩ h1
theorem WS_if {test : Expr} {body orelse : List Stmt} {pos : Pos} {Q : Fl → Loc → AH → Prop} (h : WB C A env test ρ σ (fun b σ1 => if b then WSs C A env body ρ σ1 Q E else WSs C A env orelse ρ σ1 Q E) E) : WS C A env (.If test body orelse pos) ρ σ Q E := by
  refine ⟨?_⟩
  intro ad s hr er
  refine wpAny_If (wpAny_mono (h.run ad s hr er) ?_ fun _ _ x => x)
  rintro b s1 ⟨ad1, σ1, n1, h1⟩
  cases b with
  | true => exact wpAny_mono (h1.run ad1 s1 n1.hr (er.next n1)) (fun u s' p => PS.trans n1.weak p) fun _ _ x => x
  | false => exact wpAny_mono (h1.run ad1 s1 n1.hr (er.next n1)) (fun u s' p => PS.trans n1.weak p) fun _ _ x => x

inductive Up (x : Str) (v : Option V) : Loc → Loc → Prop
  | head {w : Option V} {r : Loc} : Up x v ((x, w) :: r) ((x, v) :: r)
  | tail {p : Str × Option V} {r r' : Loc} : Up x v r r' → Up x v (p :: r) (p :: r')
theorem Up.names {x : Str} {v : Option V} {r r' : Loc} (h : Up x v r r') : r'.map (·.1) = r.map (·.1) := by
  induction h with
  | head => rfl
  | tail _ ih => simp [ih]
theorem Up.mem {x : Str} {v : Option V} {r r' : Loc} (h : Up x v r r') : ∃ w, (x, w) ∈ r := by
  induction h with
  | head => exact ⟨_, .head _⟩
  | tail _ ih => obtain ⟨w, h⟩ := ih; exact ⟨w, .tail _ h⟩
theorem Up.new {x : Str} {v : Option V} {r r' : Loc} (h : Up x v r r') (nd : (r.map (·.1)).Nodup) : ∀ y w, (y, w) ∈ r' → (y = x ∧ w = v) ∨ (y ≠ x ∧ (y, w) ∈ r) := by
  induction h with
  | @head w0 r =>
    intro y w hm
    rcases List.mem_cons.mp hm with e | hm2
    · cases e; exact .inl ⟨rfl, rfl⟩
    · refine .inr ⟨?_, List.mem_cons_of_mem _ hm2⟩
      intro e
      subst e
      simp only [List.map_cons, List.nodup_cons] at nd
      exact nd.1 (List.mem_map.mpr ⟨(y, w), hm2, rfl⟩)
  | @tail p r r' u ih =>
    intro y w hm
    simp only [List.map_cons, List.nodup_cons] at nd
    rcases List.mem_cons.mp hm with e | hm
    · cases e
      refine .inr ⟨?_, .head _⟩
      rintro rfl
      obtain ⟨w', h'⟩ := u.mem
      exact nd.1 (List.mem_map.mpr ⟨_, h', rfl⟩)
    · rcases ih nd.2 y w hm with h1 | h1
      · exact .inl h1
      · exact .inr ⟨h1.1, .tail _ h1.2⟩

theorem exUp {x : Str} {v : Option V} {ρ ρ' : Loc} {P : Loc → Prop} (h : Up x v ρ ρ') (k : P ρ') : ∃ ρ', Up x v ρ ρ' ∧ P ρ' := ⟨_, h, k⟩
/-- a store of a name -/
theorem store_name {x : Str} {v : V} {ρ' : Loc} {u : Value} {ad : List Addr} {s : Shared} {R : Unit → Shared → Prop} (hr : HR C ad σ s.heap) (er : ER C env ρ ad s.heap) (up : Up x (some v) ρ ρ') (rv : RV ad v u)
    (h : ∀ s', Nx C (fa env) ad s ad σ s' → ER C env ρ' ad s'.heap → R () s') : wpAny (model C.prog C.w) A (storeName env x u) R E s := by
  obtain ⟨w0, hw0⟩ := up.mem
  have hoff : ∀ b ∈ fa env, b ∉ ad ∧ C.G.get? b = none := fun b hb => ⟨(er.off b hb).2, (er.off b hb).1⟩
  have fin : ∀ a h' tk, a ∈ fa env → Heap.SameBut a s.heap h' → HR C ad σ h' ∧ (Nx C (fa env) ad s ad σ { s with heap := h', toks := tk }) := by
    intro a h' tk ha hs
    have hr' : HR C ad σ h' := by
      refine ⟨hr.ok, fun b o e => (hs.2 b ?_).trans (hr.keep b o e), hr.len, hr.nd, hr.off, hr.low, fun i o b h1 h2 => ?_⟩
      · rintro rfl; rw [(hoff b ha).2] at e; cases e
      · obtain ⟨ob, h3, h4⟩ := hr.obj i o b h1 h2
        refine ⟨ob, (hs.2 b ?_).trans h3, h4⟩
        rintro rfl; exact (hoff b ha).1 (List.mem_of_getElem? h2)
    refine ⟨hr', ⟨h', tk, rfl⟩, ⟨[], by simp, by simp⟩, Nat.le_of_eq hs.1.symm, fun b o e _ hc => ?_, hr'⟩
    exact (hs.2 b (fun e' => hc (e' ▸ ha))).trans e
  rcases er.kd x _ hw0 with hk | ⟨hk, hc⟩
  · obtain ⟨m, hm, h1⟩ := er.m
    refine wpAny_storeName_local hk hm (fun h' hn hs => ?_) (by rw [er.kind]; rfl)
    obtain ⟨hr', nx⟩ := fin env.locals h' (s.toks + 1) (by simp [fa]) hs
    refine h _ nx ⟨er.kind, er.glob, er.blt, by rw [up.names]; exact er.nd, fun y w hy => ?_, ⟨_, hn, fun y w hy hyk => ?_⟩, fun y c hc => ?_, er.cinj, er.cl, er.off, fun b hb => by rw [hs.1]; exact er.lt b hb, fun y w hy => ?_, er.gk⟩
    · rcases up.new er.nd y w hy with ⟨rfl, rfl⟩ | ⟨_, hy⟩
      · exact er.kd y _ hw0
      · exact er.kd y w hy
    · rcases up.new er.nd y _ hy with ⟨rfl, e⟩ | ⟨hne, hy⟩
      · cases e; exact ⟨u, by simp, rv⟩
      · simp only [if_neg hne]; exact h1 y w hy hyk
    · obtain ⟨o, w, ho, hw, hv⟩ := er.cell y c hc
      refine ⟨o, w, (hs.2 c (er.cl y c hc)).trans ho, hw, fun v' hv' hk' => ?_⟩
      rcases up.new er.nd y _ hv' with ⟨rfl, e⟩ | ⟨hne, hy⟩
      · exact absurd hk hk'
      · exact hv v' hy hk'
    · rcases up.new er.nd y w hy with ⟨rfl, rfl⟩ | ⟨_, hy⟩
      · exact er.nm y _ hw0
      · exact er.nm y w hy
  · obtain ⟨c, hc⟩ := Option.isSome_iff_exists.mp hc
    obtain ⟨o, w, ho, hw, hv⟩ := er.cell x c hc
    have step : ∀ h', (∃ o', h'.get? c = some o' ∧ o'.data = .cell (some u)) → Heap.SameBut c s.heap h' → R () { s with heap := h' } := by
      rintro h' ⟨o', ho', hd'⟩ hs
      obtain ⟨hr', nx⟩ := fin c h' s.toks (mem_cells hc) hs
      refine h _ nx ⟨er.kind, er.glob, er.blt, by rw [up.names]; exact er.nd, fun y w hy => ?_, ?_, fun y d hd => ?_, er.cinj, er.cl, er.off, fun b hb => by rw [hs.1]; exact er.lt b hb, fun y w hy => ?_, er.gk⟩
      · rcases up.new er.nd y w hy with ⟨rfl, rfl⟩ | ⟨_, hy⟩
        · exact er.kd y _ hw0
        · exact er.kd y w hy
      · obtain ⟨m, hm, h1⟩ := er.m
        refine ⟨m, hm.sameBut hs (Ne.symm (er.cl x c hc)), fun y w hy hyk => ?_⟩
        rcases up.new er.nd y _ hy with ⟨rfl, e⟩ | ⟨hne, hy⟩
        · rcases hk with hk | hk <;> rw [hyk] at hk <;> cases hk
        · exact h1 y w hy hyk
      · by_cases hyx : y = x
        · subst hyx
          rw [hc] at hd; cases hd
          refine ⟨o', _, ho', hd', fun v' hv' _ => ?_⟩
          rcases up.new er.nd y _ hv' with ⟨_, e⟩ | ⟨hne, _⟩
          · cases e; exact ⟨u, rfl, rv⟩
          · exact absurd rfl hne
        · have hdc : d ≠ c := by rintro rfl; exact hyx (er.cinj y x d hd hc)
          obtain ⟨oy, wy, hoy, hwy, hvy⟩ := er.cell y d hd
          refine ⟨oy, wy, (hs.2 d hdc).trans hoy, hwy, fun v' hv' hk' => ?_⟩
          rcases up.new er.nd y _ hv' with ⟨rfl, _⟩ | ⟨_, hy⟩
          · exact absurd rfl hyx
          · exact hvy v' hy hk'
      · rcases up.new er.nd y w hy with ⟨rfl, rfl⟩ | ⟨_, hy⟩
        · exact er.nm y _ hw0
        · exact er.nm y w hy
    rcases hk with hk | hk
    · exact wpAny_storeName_cell er.kind hk hc ⟨o, ho, hw⟩ fun h' hv' hs => step h' hv' hs
    · unfold storeName
      simp only [hk, er.kind]
      exact wpAny_bind (wpAny_cellOf hc (wpAny_cellSet ⟨o, ho, hw⟩ fun h' hv' hs => step h' hv' hs))
theorem WS_assign {x : Str} {p pos : Pos} {e : Expr} {Q : Fl → Loc → AH → Prop} (h : WE C A env e ρ σ (fun v σ1 => ∃ ρ', Up x (some v) ρ ρ' ∧ Q .next ρ' σ1) E)
    (hs : isCompE e = false := by rfl) : WS C A env (.Assign [.Name x p] e pos) ρ σ Q E := by
  refine ⟨?_⟩
  intro ad s hr er
  refine wpAny_Assign_Name (wpAny_mono (h.run ad s hr er) ?_ fun _ _ x => x) (swaps_not hs)
  rintro a s1 ⟨ad1, σ1, va, n1, r1, ρ', up, h1⟩
  exact store_name n1.hr (er.next n1) up r1 fun s' n2 e2 => ⟨ad1, σ1, ρ', .next, n1.weak.trans n2, e2, rfl, h1⟩
end
end Mine

-- part Aw3
set_option autoImplicit false
set_option linter.unusedVariables false
namespace Mine
open PySem PyProof.Rows

abbrev mkFd (name qual : Str) (params : Arguments) (body : List Stmt) (scope : Scope) (dV kV doc pm : Value) (an : Option Addr) (cdv ct : Value) : FuncData :=
  { name, qualname := qual, params, body := .stmts body, scope, globals := mainGlobals, closure := [], defaults := dV, kwdefaults := kV, doc, pyModule := pm, annotations := an, code := cdv, closureTuple := ct, builtins := builtinsNs }

/-- the frame of a def's call -/
def dEnv (qual : Str) (scope : Scope) (L a : Addr) (cd : Value) : Env :=
  { scope := scope, locals := L, globals := mainGlobals, cells := cellsFrom (L + 1) scope.names [], qual := qual ++ ".<locals>.", func := some a, code := cd, frame := some L, builtins := builtinsNs }

section
variable {kindOf : Str → Option NameKind}
theorem bindL_not {x : Str} : ∀ (binds : List (Str × Value)) (m : Str → Option Value), x ∉ binds.map (·.1) → bindL kindOf binds m x = m x
  | [], _, _ => rfl
  | (n, v) :: r, m, h => by
    simp only [List.map_cons, List.mem_cons, not_or] at h
    unfold bindL
    rw [bindL_not r _ h.2]
    split
    · simp [h.1]
    · rfl
theorem bindL_mem {x : Str} {u : Value} (hk : kindOf x = some .local) : ∀ (binds : List (Str × Value)) (m : Str → Option Value), (binds.map (·.1)).Nodup → (x, u) ∈ binds → bindL kindOf binds m x = some u
  | [], _, _, h => by cases h
  | (n, v) :: r, m, nd, h => by
    simp only [List.map_cons, List.nodup_cons] at nd
    unfold bindL
    rcases List.mem_cons.mp h with e | h
    · cases e
      rw [bindL_not r _ nd.1]
      simp [hk]
    · exact bindL_mem hk r _ nd.2 h
theorem bindC_not {x : Str} : ∀ (binds : List (Str × Value)) (m : Str → Option Value), x ∉ binds.map (·.1) → bindC kindOf binds m x = m x
  | [], _, _ => rfl
  | (n, v) :: r, m, h => by
    simp only [List.map_cons, List.mem_cons, not_or] at h
    unfold bindC
    rw [bindC_not r _ h.2]
    split
    · rfl
    · simp [h.1]
theorem bindC_mem {x : Str} {u : Value} (hk : kindOf x ≠ some .local) : ∀ (binds : List (Str × Value)) (m : Str → Option Value), (binds.map (·.1)).Nodup → (x, u) ∈ binds → bindC kindOf binds m x = some u
  | [], _, _, h => by cases h
  | (n, v) :: r, m, nd, h => by
    simp only [List.map_cons, List.nodup_cons] at nd
    unfold bindC
    rcases List.mem_cons.mp h with e | h
    · cases e
      rw [bindC_not r _ nd.1]
      simp [hk]
    · exact bindC_mem hk r _ nd.2 h
end

theorem lookup_mem {α β : Type} [BEq α] [LawfulBEq α] {x : α} {c : β} : ∀ {l : List (α × β)}, l.lookup x = some c → (x, c) ∈ l
  | [], h => by simp at h
  | (y, d) :: r, h => by
    simp only [List.lookup_cons] at h
    split at h
    · rename_i e; have := eq_of_beq e; subst this; cases h; exact .head _
    · exact .tail _ (lookup_mem h)
theorem mem_lookup {α β : Type} [BEq α] [LawfulBEq α] {x : α} {c : β} : ∀ {l : List (α × β)}, (l.map (·.1)).Nodup → (x, c) ∈ l → l.lookup x = some c
  | [], _, h => by cases h
  | (y, d) :: r, nd, h => by
    simp only [List.map_cons, List.nodup_cons] at nd
    rcases List.mem_cons.mp h with e | h'
    · cases e; simp
    · have hne : (x == y) = false := by
        cases hb : x == y with
        | false => rfl
        | true => have e := eq_of_beq hb; rw [← e] at nd; exact absurd (List.mem_map.mpr ⟨_, h', rfl⟩) nd.1
      simp only [List.lookup_cons, hne]
      exact mem_lookup nd.2 h'
theorem lookup_isSome {α β : Type} [BEq α] [LawfulBEq α] {x : α} : ∀ {l : List (α × β)}, (l.lookup x).isSome = true ↔ x ∈ l.map (·.1)
  | [] => by simp
  | (y, d) :: r => by
    simp only [List.lookup_cons, List.map_cons, List.mem_cons]
    cases hb : x == y with
    | true => have := eq_of_beq hb; simp [this]
    | false =>
      have hne : x ≠ y := by intro e; subst e; simp at hb
      simp only [hne, false_or]
      exact lookup_isSome
theorem apart_inj {l : List (Str × Addr)} (h : l.Pairwise fun x y => x.2 ≠ y.2) : ∀ {x y : Str} {c : Addr}, (x, c) ∈ l → (y, c) ∈ l → x = y := by
  induction h with
  | nil => intro x y c h; cases h
  | cons h1 _ ih =>
    intro x y c h2 h3
    rcases List.mem_cons.mp h2 with e | h4 <;> rcases List.mem_cons.mp h3 with e' | h5
    · rw [← e] at e'; cases e'; rfl
    · subst e; exact absurd rfl (h1 (y, c) h5)
    · subst e'; exact absurd rfl (h1 (x, c) h4)
    · exact ih h4 h5

theorem HR.lt {C : Cx} {ad : List Addr} {σ : AH} {h : Heap} (hr : HR C ad σ h) {a : Addr} (ha : a ∈ ad) : a < h.objs.size := by
  obtain ⟨i, hi⟩ := List.getElem?_of_mem ha
  have hi' := (List.getElem?_eq_some_iff.mp hi).1
  have : i < σ.length := by rw [← hr.len]; exact hi'
  obtain ⟨ob, h1, _⟩ := hr.obj i σ[i] a (by simp [this]) hi
  exact Heap.lt_size h1
theorem HR.fresh {C : Cx} {ad : List Addr} {σ : AH} {h : Heap} (hr : HR C ad σ h) {a : Addr} (ha : h.objs.size ≤ a) : C.G.get? a = none ∧ a ∉ ad := by
  constructor
  · cases e : C.G.get? a with
    | none => rfl
    | some o => exact absurd (Heap.lt_size (hr.keep a o e)) (Nat.not_lt.mpr ha)
  · intro hm; exact absurd (hr.lt hm) (Nat.not_lt.mpr ha)
theorem HR.freshLow {C : Cx} {ad : List Addr} {σ : AH} {h : Heap} (hr : HR C ad σ h) {a : Addr} (ha : h.objs.size ≤ a) : a ≠ sysModules := by
  have hl : sysModules < h.objs.size := let ⟨_, hn, _⟩ := hr.ok.lim.keeps hr.keep; Nat.lt_trans (by decide) hn.lt
  rintro rfl
  exact absurd hl (Nat.not_lt.mpr ha)
theorem HR.keeps {C : Cx} {ad : List Addr} {σ : AH} {h h' : Heap} (hr : HR C ad σ h) (k : ∀ b o, h.get? b = some o → h'.get? b = some o) : HR C ad σ h' :=
  ⟨hr.ok, fun b o e => k b o (hr.keep b o e), hr.len, hr.nd, hr.off, hr.low, fun i o a h1 h2 => let ⟨ob, h3, h4⟩ := hr.obj i o a h1 h2; ⟨ob, k _ _ h3, h4⟩⟩

def retV : Fl → V
  | .ret v => v
  | _ => .none

/-- the raise of a def's body, led through its frame's end -/
def EL (C : Cx) (A : Around) (env : Env) (E : EX) : EX := fun e s' => wpAny (model C.prog C.w) (A.deeper env) (leaving env e) (fun _ s'' => E e s'') E s'

theorem zip_mem {pn : List Str} {vs : List V} {xs : List Value} {ad : List Addr} (rv : RVs ad vs xs) : ∀ {x : Str} {v : V}, (x, some v) ∈ pn.zip (vs.map some) → ∃ u, (x, u) ∈ pn.zip xs ∧ RV ad v u := by
  induction rv generalizing pn with
  | nil => intro x v h; simp at h
  | cons r _ ih =>
    intro x v h
    cases pn with
    | nil => simp at h
    | cons p pn =>
      simp only [List.map_cons, List.zip_cons_cons, List.mem_cons] at h
      rcases h with e | h
      · cases e; exact ⟨_, .head _, r⟩
      · obtain ⟨u, h1, h2⟩ := ih h; exact ⟨u, .tail _ h1, h2⟩
theorem zip_names {pn : List Str} {β : Type} {xs : List β} (h : pn.length = xs.length) : (pn.zip xs).map (·.1) = pn := by
  induction pn generalizing xs with
  | nil => simp
  | cons p pn ih => cases xs with
    | nil => simp at h
    | cons x xs => simp only [List.length_cons, Nat.add_right_cancel_iff] at h; simp [ih h]

section
variable {C : Cx} {A : Around} {σ : AH} {E : EX}
theorem HR.wg {l : List (Str × Value)} {ad : List Addr} {h : Heap} (hr : HR C ad σ h) (hl : ∀ x v, (x, v) ∈ l → C.mg x = some v ∨ (C.mg x = none ∧ C.mb x = some v)) : HR (C.wg l) ad σ h :=
  ⟨⟨hr.ok.gob, hr.ok.g, hr.ok.b, hl, hr.ok.lim⟩, hr.keep, hr.len, hr.nd, hr.off, hr.low, hr.obj⟩
theorem HR.gw {l : List (Str × Value)} {ad : List Addr} {h : Heap} (hr : HR (C.wg l) ad σ h) (ok : C.Ok) : HR C ad σ h := ⟨ok, hr.keep, hr.len, hr.nd, hr.off, hr.low, hr.obj⟩
/-- what is known of an env's names -/
def Kn (env : Env) (ns : List (Str × NameKind)) : Prop := ∀ x k, ns.lookup x = some k → env.kindOf x = some k
structure WCc (C : Cx) (A : Around) (f : Value) (vs : List V) (σ : AH) (Q : V → AH → Prop) (E : EX) : Prop where
  run : ∀ ad s xs, HR C ad σ s.heap → RVs ad vs xs → codeAny (model C.prog C.w) A (.call f ⟨xs, []⟩) (fun r s' => match r with | .ok (.ret v) => PE C ad s Q v s' | .ok _ => False | .error e => E e s') s
theorem WCc.toWC {f : Value} {vs : List V} {Q : V → AH → Prop} (h : WCc C A f vs σ Q E) : WC C A f vs σ Q E := ⟨fun ad s xs hr rv => wpAny_call (h.run ad s xs hr rv)⟩
theorem WCc_def {f : Addr} {o : Obj} {name qual : Str} {params : Arguments} {body : List Stmt} {scope : Scope} {dV kV doc pm cdv ct : Value} {an : Option Addr} {pn ln : List Str} {gl : List (Str × Value)} {vs dv : List V} {ds : List Value} {Q : V → AH → Prop}
    (ho : C.G.get? f = some o) (hd : o.data = .func (mkFd name qual params body scope dV kV doc pm an cdv ct)) (hcd : C.G.CodeRec cdv qual) (hroom : A.depth < recursionLimit)
    (hds : RVs [] dv ds) (hlen : pn.length = vs.length + dv.length) (hgl : ∀ x v, (x, v) ∈ gl → C.mg x = some v ∨ (C.mg x = none ∧ C.mb x = some v))
    (hbind : ∀ (s : Shared) (xs : List Value), (∀ b o, C.G.get? b = some o → s.heap.get? b = some o) → xs.length = vs.length → BindsTo s (mkFd name qual params body scope dV kV doc pm an cdv ct) ⟨xs, []⟩ (pn.zip (xs ++ ds)))
    (hnd : (pn ++ ln).Nodup) (hcn : ((cellsFrom 0 scope.names []).map (·.1)).Nodup)
    (hkd : ((pn ++ ln).all fun x => nmOk x && (scope.names.lookup x == some .local || (scope.names.lookup x == some .cell && ((cellsFrom 0 scope.names []).lookup x).isSome))) = true)
    (hgk : (gl.all fun p => nmOk p.1 && scope.names.lookup p.1 == some .globalImplicit) = true)
    (h : ∀ env, Kn env scope.names → WSs (C.wg gl) (A.deeper env) env body (pn.zip ((vs ++ dv).map some) ++ ln.map fun x => (x, none)) σ (fun fl _ σ' => Q (retV fl) σ') (EL C A env E))
    (hco : scope.isCoroutine = false := by rfl) (hgen : scope.isGenerator = false := by rfl) (hk : scope.kind = .function := by rfl) : WCc C A (.ref f) vs σ Q E := by
  refine ⟨?_⟩
  intro ad s xs hr rv
  have hxl : xs.length = vs.length := rv.length.symm
  refine (codeAny_call_function (body := body) hroom (hr.keep f o ho) hd hco hgen rfl (hcd.keeps hr.keep) (hbind s xs hr.keep hxl _ _ _ _ ?_))
  have hbn : ((pn.zip (xs ++ ds)).map (·.1)) = pn := zip_names (by rw [List.length_append, hxl, hlen, hds.length])
  have rvall : RVs ad (vs ++ dv) (xs ++ ds) := by
    have h0 : RVs ad dv ds := by have := hds.mono (nw := ad); simpa using this
    clear hbind h hlen hxl hbn
    induction rv with
    | nil => exact h0
    | cons a _ ih => exact .cons a ih
  have hpn : pn.Nodup := (List.nodup_append.mp hnd).1
  have hkd0 : ∀ x ∈ pn ++ ln, nmOk x = true ∧ (scope.names.lookup x = some .local ∨ (scope.names.lookup x = some .cell ∧ ((cellsFrom 0 scope.names []).lookup x).isSome = true)) := by
    intro x hx
    have := List.all_eq_true.mp hkd x hx
    simpa using this
  have hkd' := fun x hx => (hkd0 x hx).2
  have hcl : ∀ x n, ((cellsFrom 0 scope.names []).lookup x).isSome = true → ((cellsFrom n scope.names []).lookup x).isSome = true := by
    intro x n hx
    rw [lookup_isSome] at hx ⊢
    rw [cellsFrom_names scope.names n 0 [] [] rfl]; exact hx
  refine wpAny_newFunctionEnv_cells hk (fun y hy => ?_) fun env he s1 x => ?_
  · have : y.1 ∈ pn := by rw [← hbn]; exact List.mem_map.mpr ⟨y, hy, rfl⟩
    rcases hkd' y.1 (List.mem_append_left _ this) with e | ⟨e, e'⟩
    · exact .inl e
    · exact .inr ⟨e, hcl _ _ e'⟩
  obtain rfl : env = dEnv qual scope s.heap.objs.size f cdv := he
  have keep := x.toInCall.keep
  obtain ⟨h1, tk, e1⟩ := x.toInCall.same
  have hr1 : HR (C.wg gl) ad σ s1.heap := (hr.keeps keep).wg hgl
  have hsz : s.heap.objs.size ≤ s1.heap.objs.size := Nat.le_of_lt x.toInCall.ns.lt
  have hcn' : ((cellsFrom (s.heap.objs.size + 1) scope.names []).map (·.1)).Nodup := by
    rw [cellsFrom_names scope.names _ 0 [] [] rfl]; exact hcn
  have hfa : ∀ a ∈ fa (dEnv qual scope s.heap.objs.size f cdv), s.heap.objs.size ≤ a := by
    intro a ha
    rcases List.mem_cons.mp ha with e | ha
    · subst e; exact Nat.le_refl _
    · obtain ⟨⟨n, c⟩, hp, rfl⟩ := List.mem_map.mp ha
      exact Nat.le_of_lt (x.above n c hp)
  have er1 : ER (C.wg gl) (dEnv qual scope s.heap.objs.size f cdv) (pn.zip ((vs ++ dv).map some) ++ ln.map fun x => (x, none)) ad s1.heap := by
    have hzn : (pn.zip ((vs ++ dv).map some)).map (·.1) = pn := zip_names (by rw [List.length_map, List.length_append, hlen])
    refine ⟨hk, rfl, rfl, ?_, ?_, ⟨_, x.toInCall.ns, ?_⟩, ?_, ?_, ?_, ?_, ?_, ?_, ?_⟩
    · rw [List.map_append, hzn, List.map_map]
      have : (ln.map ((fun p : Str × Option V => p.1) ∘ fun x => (x, none))) = ln := List.map_id _
      rw [this]; exact hnd
    · intro y v hy
      have hm : y ∈ pn ++ ln := by
        rcases List.mem_append.mp hy with hy | hy
        · exact List.mem_append_left _ (by rw [← hzn]; exact List.mem_map.mpr ⟨_, hy, rfl⟩)
        · obtain ⟨z, hz, e⟩ := List.mem_map.mp hy; cases e; exact List.mem_append_right _ hz
      rcases hkd' y hm with e | ⟨e, e'⟩
      · exact .inl e
      · exact .inr ⟨.inl e, hcl _ _ e'⟩
    · intro y v hy hyk
      have hy' : (y, some v) ∈ pn.zip ((vs ++ dv).map some) := by
        rcases List.mem_append.mp hy with hy | hy
        · exact hy
        · obtain ⟨z, hz, e⟩ := List.mem_map.mp hy; cases e
      obtain ⟨u, hu, ru⟩ := zip_mem rvall hy'
      exact ⟨u, bindL_mem hyk _ _ (by rw [hbn]; exact hpn) hu, ru⟩
    · intro y c hc
      obtain ⟨oc, hoc, hdc⟩ := x.cell y c hc
      refine ⟨oc, _, hoc, hdc, fun v hv hvk => ?_⟩
      have hy' : (y, some v) ∈ pn.zip ((vs ++ dv).map some) := by
        rcases List.mem_append.mp hv with hy | hy
        · exact hy
        · obtain ⟨z, hz, e⟩ := List.mem_map.mp hy; cases e
      obtain ⟨u, hu, ru⟩ := zip_mem rvall hy'
      exact ⟨u, bindC_mem hvk _ _ (by rw [hbn]; exact hpn) hu, ru⟩
    · intro y z c hy hz
      exact apart_inj x.apart (lookup_mem hy) (lookup_mem hz)
    · intro y c hc e
      have := x.above y c (lookup_mem hc)
      rw [e] at this
      exact Nat.lt_irrefl _ this
    · intro a ha; exact hr.fresh (hfa a ha)
    · intro a ha
      rcases List.mem_cons.mp ha with e | ha
      · subst e; exact x.toInCall.ns.lt
      · obtain ⟨⟨n, c⟩, hp, rfl⟩ := List.mem_map.mp ha
        obtain ⟨oc, hoc, _⟩ := x.cell n c (mem_lookup hcn' hp)
        exact Heap.lt_size hoc
    · intro y v hy
      have hm : y ∈ pn ++ ln := by
        rcases List.mem_append.mp hy with hy | hy
        · exact List.mem_append_left _ (by rw [← hzn]; exact List.mem_map.mpr ⟨_, hy, rfl⟩)
        · obtain ⟨z, hz, e⟩ := List.mem_map.mp hy; cases e; exact List.mem_append_right _ hz
      exact (hkd0 y hm).1
    · intro y v hy
      have := List.all_eq_true.mp hgk (y, v) hy
      simp only [Bool.and_eq_true, beq_iff_eq] at this
      exact ⟨this.2, this.1⟩
  refine ⟨(hr.ok.lim.keeps hr.keep).keeps keep, codeAny_func ?_⟩
  refine wpAny_mono ((h (dEnv qual scope s.heap.objs.size f cdv) fun _ _ e => e).run ad s1 hr1 er1) ?_ fun _ _ z => z
  rintro fl s2 ⟨ad2, σ2, ρ2, f2, n2, e2, r2, h2⟩
  obtain ⟨nw, ep, hnw⟩ := n2.pre
  obtain ⟨h3, tk3, e3⟩ := n2.eq
  have nx : Nx C [] ad s ad2 σ2 s2 := ⟨⟨h3, tk3, by rw [e3, e1]⟩, ⟨nw, ep, fun a ha => Nat.le_trans hsz (hnw a ha)⟩, Nat.le_trans hsz n2.size,
    fun b o e nb _ => n2.same b o (keep b o e) nb fun hb => absurd (Heap.lt_size e) (Nat.not_lt.mpr (hfa b hb)), n2.hr.gw hr.ok⟩
  cases f2 with
  | next => cases r2; exact ⟨ad2, σ2, .none, nx, rfl, h2⟩
  | brk => cases r2; exact ⟨ad2, σ2, .none, nx, rfl, h2⟩
  | cont => cases r2; exact ⟨ad2, σ2, .none, nx, rfl, h2⟩
  | ret v => obtain ⟨u, rfl, ru⟩ := r2; exact ⟨ad2, σ2, v, nx, ru, h2⟩
theorem WC_def {f : Addr} {o : Obj} {name qual : Str} {params : Arguments} {body : List Stmt} {scope : Scope} {dV kV doc pm cdv ct : Value} {an : Option Addr} {pn ln : List Str} {gl : List (Str × Value)} {vs dv : List V} {ds : List Value} {Q : V → AH → Prop}
    (ho : C.G.get? f = some o) (hd : o.data = .func (mkFd name qual params body scope dV kV doc pm an cdv ct)) (hcd : C.G.CodeRec cdv qual) (hroom : A.depth < recursionLimit)
    (hds : RVs [] dv ds) (hlen : pn.length = vs.length + dv.length) (hgl : ∀ x v, (x, v) ∈ gl → C.mg x = some v ∨ (C.mg x = none ∧ C.mb x = some v))
    (hbind : ∀ (s : Shared) (xs : List Value), (∀ b o, C.G.get? b = some o → s.heap.get? b = some o) → xs.length = vs.length → BindsTo s (mkFd name qual params body scope dV kV doc pm an cdv ct) ⟨xs, []⟩ (pn.zip (xs ++ ds)))
    (hnd : (pn ++ ln).Nodup) (hcn : ((cellsFrom 0 scope.names []).map (·.1)).Nodup)
    (hkd : ((pn ++ ln).all fun x => nmOk x && (scope.names.lookup x == some .local || (scope.names.lookup x == some .cell && ((cellsFrom 0 scope.names []).lookup x).isSome))) = true)
    (hgk : (gl.all fun p => nmOk p.1 && scope.names.lookup p.1 == some .globalImplicit) = true)
    (h : ∀ env, Kn env scope.names → WSs (C.wg gl) (A.deeper env) env body (pn.zip ((vs ++ dv).map some) ++ ln.map fun x => (x, none)) σ (fun fl _ σ' => Q (retV fl) σ') (EL C A env E))
    (hco : scope.isCoroutine = false := by rfl) (hgen : scope.isGenerator = false := by rfl) (hk : scope.kind = .function := by rfl) : WC C A (.ref f) vs σ Q E :=
  (WCc_def ho hd hcd hroom hds hlen hgl hbind hnd hcn hkd hgk h hco hgen hk).toWC
end
end Mine

-- part Aw4
set_option autoImplicit false
set_option linter.unusedVariables false
namespace Mine
open PySem PyProof.Rows

/-- an iterator at I that hands out P 0 .. P (n - 1), as long as the abstract heap keeps Cd -/
structure Wk (C : Cx) (A : Around) (ad0 : List Addr) (I : Addr) (n : Nat) (P : Nat → V) (Cd : AH → Prop) (St : Nat → Heap → Prop) : Prop where
  own : ∀ i h h', St i h → h'.get? I = h.get? I → St i h'
  ex : ∀ i h, St i h → ∃ o, h.get? I = some o
  item : ∀ i ad σ (s : Shared) (Q : Option Value → Shared → Prop) (E : EX), i < n → (∃ nw, ad = ad0 ++ nw) → HR C ad σ s.heap → Cd σ → St i s.heap →
    (∀ u h' tk, RV ad (P i) u → St (i + 1) h' → Heap.SameBut I s.heap h' → Q (some u) { s with heap := h', toks := tk }) → wpAny (model C.prog C.w) A (pyNext (.ref I)) Q E s
  done : ∀ ad σ (s : Shared) (Q : Option Value → Shared → Prop) (E : EX), (∃ nw, ad = ad0 ++ nw) → HR C ad σ s.heap → Cd σ → St n s.heap →
    (∀ h' tk, (∀ b o, b ≠ I → s.heap.get? b = some o → h'.get? b = some o) → Q none { s with heap := h', toks := tk }) → wpAny (model C.prog C.w) A (pyNext (.ref I)) Q E s
  self : ∀ i (s : Shared) (Q : Value → Shared → Prop) (E : EX), St i s.heap → Q (.ref I) s → wpAny (model C.prog C.w) A (pyIter (.ref I)) Q E s
  tup : ∀ i (s : Shared) (t : Expr) (u : Value) (Q : Unit → Shared → Prop) (E : EX), St i s.heap → Q () s → wpAny (model C.prog C.w) A (letOwnedTupleGo t (.ref I) u) Q E s

/-- a value that may be walked -/
structure Itb (C : Cx) (A : Around) (v : V) (σ : AH) (n : Nat) (P : Nat → V) (Cd : AH → Prop) (E : EX) : Prop where
  run : ∀ ad (s : Shared) x, HR C ad σ s.heap → RV ad v x → wpAny (model C.prog C.w) A (pyIter x)
    (fun it s1 => ∃ I St, it = .ref I ∧ Wk C A ad I n P Cd St ∧ St 0 s1.heap ∧ s.heap.objs.size ≤ I ∧ Nx C [] ad s ad σ s1) E s

structure LoopPost (Inv : Loc → AH → Prop) (Q : Fl → Loc → AH → Prop) (fl : Fl) (ρ : Loc) (σ : AH) : Prop where
  run : match fl with
    | .next => Inv ρ σ
    | .cont => Inv ρ σ
    | .brk => Q .next ρ σ
    | .ret v => Q (.ret v) ρ σ
theorem LoopPost_next {Inv : Loc → AH → Prop} {Q : Fl → Loc → AH → Prop} {ρ : Loc} {σ : AH} (h : Inv ρ σ) : LoopPost Inv Q .next ρ σ := ⟨h⟩
theorem LoopPost_cont {Inv : Loc → AH → Prop} {Q : Fl → Loc → AH → Prop} {ρ : Loc} {σ : AH} (h : Inv ρ σ) : LoopPost Inv Q .cont ρ σ := ⟨h⟩
theorem LoopPost_brk {Inv : Loc → AH → Prop} {Q : Fl → Loc → AH → Prop} {ρ : Loc} {σ : AH} (h : Q .next ρ σ) : LoopPost Inv Q .brk ρ σ := ⟨h⟩
theorem LoopPost_ret {Inv : Loc → AH → Prop} {Q : Fl → Loc → AH → Prop} {ρ : Loc} {σ : AH} {v : V} (h : Q (.ret v) ρ σ) : LoopPost Inv Q (.ret v) ρ σ := ⟨h⟩

/-- a raise within a loop -/
def ELoop (C : Cx) (A : Around) (env : Env) (E : EX) : EX := notedBy (model C.prog C.w) A env fun e s' => cameBackBy (model C.prog C.w) A env E e s'

/-- storing a value to a target -/
structure WAs (C : Cx) (A : Around) (env : Env) (t : Expr) (v : V) (ρ : Loc) (σ : AH) (Q : Loc → AH → Prop) (E : EX) : Prop where
  run : ∀ ad (s : Shared) u, HR C ad σ s.heap → ER C env ρ ad s.heap → RV ad v u →
    wpAny (model C.prog C.w) A (assign t env u) (fun _ s' => ∃ ad' σ' ρ', Nx C (fa env) ad s ad' σ' s' ∧ ER C env ρ' ad' s'.heap ∧ Q ρ' σ') E s

section
variable {C : Cx} {A : Around} {env : Env} {ρ : Loc} {σ : AH} {E : EX}
theorem WAs_name {x : Str} {p : Pos} {v : V} {Q : Loc → AH → Prop} {ρ' : Loc} (up : Up x (some v) ρ ρ') (h : Q ρ' σ) : WAs C A env (.Name x p) v ρ σ Q E := by
  refine ⟨?_⟩
  intro ad s u hr er rv
  exact wpAny_assign_Name (store_name hr er up rv fun s' n e => ⟨ad, σ, ρ', n, e, h⟩)

theorem HR.same {ad : List Addr} {h h' : Heap} (hr : HR C ad σ h) (k : ∀ b o, C.G.get? b = some o ∨ b ∈ ad → h.get? b = some o → h'.get? b = some o) : HR C ad σ h' :=
  ⟨hr.ok, fun b o e => k b o (.inl e) (hr.keep b o e), hr.len, hr.nd, hr.off, hr.low, fun i o a h1 h2 => let ⟨ob, h3, h4⟩ := hr.obj i o a h1 h2; ⟨ob, k _ _ (.inr (List.mem_of_getElem? h2)) h3, h4⟩⟩

/-- a step that changes but the iterator and grows -/
theorem Nx.iter {ad : List Addr} {s : Shared} {h' : Heap} {tk : Nat} {I : Addr} (hr : HR C ad σ s.heap) (hI : I ∉ ad) (hG : C.G.get? I = none) (hz : s.heap.objs.size ≤ h'.objs.size) (k : ∀ b o, b ≠ I → s.heap.get? b = some o → h'.get? b = some o) :
    Nx C [I] ad s ad σ { s with heap := h', toks := tk } := by
  have ne : ∀ b o, C.G.get? b = some o ∨ b ∈ ad → b ≠ I := by
    rintro b o (e | e) rfl
    · rw [hG] at e; cases e
    · exact hI e
  exact ⟨⟨h', tk, rfl⟩, ⟨[], by simp, by simp⟩, hz, fun b o e _ hc => k b o (by simpa using hc) e, hr.same fun b o h1 h2 => k b o (ne b o h1) h2⟩
theorem ER.iter {ad : List Addr} {s : Shared} {s' : Shared} {I : Addr} (er : ER C env ρ ad s.heap) (n : Nx C [I] ad s ad σ s') (hI : I ∉ fa env) : ER C env ρ ad s'.heap := by
  have keep : ∀ b ∈ fa env, ∀ o, s.heap.get? b = some o → s'.heap.get? b = some o := fun b hb o e => n.same b o e (er.off b hb).2 (by simp; rintro rfl; exact hI hb)
  refine ⟨er.kind, er.glob, er.blt, er.nd, er.kd, ?_, ?_, er.cinj, er.cl, er.off, fun b hb => Nat.lt_of_lt_of_le (er.lt b hb) n.size, er.nm, er.gk⟩
  · obtain ⟨m, hm, h⟩ := er.m
    exact ⟨m, hm.at' fun o e => keep _ (by simp [fa]) o e, h⟩
  · intro x c hc
    obtain ⟨o, w, h1, h2, h3⟩ := er.cell x c hc
    exact ⟨o, w, keep c (mem_cells hc) o h1, h2, h3⟩
theorem Nx.wider {ch ch' ad ad1 : List Addr} {σ1 : AH} {s s1 : Shared} (n : Nx C ch ad s ad1 σ1 s1) (h : ∀ b ∈ ch, b ∈ ch') : Nx C ch' ad s ad1 σ1 s1 :=
  ⟨n.eq, n.pre, n.size, fun b o e hb hc => n.same b o e hb fun hx => hc (h b hx), n.hr⟩

/-- an expression's value, made an iterator -/
structure WItr (C : Cx) (A : Around) (env : Env) (iter : Expr) (ρ : Loc) (σ : AH) (K : Nat → (Nat → V) → (AH → Prop) → AH → Prop) (E : EX) : Prop where
  run : ∀ ad (s : Shared), HR C ad σ s.heap → ER C env ρ ad s.heap → wpAny (model C.prog C.w) A (eval iter env) (fun x s1 => wpAny (model C.prog C.w) A (pyIter x) (fun it s2 =>
    ∃ ad' σ' n P Cd I St, it = .ref I ∧ Wk C A ad' I n P Cd St ∧ St 0 s2.heap ∧ s.heap.objs.size ≤ I ∧ I ∉ ad' ∧ Nx C [] ad s ad' σ' s2 ∧ K n P Cd σ') E s1) E s
theorem WItr_of {iter : Expr} {K : Nat → (Nat → V) → (AH → Prop) → AH → Prop} (h : WE C A env iter ρ σ (fun v σ1 => ∃ n P Cd, Itb C A v σ1 n P Cd E ∧ K n P Cd σ1) E) : WItr C A env iter ρ σ K E := by
  refine ⟨?_⟩
  intro ad s hr er
  refine wpAny_mono (h.run ad s hr er) ?_ fun _ _ x => x
  rintro x s1 ⟨ad1, σ1, v, n1, r1, n, P, Cd, itb, hk⟩
  refine wpAny_mono (itb.run ad1 s1 x n1.hr r1) ?_ fun _ _ x => x
  rintro it s2 ⟨I, St, rfl, wk, st0, hI, n2⟩
  exact ⟨ad1, σ1, n, P, Cd, I, St, rfl, wk, st0, Nat.le_trans n1.size hI, (n1.hr.fresh hI).2, n1.trans n2, hk⟩
theorem Nx.drop1 {ch ad ad1 : List Addr} {σ1 : AH} {s0 s s1 : Shared} {I : Addr} {ad0 : List Addr} {σ0 : AH} (n0 : Nx C [] ad0 s0 ad σ0 s) (hI : s0.heap.objs.size ≤ I) (n : Nx C (I :: ch) ad s ad1 σ1 s1) : Nx C ch ad0 s0 ad1 σ1 s1 := by
  obtain ⟨h1, t1, e1⟩ := n0.eq
  obtain ⟨h2, t2, e2⟩ := n.eq
  obtain ⟨nw0, p0, q0⟩ := n0.pre
  obtain ⟨nw, p, q⟩ := n.pre
  refine ⟨⟨h2, t2, by rw [e2, e1]⟩, ⟨nw0 ++ nw, by rw [p, p0, List.append_assoc], fun a ha => ?_⟩, Nat.le_trans n0.size n.size, fun b o e hb hc => ?_, n.hr⟩
  · rcases List.mem_append.mp ha with ha | ha
    · exact q0 a ha
    · exact Nat.le_trans n0.size (q a ha)
  · refine n.same b o (n0.same b o e hb (by simp)) ?_ ?_
    · rw [p0]
      intro hm
      rcases List.mem_append.mp hm with hm | hm
      · exact hb hm
      · exact absurd (Heap.lt_size e) (Nat.not_lt.mpr (q0 b hm))
    · simp only [List.mem_cons, not_or]
      exact ⟨fun e' => absurd (Heap.lt_size e) (Nat.not_lt.mpr (e' ▸ hI)), hc⟩

theorem WS_for {target iter : Expr} {body : List Stmt} {pos : Pos} {Q : Fl → Loc → AH → Prop}
    (h : WItr C A env iter ρ σ (fun n P Cd σ1 => ∃ Inv : Nat → Loc → AH → Prop, Inv 0 ρ σ1 ∧
      (∀ i ρ' σ', i < n → Inv i ρ' σ' → Cd σ' ∧ WAs C A env target (P i) ρ' σ' (fun ρ2 σ2 => WSs C A env body ρ2 σ2 (LoopPost (Inv (i + 1)) Q) (ELoop C A env E)) (ELoop C A env E)) ∧
      (∀ ρ' σ', Inv n ρ' σ' → Cd σ' ∧ Q .next ρ' σ')) E)
    (hs : isSetE iter = false := by rfl) : WS C A env (.For target iter body [] pos) ρ σ Q E := by
  refine ⟨?_⟩
  intro ad s hr er
  refine wpAny_For (wpAny_mono (h.run ad s hr er) ?_ fun _ _ x => x) (folded_not hs)
  intro x s1 hx
  refine wpAny_mono hx ?_ fun _ _ x => x
  rintro it s2 ⟨ad1, σ1, n, P, Cd, I, St, rfl, wk, st0, hI, hIad, n2, Inv, inv0, turn, fin⟩
  have er2 := er.next n2
  have hIfa : I ∉ fa env := fun hm => absurd (er.lt I hm) (Nat.not_lt.mpr hI)
  have hIG : C.G.get? I = none := (hr.fresh hI).1
  refine codeAny_forLoop_any (fun k s3 => ∃ i ad3 σ3 ρ3, k = n - i ∧ i ≤ n ∧ Nx C (I :: fa env) ad1 s2 ad3 σ3 s3 ∧ ER C env ρ3 ad3 s3.heap ∧ St i s3.heap ∧ I ∉ ad3 ∧ Inv i ρ3 σ3) ?_ n
    ⟨0, ad1, σ1, ρ, rfl, Nat.zero_le _, Nx.refl n2.hr, er2, st0, hIad, inv0⟩
  rintro k s3 ⟨i, ad3, σ3, ρ3, rfl, hi, n3, er3, st3, hI3, inv3⟩
  by_cases hlt : i < n
  · obtain ⟨cd, tb⟩ := turn i ρ3 σ3 hlt inv3
    refine wk.item i ad3 σ3 s3 _ _ hlt (let ⟨nw, p, _⟩ := n3.pre; ⟨nw, p⟩) n3.hr cd st3 fun u h' tk ru st' hsb => ?_
    have n4 : Nx C [I] ad3 s3 ad3 σ3 { s3 with heap := h', toks := tk } := Nx.iter n3.hr hI3 hIG (Nat.le_of_eq hsb.1.symm) hsb.extBut
    have er4 := er3.iter n4 hIfa
    refine wk.tup (i + 1) _ _ _ _ _ st' ?_
    refine wpAny_mono (tb.run ad3 _ u n4.hr er4 ru) ?_ fun _ _ x => x
    rintro _ s5 ⟨ad5, σ5, ρ5, n5, er5, wb⟩
    refine wpAny_mono (wb.run ad5 s5 n5.hr er5) ?_ fun _ _ x => x
    rintro f s6 ⟨ad6, σ6, ρ6, fl, n6, er6, rf, ⟨hq⟩⟩
    have n56 := n5.trans n6
    have n46 : Nx C (I :: fa env) ad3 s3 ad6 σ6 s6 := (n4.wider (by simp)).trans (n56.wider fun b hb => List.mem_cons_of_mem _ hb)
    have n36 := n3.trans n46
    obtain ⟨oI, hoI⟩ := wk.ex _ _ st'
    have hI6 : I ∉ ad6 := by
      obtain ⟨nw, p, q⟩ := n56.pre
      rw [p]
      intro hm
      rcases List.mem_append.mp hm with hm | hm
      · exact hI3 hm
      · exact absurd (Heap.lt_size hoI) (Nat.not_lt.mpr (q I hm))
    have st6 : St (i + 1) s6.heap := wk.own _ _ _ st' ((n56.same I oI hoI hI3 hIfa).trans hoI.symm)
    have back : Nx C (fa env) ad s ad6 σ6 s6 := Nx.drop1 n2 hI n36
    cases fl with
    | next => cases rf; exact ⟨n - (i + 1), by omega, i + 1, ad6, σ6, ρ6, rfl, hlt, n36, er6, st6, hI6, hq⟩
    | cont => cases rf; exact ⟨n - (i + 1), by omega, i + 1, ad6, σ6, ρ6, rfl, hlt, n36, er6, st6, hI6, hq⟩
    | brk => cases rf; exact ⟨ad6, σ6, ρ6, .next, back, er6, rfl, hq⟩
    | ret v => obtain ⟨u', rfl, ru'⟩ := rf; exact ⟨ad6, σ6, ρ6, .ret v, back, er6, ⟨u', rfl, ru'⟩, hq⟩
  · obtain rfl : i = n := by omega
    obtain ⟨cd, hq⟩ := fin ρ3 σ3 inv3
    refine wpAny_sz (wk.done ad3 σ3 s3 _ _ (let ⟨nw, p, _⟩ := n3.pre; ⟨nw, p⟩) n3.hr cd st3 fun h' tk hk hz => ?_)
    have n4 : Nx C [I] ad3 s3 ad3 σ3 { s3 with heap := h', toks := tk } := Nx.iter n3.hr hI3 hIG hz hk
    have er4 := er3.iter n4 hIfa
    exact wpAny_execs_nil ⟨ad3, σ3, ρ3, .next, Nx.drop1 n2 hI (n3.trans (n4.wider (by simp))), er4, rfl, hq⟩
end
end Mine

-- part Aw5
set_option autoImplicit false
set_option linter.unusedVariables false
namespace Mine
open PySem PyProof.Rows

def ObjAt (C : Cx) (σ : AH) (v : V) (o : O) : Prop := match v with
  | .ref j => σ[j]? = some o
  | .k (.ref a) => (a, o) ∈ C.gob
  | _ => False

section
variable {C : Cx} {A : Around} {env : Env} {ρ : Loc} {σ : AH} {E : EX}
theorem ObjAt.list {v : V} {xs : List V} {ad : List Addr} {h : Heap} {x : Value} (b : ObjAt C σ v (.list xs)) (hr : HR C ad σ h) (rv : RV ad v x) : ∃ a vs, x = .ref a ∧ h.IsList a vs ∧ RVs ad xs vs.toList := by
  cases v with
  | ref j =>
    obtain ⟨a, h1, h2⟩ := rv
    obtain ⟨ob, h3, vs, n, e2, h4⟩ := hr.obj j _ a b h1
    subst e2
    exact ⟨a, vs, h2, ⟨_, h3, rfl, n, rfl⟩, h4⟩
  | k v =>
    cases v with
    | ref a =>
      obtain ⟨vs, h1, h2⟩ := (hr.ok.gob a _ b).keeps hr.keep
      have h3 := h2.mono (nw := ad)
      exact ⟨a, vs, rv, h1, by simpa using h3⟩
    | _ => exact b.elim
  | _ => exact b.elim
theorem ObjAt.tup {v : V} {xs : List V} {ad : List Addr} {h : Heap} {x : Value} (b : ObjAt C σ v (.tuple xs)) (hr : HR C ad σ h) (rv : RV ad v x) : ∃ a vs, x = .ref a ∧ h.IsTuple a vs ∧ RVs ad xs vs.toList := by
  cases v with
  | ref j =>
    obtain ⟨a, h1, h2⟩ := rv
    obtain ⟨ob, h3, vs, n, e2, h4⟩ := hr.obj j _ a b h1
    subst e2
    exact ⟨a, vs, h2, ⟨_, h3, rfl, n, rfl⟩, h4⟩
  | k v =>
    cases v with
    | ref a =>
      obtain ⟨vs, h1, h2⟩ := (hr.ok.gob a _ b).keeps hr.keep
      have h3 := h2.mono (nw := ad)
      exact ⟨a, vs, rv, h1, by simpa using h3⟩
    | _ => exact b.elim
  | _ => exact b.elim

/-- a new object that the abstract heap does not bear -/
theorem Nx.push {ad : List Addr} {s : Shared} (o : Obj) (hr : HR C ad σ s.heap) : Nx C [] ad s ad σ { s with heap := s.heap.push o } :=
  ⟨⟨_, s.toks, rfl⟩, ⟨[], by simp, by simp⟩, by simp [Heap.push], fun b ob e _ _ => Heap.get?_push_of_some _ e, hr.keeps fun b ob e => Heap.get?_push_of_some _ e⟩
theorem RVs.getD {ad : List Addr} {xs : List V} {vs : List Value} (h : RVs ad xs vs) {i : Nat} (hi : i < xs.length) : ∃ u, vs[i]? = some u ∧ RV ad (xs.getD i .none) u := by
  obtain ⟨u, h1, h2⟩ := h.get (i := i) (a := xs[i]) (by simp [hi])
  exact ⟨u, h1, by simpa [List.getD, hi] using h2⟩

theorem notOwned {s : Shared} {t : Expr} {I : Addr} {u : Value} {o : Obj} {M : Model} {Q : Unit → Shared → Prop} (ho : s.heap.get? I = some o) (hc : (match o.cls, o.data with
    | .type n, .fields vs => !(["enumerate", "zip", "dict_itemiterator", "dict_reverseitemiterator", "odict_iterator", "itertools.zip_longest", "itertools.pairwise"].contains n)
    | _, _ => true) = true) (h : Q () s) : wpAny M A (letOwnedTupleGo t (.ref I) u) Q E s := by
  unfold letOwnedTupleGo
  split
  · cases u <;> try exact wpAny_pure h
    refine wpAny_bind (wpAny_load ho ?_)
    split
    · rename_i n vs e1 e2
      rw [e1, e2] at hc
      simp only [Bool.not_eq_true'] at hc
      rw [hc]; exact wpAny_pure h
    · exact wpAny_pure h
  · cases u <;> try exact wpAny_pure h
    refine wpAny_bind (wpAny_load ho ?_)
    split
    · rename_i n vs e1 e2
      rw [e1, e2] at hc
      simp only [Bool.not_eq_true'] at hc
      rw [hc]; exact wpAny_pure h
    · exact wpAny_pure h
  · exact wpAny_pure h

theorem Itb_list {v : V} {xs : List V} (hA : A.handled = none) (b : ObjAt C σ v (.list xs)) : Itb C A v σ xs.length (fun i => xs.getD i .none) (fun σ' => ObjAt C σ' v (.list xs)) E := by
  refine ⟨?_⟩
  intro ad s x hr rv
  obtain ⟨a, vs, rfl, hl, rvs⟩ := b.list hr rv
  refine wpAny_pyIter_list hl ⟨s.heap.objs.size, fun i h => h.IsListIter s.heap.objs.size a i, rfl, ?_, ?_, Nat.le_refl _, Nx.push _ hr⟩
  · refine ⟨?_, ?_, ?_, ?_, fun i s Q E st hQ => wpAny_pyIter_listiter st hQ, ?_⟩
    · rintro i h h' ⟨o, ho, r⟩ e
      exact ⟨o, by rw [e]; exact ho, r⟩
    · rintro i h ⟨o, ho, r⟩; exact ⟨o, ho⟩
    · rintro i ad' σ' s' Q E' hi ⟨nw, rfl⟩ hr' b' st hQ
      obtain ⟨a', vs', e, hl', rvs'⟩ := b'.list hr' (rv.mono (nw := nw))
      cases e
      obtain ⟨u, hu, ru⟩ := rvs'.getD hi
      exact wpAny_pyNext_list_item st hl' (x := u) (by rw [← Array.getElem?_toList]; exact hu) fun h' hit hs => hQ u h' s'.toks ru hit hs
    · rintro ad' σ' s' Q E' ⟨nw, rfl⟩ hr' b' st hQ
      obtain ⟨a', vs', e, hl', rvs'⟩ := b'.list hr' (rv.mono (nw := nw))
      cases e
      refine wpAny_pyNext_list_end hA st hl' ?_ fun h' he => ?_
      · rw [← Array.getElem?_toList]; exact List.getElem?_eq_none (by rw [← rvs'.length]; exact Nat.le_refl _)
      · exact hQ h' s'.toks fun b o hb e => he b o hb e
    · rintro i s' t u Q E' ⟨o, ho, hc, hd⟩ hq
      exact notOwned ho (by rw [hc, hd]; rfl) hq
  · exact ⟨_, Heap.get?_push_size _ rfl, rfl, rfl⟩
end
end Mine

-- part Aw6
set_option autoImplicit false
set_option linter.unusedVariables false
namespace Mine
open PySem PyProof.Rows

section
variable {C : Cx} {A : Around} {env : Env} {ρ : Loc} {σ : AH} {E : EX} {Q : V → AH → Prop}

theorem PE.here {ad : List Addr} {s : Shared} {v : V} {u : Value} (hr : HR C ad σ s.heap) (rv : RV ad v u) (h : Q v σ) : PE C ad s Q u s := ⟨ad, σ, v, Nx.refl hr, rv, h⟩
theorem PE.tok {ad : List Addr} {s : Shared} {v : V} {u : Value} (t : Nat) (hr : HR C ad σ s.heap) (rv : RV ad v u) (h : Q v σ) : PE C ad s Q u { s with toks := t } := ⟨ad, σ, v, Nx.tok t hr, rv, h⟩
theorem Nx.keeps {ad : List Addr} {s : Shared} {h' : Heap} {tk : Nat} (hz : s.heap.objs.size ≤ h'.objs.size) (hr : HR C ad σ s.heap) (k : ∀ b o, s.heap.get? b = some o → h'.get? b = some o) : Nx C [] ad s ad σ { s with heap := h', toks := tk } :=
  ⟨⟨h', tk, rfl⟩, ⟨[], by simp, by simp⟩, hz, fun b o e _ _ => k b o e, hr.keeps k⟩

/- ints -/
theorem add_ii {i j : Int} (h : Q (.int (i + j)) σ) : WOp2 C A (binaryOp .Add) (.int i) (.int j) σ Q E := by
  refine ⟨?_⟩
  rintro ad s x y hr ⟨t, rfl⟩ ⟨u, rfl⟩
  exact wpAny_add_int (PE.tok (v := .int (i + j)) _ hr ⟨_, rfl⟩ h)
theorem sub_ii {i j : Int} (h : Q (.int (i - j)) σ) : WOp2 C A (binaryOp .Sub) (.int i) (.int j) σ Q E := by
  refine ⟨?_⟩
  rintro ad s x y hr ⟨t, rfl⟩ ⟨u, rfl⟩
  exact sub_int' (PE.tok (v := .int (i - j)) _ hr ⟨_, rfl⟩ h)
theorem mul_ii {i j : Int} (hm : IntMulOk i j) (h : Q (.int (i * j)) σ) : WOp2 C A (binaryOp .Mult) (.int i) (.int j) σ Q E := by
  refine ⟨?_⟩
  rintro ad s x y hr ⟨t, rfl⟩ ⟨u, rfl⟩
  exact mul_int (PE.tok (v := .int (i * j)) _ hr ⟨_, rfl⟩ h) hm
theorem mod_ii {i j : Int} (hj : j ≠ 0) (h : Q (.int (i.fmod j)) σ) : WOp2 C A (binaryOp .Mod) (.int i) (.int j) σ Q E := by
  refine ⟨?_⟩
  rintro ad s x y hr ⟨t, rfl⟩ ⟨u, rfl⟩
  refine mod_int' hj ?_
  exact (PE.tok (v := .int (i.fmod j)) _ hr ⟨_, rfl⟩ h)
theorem neg_i {i : Int} (h : Q (.int (-i)) σ) : WOp1 C A (unaryOp .USub) (.int i) σ Q E := by
  refine ⟨?_⟩
  rintro ad s x hr ⟨t, rfl⟩
  exact neg_int (PE.tok (v := .int (-i)) _ hr ⟨_, rfl⟩ h)
theorem lt_ii {i j : Int} (h : Q (.bool (decide (i < j))) σ) : WOp2 C A (compareOp .Lt) (.int i) (.int j) σ Q E := by
  refine ⟨?_⟩
  rintro ad s x y hr ⟨t, rfl⟩ ⟨u, rfl⟩
  exact lt_int (PE.here (v := .bool _) hr rfl h)
theorem gt_ii {i j : Int} (h : Q (.bool (decide (j < i))) σ) : WOp2 C A (compareOp .Gt) (.int i) (.int j) σ Q E := by
  refine ⟨?_⟩
  rintro ad s x y hr ⟨t, rfl⟩ ⟨u, rfl⟩
  exact gt_int (PE.here (v := .bool _) hr rfl h)
theorem le_ii {i j : Int} (h : Q (.bool (decide (i ≤ j))) σ) : WOp2 C A (compareOp .LtE) (.int i) (.int j) σ Q E := by
  refine ⟨?_⟩
  rintro ad s x y hr ⟨t, rfl⟩ ⟨u, rfl⟩
  exact le_int (PE.here (v := .bool _) hr rfl h)
theorem ge_ii {i j : Int} (h : Q (.bool (decide (j ≤ i))) σ) : WOp2 C A (compareOp .GtE) (.int i) (.int j) σ Q E := by
  refine ⟨?_⟩
  rintro ad s x y hr ⟨t, rfl⟩ ⟨u, rfl⟩
  exact ge_int (PE.here (v := .bool _) hr rfl h)
theorem eq_ii {i j : Int} (h : Q (.bool (i == j)) σ) : WOp2 C A (compareOp .Eq) (.int i) (.int j) σ Q E := by
  refine ⟨?_⟩
  rintro ad s x y hr ⟨t, rfl⟩ ⟨u, rfl⟩
  exact eq_int (PE.here (v := .bool _) hr rfl h)
theorem ne_ii {i j : Int} (h : Q (.bool (i != j)) σ) : WOp2 C A (compareOp .NotEq) (.int i) (.int j) σ Q E := by
  refine ⟨?_⟩
  rintro ad s x y hr ⟨t, rfl⟩ ⟨u, rfl⟩
  exact ne_int (PE.here (v := .bool _) hr rfl h)
theorem eq_ss {i j : Str} (h : Q (.bool (i == j)) σ) : WOp2 C A (compareOp .Eq) (.str i) (.str j) σ Q E := by
  refine ⟨?_⟩
  rintro ad s x y hr ⟨t, rfl⟩ ⟨u, rfl⟩
  exact eq_str (PE.here (v := .bool _) hr rfl h)
theorem ne_ss {i j : Str} (h : Q (.bool (i != j)) σ) : WOp2 C A (compareOp .NotEq) (.str i) (.str j) σ Q E := by
  refine ⟨?_⟩
  rintro ad s x y hr ⟨t, rfl⟩ ⟨u, rfl⟩
  exact ne_str (PE.here (v := .bool _) hr rfl h)

/- deep data -/
mutual
inductive Rd (C : Cx) (σ : AH) : V → PyData → Prop
  | none : Rd C σ .none .none
  | bool {b : Bool} : Rd C σ (.bool b) (.bool b)
  | int {i : Int} : Rd C σ (.int i) (.int i)
  | str {s : Str} : Rd C σ (.str s) (.str s)
  | list {v : V} {xs : List V} {ds : List PyData} : ObjAt C σ v (.list xs) → RdAll C σ xs ds → Rd C σ v (.list ds)
  | tuple {v : V} {xs : List V} {ds : List PyData} : ObjAt C σ v (.tuple xs) → RdAll C σ xs ds → Rd C σ v (.tuple ds)
inductive RdAll (C : Cx) (σ : AH) : List V → List PyData → Prop
  | nil : RdAll C σ [] []
  | cons {v : V} {d : PyData} {vs : List V} {ds : List PyData} : Rd C σ v d → RdAll C σ vs ds → RdAll C σ (v :: vs) (d :: ds)
end
mutual
theorem Rd.reads {ad : List Addr} {h : Heap} (hr : HR C ad σ h) : ∀ {v : V} {d : PyData}, Rd C σ v d → ∀ {x : Value}, RV ad v x → ∃ as, Reads h x d as
  | _, _, .none, _, rfl => ⟨_, .none⟩
  | _, _, .bool, _, rfl => ⟨_, .bool _⟩
  | _, _, .int, _, ⟨_, e⟩ => by subst e; exact ⟨_, .int _ _⟩
  | _, _, .str, _, ⟨_, e⟩ => by subst e; exact ⟨_, .str _ _⟩
  | _, _, .list b r, x, rv => by
    obtain ⟨a, vs, e, ⟨o, ho, hc, n, hd⟩, rvs⟩ := b.list hr rv
    obtain ⟨as, ra⟩ := RdAll.reads hr r rvs
    subst e
    exact ⟨_, .list ho hc hd ra⟩
  | _, _, .tuple b r, x, rv => by
    obtain ⟨a, vs, e, ⟨o, ho, hc, n, hd⟩, rvs⟩ := b.tup hr rv
    obtain ⟨as, ra⟩ := RdAll.reads hr r rvs
    subst e
    exact ⟨_, .tuple ho hc hd ra⟩
theorem RdAll.reads {ad : List Addr} {h : Heap} (hr : HR C ad σ h) : ∀ {vs : List V} {ds : List PyData}, RdAll C σ vs ds → ∀ {xs : List Value}, RVs ad vs xs → ∃ as, ReadsAll h xs ds as
  | _, _, .nil, _, .nil => ⟨_, .nil⟩
  | _, _, .cons r rs, _, .cons v vs => by
    obtain ⟨as, ra⟩ := Rd.reads hr r v
    obtain ⟨bs, rb⟩ := RdAll.reads hr rs vs
    exact ⟨_, .cons ra rb⟩
end
theorem eq_dd {a b : V} {da db : PyData} (ra : Rd C σ a da) (rb : Rd C σ b db) (ha : SeqAt.shaped da = true) (hb : SeqAt.shaped db = true) (hu : A.units + 64 < cLine) (h : Q (.bool (PyData.eqv da db)) σ) : WOp2 C A (compareOp .Eq) a b σ Q E := by
  refine ⟨?_⟩
  intro ad s x y hr rx ry
  obtain ⟨as, r1⟩ := ra.reads hr rx
  obtain ⟨bs, r2⟩ := rb.reads hr ry
  exact eq_dataH r1 r2 ha hb hu (PE.here (v := .bool _) hr rfl h)
theorem ne_dd {a b : V} {da db : PyData} (ra : Rd C σ a da) (rb : Rd C σ b db) (ha : SeqAt.shaped da = true) (hb : SeqAt.shaped db = true) (hu : A.units + 64 < cLine) (h : Q (.bool (!PyData.eqv da db)) σ) : WOp2 C A (compareOp .NotEq) a b σ Q E := by
  refine ⟨?_⟩
  intro ad s x y hr rx ry
  obtain ⟨as, r1⟩ := ra.reads hr rx
  obtain ⟨bs, r2⟩ := rb.reads hr ry
  exact ne_dataH r1 r2 ha hb hu (PE.here (v := .bool _) hr rfl h)

/- new objects -/
theorem HR.alloc {ad : List Addr} {h : Heap} {o : O} {ob : Obj} (hr : HR C ad σ h) (ro : RO C.w.params ad o ob) : HR C (ad ++ [h.objs.size]) (σ ++ [o]) (h.push ob) := by
  have hf := ro.notFreed
  obtain ⟨hG, hn⟩ := hr.fresh (Nat.le_refl _)
  refine ⟨hr.ok, fun b x e => Heap.get?_push_of_some _ (hr.keep b x e), by simp [hr.len], ?_, ?_, fun a ha => (List.mem_append.mp ha).elim (hr.low a) (fun hm => by rw [List.mem_singleton.mp hm]; exact hr.freshLow (Nat.le_refl _)), ?_⟩
  · refine List.nodup_append.mpr ⟨hr.nd, by simp, ?_⟩
    intro a ha b hb e
    simp only [List.mem_singleton] at hb
    subst hb; subst e; exact hn ha
  · intro a ha
    rcases List.mem_append.mp ha with ha | ha
    · exact hr.off a ha
    · simp only [List.mem_singleton] at ha; subst ha; exact hG
  · intro i x a h1 h2
    by_cases hi : i < σ.length
    · rw [List.getElem?_append_left hi] at h1
      rw [List.getElem?_append_left (by rw [hr.len]; exact hi)] at h2
      obtain ⟨ob', h3, h4⟩ := hr.obj i x a h1 h2
      exact ⟨ob', Heap.get?_push_of_some _ h3, h4.mono⟩
    · have hi' : i = σ.length := by
        have := (List.getElem?_eq_some_iff.mp h1).1
        simp at this; omega
      subst hi'
      rw [List.getElem?_append_right (Nat.le_refl _)] at h1
      rw [List.getElem?_append_right (by rw [hr.len]; exact Nat.le_refl _)] at h2
      simp [hr.len] at h1 h2
      subst h1; subst h2
      exact ⟨ob, Heap.get?_push_size _ hf, ro.mono⟩
theorem Nx.alloc {ad : List Addr} {s : Shared} {o : O} {ob : Obj} (hr : HR C ad σ s.heap) (ro : RO C.w.params ad o ob) : Nx C [] ad s (ad ++ [s.heap.objs.size]) (σ ++ [o]) { s with heap := s.heap.push ob } :=
  ⟨⟨_, s.toks, rfl⟩, ⟨[s.heap.objs.size], rfl, by simp⟩, by simp [Heap.push], fun b x e _ _ => Heap.get?_push_of_some _ e, hr.alloc ro⟩
theorem RV.last {ad : List Addr} {a : Addr} : ∀ {n : Nat}, n = ad.length → RV (ad ++ [a]) (.ref n) (.ref a) := by rintro n rfl; exact ⟨a, by simp, rfl⟩

theorem WE_List {es : List Expr} {pos : Pos} (h : WL C A env es ρ σ (fun vs σ1 => vs.length ≤ sizeLine ∧ Q (.ref σ1.length) (σ1 ++ [.list vs])) E) : WE C A env (.List es pos) ρ σ Q E := by
  refine ⟨?_⟩
  intro ad s hr er
  refine List_ (wpAny_mono (h.run ad s pos hr er) ?_ fun _ _ x => x)
  rintro us s1 ⟨ad1, σ1, vs, n1, r1, hz, h1⟩
  refine wpAny_newObj_type ?_ (by show us.toArray.size ≤ sizeLine; rw [List.size_toArray, ← r1.length]; exact hz)
  exact PE.trans n1 ⟨_, _, .ref σ1.length, Nx.alloc n1.hr (o := .list vs) ⟨_, _, rfl, by simpa using r1⟩, RV.last n1.hr.len.symm, h1⟩
theorem WE_Tuple {es : List Expr} {k : Nat} {pos : Pos} (h : WL C A env es ρ σ (fun vs σ1 => vs.length ≤ sizeLine ∧ Q (.ref σ1.length) (σ1 ++ [.tuple vs])) E) : WE C A env (.Tuple es k pos) ρ σ Q E := by
  refine ⟨?_⟩
  intro ad s hr er
  refine Tuple_ (wpAny_mono (h.run ad s pos hr er) ?_ fun _ _ x => x)
  rintro us s1 ⟨ad1, σ1, vs, n1, r1, hz, h1⟩
  refine wpAny_newObj_type ?_ (by show us.toArray.size ≤ sizeLine; rw [List.size_toArray, ← r1.length]; exact hz)
  exact PE.trans n1 ⟨_, _, .ref σ1.length, Nx.alloc n1.hr (o := .tuple vs) ⟨_, _, rfl, by simpa using r1⟩, RV.last n1.hr.len.symm, h1⟩

/- items -/
def isSliceE : Expr → Bool
  | .Slice .. => true
  | _ => false
theorem slice_not {e : Expr} (h : isSliceE e = false) (o i : Value) : subscripted e false o i = operate [o, i] (getItem o i) := by
  cases e <;> first | rfl | cases h
structure WSub (C : Cx) (A : Around) (value slice : Expr) (a b : V) (σ : AH) (Q : V → AH → Prop) (E : EX) : Prop where
  run : ∀ ad s x y, HR C ad σ s.heap → RV ad a x → RV ad b y → wpAny (model C.prog C.w) A (subscriptTail value slice x y) (PE C ad s Q) E s
theorem WE_Sub {value slice : Expr} {pos : Pos} (h : WE C A env value ρ σ (fun a σ1 => WE C A env slice ρ σ1 (fun b σ2 => WSub C A value slice a b σ2 Q E) E) E) : WE C A env (.Subscript value slice pos) ρ σ Q E := by
  refine ⟨?_⟩
  intro ad s hr er
  refine Subscript_ (wpAny_mono (h.run ad s hr er) ?_ fun _ _ x => x)
  rintro a s1 ⟨ad1, σ1, va, n1, r1, h1⟩
  refine wpAny_mono (h1.run ad1 s1 n1.hr (er.next n1)) ?_ fun _ _ x => x
  rintro b s2 ⟨ad2, σ2, vb, n2, r2, h2⟩
  exact wpAny_mono (h2.run ad2 s2 a b n2.hr (n2.rv r1) r2) (fun u s' p => PE.trans (n1.trans n2) p) fun _ _ x => x
theorem item_list {value slice : Expr} {v : V} {xs : List V} {k : Int} {x : V} (b : ObjAt C σ v (.list xs)) (h0 : 0 ≤ k) (hf : k < 2 ^ 63) (hx : xs[k.toNat]? = some x) (h : Q x σ)
    (hs : isSliceE slice = false := by rfl) : WSub C A value slice v (.int k) σ Q E := by
  refine ⟨?_⟩
  rintro ad s y z hr rv ⟨t, rfl⟩
  obtain ⟨a, vs, rfl, hl, rvs⟩ := b.list hr rv
  obtain ⟨u, hu, ru⟩ := rvs.get hx
  exact tail_any hl.typeIs slot_list_getitem.lookup (wpAny_getItem_list hl h0 hf (by rw [← Array.getElem?_toList]; exact hu) (PE.here hr ru h)) (slice_not hs _ _)
theorem item_tuple {value slice : Expr} {v : V} {xs : List V} {k : Int} {x : V} (b : ObjAt C σ v (.tuple xs)) (h0 : 0 ≤ k) (hf : k < 2 ^ 63) (hx : xs[k.toNat]? = some x) (h : Q x σ)
    (hs : isSliceE slice = false := by rfl) : WSub C A value slice v (.int k) σ Q E := by
  refine ⟨?_⟩
  rintro ad s y z hr rv ⟨t, rfl⟩
  obtain ⟨a, vs, rfl, hl, rvs⟩ := b.tup hr rv
  obtain ⟨u, hu, ru⟩ := rvs.get hx
  obtain ⟨o, ho, hc, n, hd⟩ := id hl
  have hlen : k.toNat < vs.size := by
    have := (List.getElem?_eq_some_iff.mp hu).1
    simpa using this
  exact tail_any ⟨o, ho, hc⟩ F.slot_tuple_getitem.lookup (getItem_tuple ⟨o, ho, hc, n, hd⟩ (by omega) hf (j := k.toNat) (by simp [seqIndex?]; omega) (by rw [← Array.getElem?_toList]; exact hu) (PE.here hr ru h)) (slice_not hs _ _)
end
end Mine

-- part Aw7
set_option autoImplicit false
set_option linter.unusedVariables false
namespace Mine
open PySem PySem.W PyProof.Rows

def Callable (C : Cx) (v : Value) : Prop := ∀ h, (∀ b o, C.G.get? b = some o → h.get? b = some o) → ∃ k, (k = Keeper.frame ∨ k = Keeper.machine ∨ k = Keeper.boundFrame) ∧ Looks (model C.prog C.w) h (keeperOf v) k
theorem callable_builtin {C : Cx} {id : String} : Callable C (.builtin id) := fun h _ => ⟨.machine, .inr (.inl rfl), Looks.of_pure rfl⟩
theorem callable_type {C : Cx} {id : String} : Callable C (.type id) := fun h _ => ⟨.machine, .inr (.inl rfl), Looks.of_pure rfl⟩
theorem callable_K {C : Cx} {K : Frag} {v : Value} (X : K.In C.G) (hk : keepIn K v = true) : Callable C v := fun h k => keeps_K hk h (X.keeps k)

structure WM (C : Cx) (A : Around) (v : V) (name : Str) (σ : AH) (K : Value → List V → AH → Prop) (E : EX) : Prop where
  run : ∀ ad (s : Shared) x pl, HR C ad σ s.heap → RV ad v x → wpAny (model C.prog C.w) A (getMethod x name pl) (fun fx s' => ∃ ad' σ' first, Nx C [] ad s ad' σ' s' ∧ RVs ad' first fx.2 ∧ K fx.1 first σ') E s

section
variable {C : Cx} {A : Around} {env : Env} {ρ : Loc} {σ : AH} {E : EX} {Q : V → AH → Prop}

theorem RVs.append {ad : List Addr} {a b : List V} {x y : List Value} (h : RVs ad a x) (h' : RVs ad b y) : RVs ad (a ++ b) (x ++ y) := by
  induction h with
  | nil => exact h'
  | cons r _ ih => exact .cons r ih

theorem star_cases (es : List Expr) (env : Env) : es = [] ∨ ∃ e r, es = e :: r := by
  cases es with
  | nil => exact .inl rfl
  | cons e r => exact .inr ⟨e, r, rfl⟩

/-- no starred argument -/
def noStar : List Expr → Bool
  | [] => true
  | .Starred _ _ :: _ => false
  | _ :: r => noStar r
theorem noStar_cons {e : Expr} {r : List Expr} (env : Env) (h : noStar (e :: r) = true) : starEach (e :: r) env = (false, eval e env) :: starEach r env ∧ noStar r = true := by
  cases e <;> first | exact ⟨rfl, h⟩ | cases h
theorem noStar_any {pos : Pos} : ∀ {es : List Expr} (env : Env), noStar es = true → (backTo pos (starEach es env)).any (·.1) = false
  | [], _, _ => rfl
  | e :: r, env, h => by
    obtain ⟨h1, h2⟩ := noStar_cons env h
    rw [h1]
    show (false || (backTo pos (starEach r env)).any (·.1)) = false
    rw [noStar_any env h2]; rfl

theorem callWith_gen {f : Value} {fs : List Value} {args : List Expr} {pos : Pos} {s : Shared} {P : Value → Shared → Prop} (hc : Callable C f) (hns : noStar args = true)
    (go : wpAny (model C.prog C.w) A (spliced (backTo pos (starEach args env))) (fun vs s' => (∀ b o, C.G.get? b = some o → s'.heap.get? b = some o) ∧ wpAny (model C.prog C.w) A (call f (fs ++ vs) []) P E s') E s) :
    wpAny (model C.prog C.w) A (callWith pos f fs (backTo pos (starEach args env)) []) P E s := by
  refine callWith_of (P := fun h => ∀ b o, C.G.get? b = some o → h.get? b = some o) (by rw [noStar_any env hns]; rfl) (fun h k => hc h k) ?_
  cases args with
  | nil =>
    have go' : wpAny (model C.prog C.w) A (spliced []) (fun vs s' => (∀ b o, C.G.get? b = some o → s'.heap.get? b = some o) ∧ wpAny (model C.prog C.w) A (call f (fs ++ vs) []) P E s') E s := go
    show wpAny (model C.prog C.w) A (evalArgs f true [] []) _ E s
    unfold evalArgs
    show wpAny _ A (spliced [] >>= _) _ E s
    refine wpAny_bind (wpAny_mono go' (fun vs s' h' => wpAny_bind (wpAny_pure ?_)) fun _ _ x => x)
    refine wpAny_holding ?_
    exact wpAny_bind (wpAny_pure (wpAny_pure h'))
  | cons e r =>
    obtain ⟨h1, h2⟩ := noStar_cons env hns
    rw [h1] at go ⊢
    exact Calls.evalArgs_plain go
theorem callWith_go {f : Value} {first : List V} {fs : List Value} {args : List Expr} {pos : Pos} {ad : List Addr} {s : Shared} (hc : Callable C f) (hns : noStar args = true) (hr : HR C ad σ s.heap) (er : ER C env ρ ad s.heap) (rf : RVs ad first fs)
    (h : WL C A env args ρ σ (fun vs σ2 => WC C A f (first ++ vs) σ2 Q E) E) : wpAny (model C.prog C.w) A (callWith pos f fs (backTo pos (starEach args env)) []) (PE C ad s Q) E s := by
  refine callWith_gen hc hns (wpAny_mono (h.run ad s pos hr er) ?_ fun _ _ x => x)
  rintro us s1 ⟨ad1, σ1, vs, n1, r1, h1⟩
  exact ⟨n1.hr.keep, wpAny_mono (h1.run ad1 s1 _ n1.hr ((n1.rvs rf).append r1)) (fun u s' p => PE.trans n1 p) fun _ _ x => x⟩

theorem WE_call {C : Cx} {l : List (Str × Value)} {id : Str} {p pos : Pos} {args : List Expr} {f : Value} (hx : (id, f) ∈ l) (hc : Callable C f) (h : WL (C.wg l) A env args ρ σ (fun vs σ2 => WC (C.wg l) A f vs σ2 Q E) E) (hns : noStar args = true := by rfl) :
    WE (C.wg l) A env (.Call (.Name id p) args [] pos) ρ σ Q E := by
  refine ⟨?_⟩
  intro ad s hr er
  refine wpAny_Call_Name_kw ?_
  have := (WE_glob (C := C) (A := A) (env := env) (ρ := ρ) (σ := σ) (E := E) (pos := p) (Q := fun v σ1 => v = .k f ∧ σ1 = σ) hx ⟨rfl, rfl⟩).run ad s hr er
  refine wpAny_mono this ?_ fun _ _ x => x
  rintro u s1 ⟨ad1, σ1, v, n1, r1, rfl, rfl⟩
  cases r1
  refine wpAny_mono (callWith_go (first := []) (fs := []) hc hns n1.hr (er.next n1) .nil h) (fun u s' p => PE.trans n1 p) fun _ _ x => x
def plainBase : Expr → Bool
  | .Call .. => false
  | _ => true
theorem noStar_all {pos : Pos} : ∀ {es : List Expr} (env : Env), noStar es = true → (backTo pos (starEach es env)).all (!·.1) = true
  | [], _, _ => rfl
  | e :: r, env, h => by
    obtain ⟨h1, h2⟩ := noStar_cons env h
    rw [h1]
    show (true && (backTo pos (starEach r env)).all (!·.1)) = true
    rw [noStar_all env h2]; rfl
theorem meth_eval {o : Expr} {name : Str} {apos pos : Pos} {args : List Expr} {env : Env} (h1 : plainBase o = true) (h2 : noStar args = true) (h3 : Nat.ble args.length 28 = true) (h4 : (apos.endLine == pos.line) = true) :
    ∃ pl, eval (.Call (.Attribute o name apos) args [] pos) env = (do
      let ov ← eval o env
      standAt apos.atName
      let (f, first) ← holding [ov] (getMethod ov name pl)
      callWith pos f first (backTo pos (starEach args env)) (backToKw pos (keywordEach [] env))) := by
  refine ⟨(do return (← importBound o env).getD true), ?_⟩
  rw [arm_eval_Call]
  have e1 : attributeBase o name env (eval o env) = eval o env := by cases o <;> first | rfl | cases h1
  have e2 : methodCallForm (args.length + ([] : List Keyword).length) (backTo pos (starEach args env)) (backToKw pos (keywordEach [] env)) = true := by
    unfold methodCallForm
    rw [noStar_all env h2]
    have := Nat.le_of_ble_eq_true h3
    simp [backToKw, keywordEach]
    omega
  rw [e1]
  unfold methodCall calleeOf methodCallPos
  rw [e2, h4]
  rfl
theorem WE_meth {o : Expr} {name : Str} {apos pos : Pos} {args : List Expr} (h : WE C A env o ρ σ (fun v σ1 => WM C A v name σ1 (fun f first σ2 => Callable C f ∧ WL C A env args ρ σ2 (fun vs σ3 => WC C A f (first ++ vs) σ3 Q E) E) E) E) (h1 : plainBase o = true := by rfl) (hns : noStar args = true := by rfl)
    (h3 : Nat.ble args.length 28 = true := by rfl) (h4 : (apos.endLine == pos.line) = true := by rfl) :
    WE C A env (.Call (.Attribute o name apos) args [] pos) ρ σ Q E := by
  refine ⟨?_⟩
  intro ad s hr er
  obtain ⟨pl, he⟩ := meth_eval (o := o) (name := name) (env := env) h1 hns h3 h4
  refine methodCall_KW (pl := pl) ?_ he
  refine wpAny_mono (h.run ad s hr er) ?_ fun _ _ x => x
  rintro u s1 ⟨ad1, σ1, v, n1, r1, h1⟩
  refine wpAny_mono (h1.run ad1 s1 u pl n1.hr r1) ?_ fun _ _ x => x
  rintro fx s2 ⟨ad2, σ2, first, n2, r2, hc, h2⟩
  exact wpAny_mono (callWith_go hc hns n2.hr ((er.next n1).next n2) r2 h2) (fun u s' p => PE.trans (n1.trans n2) p) fun _ _ x => x

/- the heap's objects changed -/
theorem HR.set {ad : List Addr} {h h' : Heap} {j : Nat} {a : Addr} {o : O} {ob : Obj} (hr : HR C ad σ h) (hj : ad[j]? = some a) (hs : Heap.SameBut a h h') (ho : h'.get? a = some ob) (ro : RO C.w.params ad o ob) : HR C ad (σ.set j o) h' := by
  refine ⟨hr.ok, fun b x e => (hs.2 b ?_).trans (hr.keep b x e), by simp [hr.len], hr.nd, hr.off, hr.low, fun i x b h1 h2 => ?_⟩
  · rintro rfl; rw [hr.off b (List.mem_of_getElem? hj)] at e; cases e
  · by_cases hij : i = j
    · subst hij
      rw [hj] at h2; cases h2
      have hl : i < σ.length := by have := (List.getElem?_eq_some_iff.mp h1).1; simpa using this
      rw [List.getElem?_set_self hl] at h1; cases h1
      exact ⟨ob, ho, ro⟩
    · rw [List.getElem?_set_ne (Ne.symm hij)] at h1
      obtain ⟨ob', h3, h4⟩ := hr.obj i x b h1 h2
      refine ⟨ob', (hs.2 b ?_).trans h3, h4⟩
      rintro rfl
      exact hij ((List.getElem?_inj (List.getElem?_eq_some_iff.mp h2).1 hr.nd).mp (h2.trans hj.symm))
theorem Nx.set {ad : List Addr} {s : Shared} {h' : Heap} {tk : Nat} {j : Nat} {a : Addr} {o : O} {ob : Obj} (hr : HR C ad σ s.heap) (hj : ad[j]? = some a) (hs : Heap.SameBut a s.heap h') (ho : h'.get? a = some ob) (ro : RO C.w.params ad o ob) :
    Nx C [] ad s ad (σ.set j o) { s with heap := h', toks := tk } :=
  ⟨⟨h', tk, rfl⟩, ⟨[], by simp, by simp⟩, Nat.le_of_eq hs.1.symm, fun b x e hb _ => (hs.2 b fun e' => hb (e' ▸ List.mem_of_getElem? hj)).trans e, hr.set hj hs ho ro⟩

/- list.append -/
theorem WM_append {j : Nat} {xs : List V} {K : Value → List V → AH → Prop} (b : σ[j]? = some (.list xs)) (h : K (.builtin "list.append") [.ref j] σ) : WM C A (.ref j) "append" σ K E := by
  refine ⟨?_⟩
  rintro ad s x pl hr ⟨a, ha, rfl⟩
  obtain ⟨ob, h1, vs, n, e2, h2⟩ := hr.obj j _ a b ha
  subst e2
  exact Calls.getMethod_list_append h1 rfl rfl ⟨ad, σ, [.ref j], Nx.refl hr, .cons ⟨a, ha, rfl⟩ .nil, h⟩
theorem WC_append {j : Nat} {xs : List V} {x : V} (b : σ[j]? = some (.list xs)) (hz : xs.length ≤ sizeLine) (h : Q .none (σ.set j (.list (xs ++ [x])))) : WC C A (.builtin "list.append") [.ref j, x] σ Q E := by
  refine ⟨?_⟩
  rintro ad s us hr (_ | ⟨⟨a, ha, rfl⟩, _ | ⟨r2, _ | _⟩⟩)
  obtain ⟨ob, h1, vs, n, e2, rvs⟩ := hr.obj j _ a b ha
  subst e2
  refine wpAny_list_append_plain ⟨n, h1⟩ (fun h' hp hs => ?_) (by rw [← Array.length_toList, ← rvs.length]; exact hz)
  obtain ⟨n', h3⟩ := hp
  exact ⟨ad, _, .none, Nx.set (o := .list (xs ++ [x])) hr ha hs h3 ⟨_, n', rfl, by rw [Array.toList_push]; exact rvs.append (.cons r2 .nil)⟩, rfl, h⟩

/- built-ins -/
theorem WC_len {v : V} {xs : List V} (b : ObjAt C σ v (.list xs)) (hz : (xs.length : Int) < 2 ^ 63) (h : Q (.int xs.length) σ) : WC C A (.builtin "len") [v] σ Q E := by
  refine ⟨?_⟩
  rintro ad s us hr (_ | ⟨rv, _ | _⟩)
  obtain ⟨a, vs, rfl, hl, rvs⟩ := b.list hr rv
  have e : vs.size = xs.length := by rw [← Array.length_toList, ← rvs.length]
  exact Calls.call_len_list hl (by rw [e]; exact hz) (PE.tok (v := .int xs.length) _ hr ⟨_, by rw [e]⟩ h)
theorem WC_min {i j : Int} (hA : A.handled = none) (h : Q (.int (min i j)) σ) : WC C A (.builtin "min") [.int i, .int j] σ Q E := by
  refine ⟨?_⟩
  rintro ad s us hr (_ | ⟨⟨t, rfl⟩, _ | ⟨⟨u, rfl⟩, _ | _⟩⟩)
  refine wpAny_sz (min_two_ints hA fun h' tk hk hz => ⟨ad, σ, .int (min i j), Nx.keeps hz hr hk, ?_, h⟩)
  by_cases hij : j < i
  · rw [if_pos hij]; exact ⟨u, by rw [Int.min_eq_right (Int.le_of_lt hij)]⟩
  · rw [if_neg hij]; exact ⟨t, by rw [Int.min_eq_left (Int.not_lt.mp hij)]⟩
theorem WC_max {i j : Int} (hA : A.handled = none) (h : Q (.int (max i j)) σ) : WC C A (.builtin "max") [.int i, .int j] σ Q E := by
  refine ⟨?_⟩
  rintro ad s us hr (_ | ⟨⟨t, rfl⟩, _ | ⟨⟨u, rfl⟩, _ | _⟩⟩)
  refine wpAny_sz (max_two_ints hA fun h' tk hk hz => ⟨ad, σ, .int (max i j), Nx.keeps hz hr hk, ?_, h⟩)
  by_cases hij : j > i
  · rw [if_pos hij]; exact ⟨u, by rw [Int.max_eq_right (Int.le_of_lt hij)]⟩
  · rw [if_neg hij]; exact ⟨t, by rw [Int.max_eq_left (Int.not_lt.mp hij)]⟩

/- tuples taken apart -/
structure WAsL (C : Cx) (A : Around) (env : Env) (ts : List Expr) (vs : List V) (ρ : Loc) (σ : AH) (Q : Loc → AH → Prop) (E : EX) : Prop where
  run : ∀ ad (s : Shared) us, HR C ad σ s.heap → ER C env ρ ad s.heap → RVs ad vs us →
    wpAny (model C.prog C.w) A (assignInOrder ((assignEach ts env).map (·.2)) us) (fun _ s' => ∃ ad' σ' ρ', Nx C (fa env) ad s ad' σ' s' ∧ ER C env ρ' ad' s'.heap ∧ Q ρ' σ') E s
theorem WAsL_nil {Q : Loc → AH → Prop} (h : Q ρ σ) : WAsL C A env [] [] ρ σ Q E := by
  refine ⟨?_⟩
  rintro ad s us hr er ⟨⟩
  exact wpAny_pure ⟨ad, σ, ρ, Nx.refl hr, er, h⟩
theorem WAsL_cons {t : Expr} {ts : List Expr} {v : V} {vs : List V} {Q : Loc → AH → Prop} (h : WAs C A env t v ρ σ (fun ρ1 σ1 => WAsL C A env ts vs ρ1 σ1 Q E) E)
    (he : starE t = false := by rfl) : WAsL C A env (t :: ts) (v :: vs) ρ σ Q E := by
  refine ⟨?_⟩
  rintro ad s us hr er (_ | ⟨r, rs⟩)
  rw [assign_not he]
  show wpAny _ A (assignInOrder (assign t env :: _) (_ :: _)) _ E s
  unfold assignInOrder
  refine wpAny_bind (wpAny_holding (wpAny_mono (h.run ad s _ hr er r) ?_ fun _ _ x => x))
  rintro _ s1 ⟨ad1, σ1, ρ1, n1, er1, h1⟩
  refine wpAny_mono (h1.run ad1 s1 _ n1.hr er1 (n1.rvs rs)) ?_ fun _ _ x => x
  rintro _ s2 ⟨ad2, σ2, ρ2, n2, er2, h2⟩
  exact ⟨ad2, σ2, ρ2, n1.trans n2, er2, h2⟩
theorem noStar_asg {e : Expr} {r : List Expr} (env : Env) (h : noStar (e :: r) = true) : assignEach (e :: r) env = (false, assign e env) :: assignEach r env ∧ noStar r = true := by
  cases e <;> first | exact ⟨rfl, h⟩ | cases h
theorem noStar_len (env : Env) : ∀ {ts : List Expr}, noStar ts = true → (assignEach ts env).length = ts.length
  | [], _ => rfl
  | e :: r, h => by
    obtain ⟨h1, h2⟩ := noStar_asg env h
    rw [h1, List.length_cons, List.length_cons, noStar_len env h2]
theorem noStar_idx (env : Env) : ∀ {ts : List Expr}, noStar ts = true → (assignEach ts env).findIdx? (·.1) = none
  | [], _ => rfl
  | e :: r, h => by
    obtain ⟨h1, h2⟩ := noStar_asg env h
    rw [h1, List.findIdx?_cons, noStar_idx env h2]; rfl
theorem WAs_tuple {ts : List Expr} {k : Nat} {p : Pos} {v : V} {vs : List V} {Q : Loc → AH → Prop} (hA : A.handled = none) (b : ObjAt C σ v (.tuple vs)) (h : WAsL C A env ts vs ρ σ Q E)
    (hn : ts.length = vs.length := by rfl) (hst : noStar ts = true := by rfl) : WAs C A env (.Tuple ts k p) v ρ σ Q E := by
  refine ⟨?_⟩
  intro ad s u hr er rv
  obtain ⟨a, us, rfl, hl, rvs⟩ := b.tup hr rv
  rw [arm_assign_Tuple]
  refine wpAny_bind (wpAny_standAt ?_)
  unfold unpack
  have e : (assignEach ts env).length = us.size := by rw [noStar_len env hst, hn, ← Array.length_toList, ← rvs.length]
  rw [e, noStar_idx env hst]
  refine wpAny_bind (wpAny_holding (wpAny_sz (wpAny_unpackItems_tuple hA hl fun h' he hz => ?_)))
  have hk : ∀ b o, s.heap.get? b = some o → h'.get? b = some o := fun b o e => he b o (Nat.ne_of_lt (Heap.lt_size e)) e
  have n1 : Nx C [] ad s ad σ { s with heap := h' } := Nx.keeps (tk := s.toks) hz hr hk
  refine wpAny_mono (h.run ad _ _ n1.hr (er.next n1) rvs) ?_ fun _ _ x => x
  rintro _ s2 ⟨ad2, σ2, ρ2, n2, er2, h2⟩
  exact ⟨ad2, σ2, ρ2, n1.weak.trans n2, er2, h2⟩
def isTupE : Expr → Bool
  | .Tuple .. => true
  | _ => false
theorem stores_not {ts : List Expr} {k : Nat} {p : Pos} {e : Expr} {env : Env} (h : isTupE e = false) : swappedStores [.Tuple ts k p] e env = pure none := by
  cases e <;> first | rfl | cases h
theorem WS_assign_tuple {ts : List Expr} {k : Nat} {p pos : Pos} {e : Expr} {Q : Fl → Loc → AH → Prop} (h : WE C A env e ρ σ (fun v σ1 => WAs C A env (.Tuple ts k p) v ρ σ1 (fun ρ' σ' => Q .next ρ' σ') E) E)
    (hs : isCompE e = false := by rfl) (hw : isTupE e = false := by rfl) : WS C A env (.Assign [.Tuple ts k p] e pos) ρ σ Q E := by
  refine ⟨?_⟩
  intro ad s hr er
  refine Assign_Tuple (wpAny_mono (h.run ad s hr er) ?_ fun _ _ x => x) (show swapsWith e (some (.Tuple ts k p)) pos.line env = pure false from swaps_not hs) (stores_not hw)
  rintro u s1 ⟨ad1, σ1, v, n1, r1, h1⟩
  refine wpAny_mono (h1.run ad1 s1 u n1.hr (er.next n1) r1) ?_ fun _ _ x => x
  rintro _ s2 ⟨ad2, σ2, ρ2, n2, er2, h2⟩
  exact ⟨ad2, σ2, ρ2, .next, n1.weak.trans n2, er2, rfl, h2⟩
theorem WS_expr {e : Expr} {pos : Pos} {Q : Fl → Loc → AH → Prop} (h : WE C A env e ρ σ (fun v σ1 => Q .next ρ σ1) E) (hs : isCompE e = false := by rfl) : WS C A env (.Expr e pos) ρ σ Q E := by
  refine ⟨?_⟩
  intro ad s hr er
  refine wpAny_Expr_any (wpAny_mono (h.run ad s hr er) ?_ fun _ _ x => x) (by unfold interactive; rw [er.kind]; rfl) (swaps_not hs)
  rintro u s1 ⟨ad1, σ1, v, n1, r1, h1⟩
  exact PS.ofE er n1 (fl := .next) rfl h1
/- ranges -/
theorem rangeWk {I : Addr} {a c : Int} {n : Nat} {ad0 : List Addr} (hA : A.handled = none) : Wk C A ad0 I n (fun i => .int (a + i * c)) (fun _ => True) (fun i h => IsRangeIter h I (a + (i : Nat) * c) ((n : Int) - (i : Nat)) c) := by
  refine ⟨?_, ?_, ?_, ?_, fun i s Q E st hQ => wpAny_pyIter_rangeiter st hQ, ?_⟩
  · intro i h h' st e
    show h'.get? I = _
    rw [e]; exact st
  · intro i h st; exact ⟨_, st⟩
  · intro i ad σ' s Q E' hi _ hr _ st hQ
    refine wpAny_pyNext_range_item st (by omega) fun h' hit' hs' => ?_
    refine hQ _ h' _ ⟨_, rfl⟩ ?_ hs'
    have e1 : a + ((i + 1 : Nat) : Int) * c = a + (i : Int) * c + c := by push_cast; rw [Int.add_mul, Int.one_mul, Int.add_assoc]
    have e2 : (n : Int) - ((i + 1 : Nat) : Int) = (n : Int) - (i : Int) - 1 := by push_cast; omega
    rw [e1, e2]; exact hit'
  · intro ad σ' s Q E' _ hr _ st hQ
    exact wpAny_pyNext_range_end hA st (by omega) fun h' he' => hQ h' s.toks fun b o hb e => he' b o hb e
  · intro i s t u Q E' st hq
    exact notOwned st rfl hq
open Builtin.Range (rangeSize) in
/-- range's arguments -/
def rngArgs : List V → Option (Int × Int × Int)
  | [.int b] => some (0, b, 1)
  | [.int a, .int b] => some (a, b, 1)
  | [.int a, .int b, .int c] => some (a, b, c)
  | _ => none
theorem rng_small {a b c : Int} (ha : -(2 ^ 60) ≤ a ∧ a ≤ 2 ^ 60) (hb : -(2 ^ 60) ≤ b ∧ b ≤ 2 ^ 60) (hc : c ≠ 0) (hc' : -(2 ^ 30) < c ∧ c < 2 ^ 30) : Builtin.Range.small a b c = true := by
  have h1 : (0 ≤ Builtin.Range.rangeSize a b c ∧ Builtin.Range.rangeSize a b c ≤ 2 ^ 62) := by
    unfold Builtin.Range.rangeSize
    have d1 : ∀ x y : Int, 0 ≤ x → 0 < y → 0 ≤ x / y ∧ x / y ≤ x := fun x y hx hy => ⟨Int.ediv_nonneg hx (Int.le_of_lt hy), Int.ediv_le_self _ hx⟩
    split
    · split
      · have := d1 (b - a - 1) c (by omega) (by omega); omega
      · omega
    · split
      · have := d1 (a - b - 1) (-c) (by omega) (by omega); omega
      · omega
  unfold Builtin.Range.small Builtin.Range.rangeFitsLong
  simp only [Bool.and_eq_true, decide_eq_true_eq, Bool.or_eq_true, beq_iff_eq]
  refine ⟨⟨⟨⟨by omega, by omega⟩, by omega⟩, by omega⟩, .inr ?_⟩
  split
  · simp only [Bool.and_eq_true, decide_eq_true_eq]; omega
  · simp only [Bool.and_eq_true, decide_eq_true_eq]; omega
theorem WItr_range {C : Cx} {l : List (Str × Value)} {id : Str} {p pos : Pos} {args : List Expr} {K : Nat → (Nat → V) → (AH → Prop) → AH → Prop} (hA : A.handled = none) (hf : (id, Value.type "range") ∈ l)
    (h : WL (C.wg l) A env args ρ σ (fun vs σ1 => ∃ a b c, rngArgs vs = some (a, b, c) ∧ c ≠ 0 ∧ (-(2 ^ 60) ≤ a ∧ a ≤ 2 ^ 60) ∧ (-(2 ^ 60) ≤ b ∧ b ≤ 2 ^ 60) ∧ (-(2 ^ 30) < c ∧ c < 2 ^ 30) ∧ K (Builtin.Range.rangeSize a b c).toNat (fun i => .int (a + i * c)) (fun _ => True) σ1) E)
    (hns : noStar args = true := by rfl) : WItr (C.wg l) A env (.Call (.Name id p) args [] pos) ρ σ K E := by
  refine ⟨?_⟩
  intro ad s hr er
  refine wpAny_Call_Name_kw ?_
  have := (WE_glob (C := C) (A := A) (env := env) (ρ := ρ) (σ := σ) (E := E) (pos := p) (Q := fun v σ1 => v = .k (.type "range") ∧ σ1 = σ) hf ⟨rfl, rfl⟩).run ad s hr er
  refine wpAny_mono this ?_ fun _ _ x => x
  rintro u s1 ⟨ad1, σ1, v, n1, r1, rfl, rfl⟩
  cases r1
  refine callWith_gen (callable_type (C := C.wg l)) hns (wpAny_mono (h.run ad1 s1 pos n1.hr (er.next n1)) ?_ fun _ _ x => x)
  rintro us s2 ⟨ad2, σ2, vs, n2, r2, a, b, c, hv, hc0, ha, hb, hc, hk⟩
  refine ⟨n2.hr.keep, ?_⟩
  have n12 := n1.trans n2
  have sm := rng_small ha hb hc0 hc
  have fin : ∀ (s3 : Shared) (t u v : Tok), s3 = { s2 with heap := s2.heap.push { cls := .type "range", data := .fields #[.int a t, .int b u, .int c v] }, toks := s3.toks } →
      wpAny (model C.prog C.w) A (pyIter (.ref s2.heap.objs.size)) (fun it s2 => ∃ ad' σ' n P Cd I St, it = .ref I ∧ Wk (C.wg l) A ad' I n P Cd St ∧ St 0 s2.heap ∧ s.heap.objs.size ≤ I ∧ I ∉ ad' ∧ Nx (C.wg l) [] ad s ad' σ' s2 ∧ K n P Cd σ') E s3 := by
    intro s3 t u v e3
    have hh : s3.heap = s2.heap.push { cls := .type "range", data := .fields #[.int a t, .int b u, .int c v] } := by rw [e3]
    have n3 : Nx (C.wg l) [] ad2 s2 ad2 σ2 s3 := by rw [e3]; exact Nx.keeps (by simp [Heap.push]) n2.hr fun b o e => Heap.get?_push_of_some _ e
    refine wpAny_pyIter_range (t := t) (u := u) (v := v) (by rw [hh]; exact Heap.get?_push_size _ rfl) sm ?_
    have hsz : s.heap.objs.size ≤ s3.heap.objs.size := Nat.le_trans n12.size n3.size
    have h0 : 0 ≤ Builtin.Range.rangeSize a b c := by
      unfold Builtin.Range.rangeSize
      split
      · split
        · have := Int.ediv_nonneg (a := b - a - 1) (b := c) (by omega) (by omega); omega
        · omega
      · split
        · have := Int.ediv_nonneg (a := a - b - 1) (b := -c) (by omega) (by omega); omega
        · omega
    refine ⟨ad2, σ2, _, _, _, s3.heap.objs.size, _, rfl, rangeWk (a := a) (c := c) (n := (Builtin.Range.rangeSize a b c).toNat) hA, ?_, hsz, (n3.hr.fresh (Nat.le_refl _)).2, (n12.trans n3).trans (Nx.push _ n3.hr), hk⟩
    show (s3.heap.push _).get? _ = _
    rw [Heap.get?_push_size _ rfl]
    have e1 : ((Builtin.Range.rangeSize a b c).toNat : Int) = Builtin.Range.rangeSize a b c := Int.toNat_of_nonneg h0
    simp [e1]
  show wpAny _ A (call (.type "range") us) _ E s2
  have three : (∃ b', vs = [.int b'] ∧ (0, b', 1) = (a, b, c)) ∨ (∃ a' b', vs = [.int a', .int b'] ∧ (a', b', 1) = (a, b, c)) ∨ vs = [.int a, .int b, .int c] := by
    unfold rngArgs at hv
    split at hv
    · exact .inl ⟨_, rfl, Option.some.inj hv⟩
    · exact .inr (.inl ⟨_, _, rfl, Option.some.inj hv⟩)
    · cases hv; exact .inr (.inr rfl)
    · cases hv
  rcases three with ⟨b', rfl, e⟩ | ⟨a', b', rfl, e⟩ | rfl
  · cases e
    rcases r2 with _ | ⟨⟨t, rfl⟩, _ | _⟩
    exact call_range_1 (fin _ _ _ _ rfl)
  · cases e
    rcases r2 with _ | ⟨⟨t, rfl⟩, _ | ⟨⟨t', rfl⟩, _ | _⟩⟩
    exact call_range_2 (fin _ _ _ _ rfl)
  · rcases r2 with _ | ⟨⟨t, rfl⟩, _ | ⟨⟨t', rfl⟩, _ | ⟨⟨t'', rfl⟩, _ | _⟩⟩⟩
    exact call_range_3 hc0 (fin _ _ _ _ rfl) (.inl (PyProof.noPylong_small (by omega)))
end
end Mine

-- part Aw8
set_option autoImplicit false
set_option linter.unusedVariables false
namespace Mine
open PySem PySem.W PyProof.Rows

theorem szAnd {n : Nat} {P : Prop} (h : P) (hn : n ≤ sizeLine := by exact Nat.le_of_ble_eq_true rfl) : n ≤ sizeLine ∧ P := ⟨hn, h⟩
theorem ite_b {b : Bool} {P Q : Prop} (h1 : b = true → P) (h2 : b = false → Q) : if b = true then P else Q := by
  cases b with
  | true => exact h1 rfl
  | false => exact h2 rfl
theorem mul_small {a b : Int} (h1 : -(2 ^ 63) ≤ a) (h2 : a ≤ 2 ^ 63) : IntMulOk a b := IntMulOk.of_left (intBits_le_64 (by omega) (by omega))
theorem mul_small_r {a b : Int} (h1 : -(2 ^ 63) ≤ b) (h2 : b ≤ 2 ^ 63) : IntMulOk a b := IntMulOk.of_right (intBits_le_64 (by omega) (by omega))
theorem RVs.ints {vs : List Value} {ns : List Int} (h : IntsAre vs ns) : RVs [] (ns.map .int) vs := by
  induction h with
  | nil => exact .nil
  | cons => exact .cons ⟨_, rfl⟩ (by assumption)

/-- from a law's call in the abstract to the claim -/
theorem bridge (l : OpenLaw) {C : Cx} {w : World} {s₁ : Shared} {args : List WData} {cl : Str → Option Addr} {mean : ExcName → Option Value} {f a : Addr} (hp : C.prog = l.row.prog) (hw : C.w = w) (hG : C.G = s₁.heap) (ok : C.Ok) (hg : s₁.gens = #[])
    (h : WC C callerA (.ref f) [.k (.ref a)] [] (fun v _ => v = .bool true) (fun _ _ => False)) :
    wpAny (model l.row.prog w) callerA (call (.ref f) [.ref a]) (fun v s' => GoodWG l.row.claim cl mean args s₁ (.ok (.ret v)) s') (fun e s' => GoodWG l.row.claim cl mean args s₁ (.error e) s') s₁ := by
  subst hw
  rw [← hp]
  have hr : HR C [] [] s₁.heap := ⟨ok, (fun b o e => by rw [← hG]; exact e), rfl, List.nodup_nil, (fun _ h => nomatch h), (fun _ h => nomatch h), (fun i o a h => by simp at h)⟩
  refine wpAny_mono (h.run [] s₁ [.ref a] hr (.cons rfl .nil)) ?_ fun _ _ x => x.elim
  rintro u s' ⟨ad', σ', v, n, rv, rfl⟩
  cases rv
  obtain ⟨h', tk, e⟩ := n.eq
  refine GoodW.toG ⟨.inl ⟨.bool true, .bool true, [], rfl, fun cls => rfl, .bool true, ?_, unshared_nil⟩, fun b o e => n.hr.keep b o (by rw [hG]; exact e), by rw [e], by rw [e]; exact hg⟩
  exact postW_of (r := l.row.toRowW) rfl (w_eq_bool (w_res rfl) w_lit) rfl
end Mine

-- part Aw9
set_option autoImplicit false
set_option linter.unusedVariables false
namespace Mine
open PySem PySem.W PyProof.Rows

theorem ite_t {c : Bool} {P Q : Prop} (hc : c = true) (h : P) : if c = true then P else Q := by rw [if_pos hc]; exact h
theorem ite_f {c : Bool} {P Q : Prop} (hc : c = false) (h : Q) : if c = true then P else Q := by rw [if_neg (by rw [hc]; decide)]; exact h

section
variable {C : Cx} {A : Around} {env : Env} {ρ : Loc} {σ : AH} {E : EX} {Q : V → AH → Prop}

theorem fdiv_ii {i j : Int} (hj : j ≠ 0) (h : Q (.int (i.fdiv j)) σ) (hs : j.natAbs < 1073741824 := by first | decide | omega) : WOp2 C A (binaryOp .FloorDiv) (.int i) (.int j) σ Q E := by
  refine ⟨?_⟩
  rintro ad s x y hr ⟨t, rfl⟩ ⟨u, rfl⟩
  exact floordiv_int hj (PE.tok (v := .int (i.fdiv j)) _ hr ⟨_, rfl⟩ h) (.inl (PyProof.noPylong_small hs))
theorem fdiv_lit {i j : Int} (hj : j ≠ 0 ∧ j.natAbs < 1073741824) (h : Q (.int (i.fdiv j)) σ) : WOp2 C A (binaryOp .FloorDiv) (.int i) (.int j) σ Q E := fdiv_ii hj.1 h hj.2
theorem WS_break {pos : Pos} {Q : Fl → Loc → AH → Prop} (h : Q .brk ρ σ) : WS C A env (.Break pos) ρ σ Q E := by
  refine ⟨?_⟩
  intro ad s hr er
  exact wpAny_Break ⟨ad, σ, ρ, .brk, Nx.refl hr, er, rfl, h⟩
theorem WS_continue {pos : Pos} {Q : Fl → Loc → AH → Prop} (h : Q .cont ρ σ) : WS C A env (.Continue pos) ρ σ Q E := by
  refine ⟨?_⟩
  intro ad s hr er
  exact wpAny_Continue ⟨ad, σ, ρ, .cont, Nx.refl hr, er, rfl, h⟩
theorem WC_abs {i : Int} (h : Q (.int (if i < 0 then -i else i)) σ) : WC C A (.builtin "abs") [.int i] σ Q E := by
  refine ⟨?_⟩
  rintro ad s us hr (_ | ⟨⟨t, rfl⟩, _ | _⟩)
  exact call_abs_int fun u tk => PE.tok (v := .int _) tk hr ⟨_, rfl⟩ h

/-- an item of a list that is written out where it is read: no object of the abstract heap -/
theorem WE_menu {es : List Expr} {slice : Expr} {lp pos : Pos} (h : WL C A env es ρ σ (fun vs σ1 => vs.length ≤ sizeLine ∧ WE C A env slice ρ σ1 (fun b σ2 => ∃ k x, b = .int k ∧ 0 ≤ k ∧ k < 2 ^ 63 ∧ vs[k.toNat]? = some x ∧ Q x σ2) E) E)
    (hs : isSliceE slice = false := by rfl) : WE C A env (.Subscript (.List es lp) slice pos) ρ σ Q E := by
  refine ⟨?_⟩
  intro ad s hr er
  refine Subscript_ (List_ (wpAny_mono (h.run ad s lp hr er) ?_ fun _ _ x => x))
  rintro us s1 ⟨ad1, σ1, vs, n1, r1, hz, h1⟩
  refine wpAny_newObj_type ?_ (by show us.toArray.size ≤ sizeLine; rw [List.size_toArray, ← r1.length]; exact hz)
  have n2 : Nx C [] ad1 s1 ad1 σ1 { s1 with heap := s1.heap.push { cls := .type "list", data := .seq us.toArray } } := Nx.push _ n1.hr
  have n12 := n1.trans n2
  refine wpAny_mono (h1.run ad1 _ n2.hr (er.next n12)) ?_ fun _ _ x => x
  rintro b s3 ⟨ad3, σ3, vb, n3, r3, k, x, rfl, h0, hk, hx, hq⟩
  obtain ⟨t, rfl⟩ := r3
  have hD := (n2.hr.fresh (a := s1.heap.objs.size))
  have hl : s3.heap.IsList s1.heap.objs.size us.toArray := by
    refine ⟨_, n3.same s1.heap.objs.size _ (Heap.get?_push_size _ rfl) ?_ (by simp), rfl, _, rfl⟩
    exact (n1.hr.fresh (Nat.le_refl _)).2
  obtain ⟨u, hu, ru⟩ := r1.get hx
  have n13 := n12.trans n3
  refine tail_any hl.typeIs slot_list_getitem.lookup (wpAny_getItem_list hl h0 hk (by simpa using hu) ⟨ad3, σ3, x, n13, n3.rv (n2.rv ru), hq⟩) (slice_not hs _ _)
end
end Mine

-- part Aw10
set_option autoImplicit false
set_option linter.unusedVariables false
namespace Mine
open PySem PySem.W PyProof.Rows PySem.SeqAt

section
variable {C : Cx} {A : Around} {env : Env} {ρ : Loc} {σ : AH} {E : EX} {Q : V → AH → Prop}

theorem shr_ii {i n : Int} (hn : 0 ≤ n) (h : Q (.int (i.fdiv (2 ^ n.toNat))) σ) : WOp2 C A (binaryOp .RShift) (.int i) (.int n) σ Q E := by
  refine ⟨?_⟩
  rintro ad s x y hr ⟨t, rfl⟩ ⟨u, rfl⟩
  exact rshift_int hn (PE.tok (v := .int (i.fdiv (2 ^ n.toNat))) _ hr ⟨_, rfl⟩ h)

/- in, not in -/
theorem nin_list_dd {a b : V} {da : PyData} {xs : List PyData} (ra : Rd C σ a da) (rb : Rd C σ b (.list xs)) (hb : SeqAt.shaped (PyData.list xs) = true) (ha : SeqAt.shaped da = true) (hu : A.units + 65 < cLine)
    (h : Q (.bool (!xs.any (fun y => PyData.eqv y da))) σ) : WOp2 C A (compareOp .NotIn) a b σ Q E := by
  refine ⟨?_⟩
  intro ad s x y hr rx ry
  obtain ⟨as, r1⟩ := ra.reads hr rx
  obtain ⟨bs, r2⟩ := rb.reads hr ry
  exact notIn_list_reads r2 r1 (canLay_of_shaped hb) (canLay_of_shaped ha) (room_in_shaped ha hu) (PE.here (v := .bool _) hr rfl h)
theorem in_tuple_dd {a b : V} {da : PyData} {xs : List PyData} (ra : Rd C σ a da) (rb : Rd C σ b (.tuple xs)) (hb : SeqAt.shaped (PyData.tuple xs) = true) (ha : SeqAt.shaped da = true) (hu : A.units + 65 < cLine)
    (h : Q (.bool (xs.any (fun y => PyData.eqv y da))) σ) : WOp2 C A (compareOp .In) a b σ Q E := by
  refine ⟨?_⟩
  intro ad s x y hr rx ry
  obtain ⟨as, r1⟩ := ra.reads hr rx
  obtain ⟨bs, r2⟩ := rb.reads hr ry
  exact in_tuple_reads r2 r1 (canLay_of_shaped hb) (canLay_of_shaped ha) (room_in_shaped ha hu) (PE.here (v := .bool _) hr rfl h)
theorem nin_tuple_dd {a b : V} {da : PyData} {xs : List PyData} (ra : Rd C σ a da) (rb : Rd C σ b (.tuple xs)) (hb : SeqAt.shaped (PyData.tuple xs) = true) (ha : SeqAt.shaped da = true) (hu : A.units + 65 < cLine)
    (h : Q (.bool (!xs.any (fun y => PyData.eqv y da))) σ) : WOp2 C A (compareOp .NotIn) a b σ Q E := by
  refine ⟨?_⟩
  intro ad s x y hr rx ry
  obtain ⟨as, r1⟩ := ra.reads hr rx
  obtain ⟨bs, r2⟩ := rb.reads hr ry
  exact notIn_tuple_reads r2 r1 (canLay_of_shaped hb) (canLay_of_shaped ha) (room_in_shaped ha hu) (PE.here (v := .bool _) hr rfl h)

/- an item of a dict of the top -/
theorem item_gdict {value slice : Expr} {K : Frag} {a : Addr} {es : Array DictEntry} {n : Nat} {x : Str} {v : Value} (X : K.In C.G) (hl : K.lookup a = some ⟨.type "dict", none, .dict es n, #[]⟩) (hk : KeysLit C.w.params es.toList)
    (e : nsIn K a x = some (some v)) (h : Q (.k v) σ) (hs : isSliceE slice = false := by rfl) : WSub C A value slice (.k (.ref a)) (.str x) σ Q E := by
  refine ⟨?_⟩
  rintro ad s y z hr rfl ⟨t, rfl⟩
  have hm := mapOf_K (prog := C.prog) (X.keeps hr.keep) hl hk
  exact tail_any hm.typeIs slot_dict_getitem.lookup (wpAny_getItem_of (strKind_is C.prog C.w x t) hm (find_K hl e) (PE.tok (v := .k v) _ hr rfl h)) (slice_not hs _ _)

/- slices of lists -/
def pickV {α : Type} (xs : List α) (lo hi st : Option Int) : List α :=
  (sliceRange (sliceBounds lo hi st xs.length).1 (sliceBounds lo hi st xs.length).2.1 (sliceBounds lo hi st xs.length).2.2).filterMap (xs[·]?)
theorem RVs.none_of {ad : List Addr} {v : List V} {x : List Value} (h : RVs ad v x) {i : Nat} (e : v[i]? = none) : x[i]? = none := by
  rw [List.getElem?_eq_none_iff] at e ⊢
  rw [← h.length]; exact e
theorem RVs.places {ad : List Addr} {v : List V} {x : List Value} (h : RVs ad v x) : ∀ js : List Nat, RVs ad (js.filterMap (v[·]?)) (js.filterMap (x[·]?))
  | [] => .nil
  | j :: js => by
    have ih := h.places js
    cases hn : v[j]? with
    | some n =>
      obtain ⟨u, hv, r⟩ := h.get hn
      simp only [List.filterMap_cons, hn, hv]
      exact .cons r ih
    | none =>
      simp only [List.filterMap_cons, hn, h.none_of hn]
      exact ih
theorem RVs.pick {ad : List Addr} {v : List V} {x : Array Value} (h : RVs ad v x.toList) (lo hi st : Option Int) : RVs ad (pickV v lo hi st) (slicePick x lo hi st).toList := by
  have e : (slicePick x lo hi st).toList = (sliceRange (sliceBounds lo hi st v.length).1 (sliceBounds lo hi st v.length).2.1 (sliceBounds lo hi st v.length).2.2).filterMap (x.toList[·]?) := by
    have := h.length
    simp only [Array.length_toList] at this
    simp [slicePick, this]
  rw [e]
  exact h.places _
theorem exInt {i : Int} {P : Int → Prop} (h : P i) : ∃ j, V.int i = V.int j ∧ P j := ⟨i, rfl, h⟩
theorem ObjAt.new {xs : O} : ∀ {n : Nat}, n = σ.length → ObjAt C (σ ++ [xs]) (.ref n) xs := by rintro n rfl; show (σ ++ [xs])[σ.length]? = _; simp
structure WO (C : Cx) (A : Around) (env : Env) (e : Option Expr) (ρ : Loc) (σ : AH) (Q : Option Int → AH → Prop) (E : EX) : Prop where
  run : ∀ ad (s : Shared), HR C ad σ s.heap → ER C env ρ ad s.heap → wpAny (model C.prog C.w) A (evalPart e env) (fun u s' => ∃ ad' σ' k, Nx C [] ad s ad' σ' s' ∧ IsPart u k ∧ Q k σ') E s
theorem WO_none {Q : Option Int → AH → Prop} (h : Q none σ) : WO C A env none ρ σ Q E := ⟨fun ad s hr er => wpAny_pure ⟨ad, σ, none, Nx.refl hr, .none, h⟩⟩
theorem WO_some {Q : Option Int → AH → Prop} {e : Expr} (h : WE C A env e ρ σ (fun v σ1 => ∃ i, v = .int i ∧ Q (some i) σ1) E) : WO C A env (some e) ρ σ Q E := by
  refine ⟨?_⟩
  intro ad s hr er
  rw [evalPart_some]
  refine wpAny_mono (h.run ad s hr er) ?_ fun _ _ x => x
  rintro u s1 ⟨ad1, σ1, v, n1, r1, i, rfl, h1⟩
  obtain ⟨t, rfl⟩ := r1
  exact ⟨ad1, σ1, some i, n1, .int _ _, h1⟩
theorem sub_ops (lo hi st : Option Expr) (p : Pos) (o i : Value) : ∃ ops, subscripted (.Slice lo hi st p) false o i = operate ops (getItem o i) := by
  cases st
  · exact ⟨[i, o], rfl⟩
  · exact ⟨[o, i], rfl⟩
theorem WE_slice {value : Expr} {lo hi st : Option Expr} {p pos : Pos} (h : WE C A env value ρ σ (fun v σ1 => WO C A env lo ρ σ1 (fun l σ2 => WO C A env hi ρ σ2 (fun u σ3 => WO C A env st ρ σ3 (fun k σ4 =>
      ∃ xs, ObjAt C σ4 v (.list xs) ∧ k ≠ some 0 ∧ xs.length ≤ sizeLine ∧ Q (.ref σ4.length) (σ4 ++ [.list (pickV xs l u k)])) E) E) E) E) : WE C A env (.Subscript value (.Slice lo hi st p) pos) ρ σ Q E := by
  refine ⟨?_⟩
  intro ad s hr er
  refine Subscript_ (wpAny_mono (h.run ad s hr er) ?_ fun _ _ x => x)
  rintro a s1 ⟨ad1, σ1, va, n1, r1, h1⟩
  refine wpAny_Slice (wpAny_mono (h1.run ad1 s1 n1.hr (er.next n1)) ?_ fun _ _ x => x)
  rintro l s2 ⟨ad2, σ2, kl, n2, p2, h2⟩
  refine wpAny_mono (h2.run ad2 s2 n2.hr ((er.next n1).next n2)) ?_ fun _ _ x => x
  rintro u s3 ⟨ad3, σ3, ku, n3, p3, h3⟩
  refine wpAny_mono (h3.run ad3 s3 n3.hr (((er.next n1).next n2).next n3)) ?_ fun _ _ x => x
  rintro k s4 ⟨ad4, σ4, kk, n4, p4, xs, hb, h0, hz, h4⟩
  have n14 := (n1.trans n2).trans (n3.trans n4)
  have n24 := n2.trans (n3.trans n4)
  obtain ⟨b, vs, rfl, hl, rvs⟩ := hb.list n4.hr (n24.rv r1)
  obtain ⟨ops, hops⟩ := sub_ops lo hi st p (.ref b) (.ref s4.heap.objs.size)
  have np := Nx.push (C := C) (s := s4) { cls := .type "slice", data := .fields #[l, u, k] } n4.hr
  refine tail_any (Heap.IsList.typeIs (s := { s4 with heap := s4.heap.push { cls := .type "slice", data := .fields #[l, u, k] } }) (hl.push _)) slot_list_getitem.lookup
    (wpAny_getItem_list_slice (hl.push _) (Heap.IsSliceOf.new ..) p2 p3 p4 h0 ?_ (by rw [← Array.length_toList, ← rvs.length]; exact hz)) hops
  have na := Nx.alloc (o := .list (pickV xs kl ku kk)) np.hr ⟨_, 0, rfl, rvs.pick kl ku kk⟩
  exact PE.trans (n14.trans np) ⟨_, _, .ref σ4.length, na, RV.last np.hr.len.symm, h4⟩

/- list(x) -/
theorem HR.adopt {ad : List Addr} {h h' : Heap} {o : O} {ob : Obj} {a : Addr} (hr : HR C ad σ h) (hk : ∀ b o, h.get? b = some o → h'.get? b = some o) (ha : h.objs.size ≤ a) (hn : h'.get? a = some ob) (ro : RO C.w.params ad o ob) : HR C (ad ++ [a]) (σ ++ [o]) h' := by
  obtain ⟨hG, hn'⟩ := hr.fresh ha
  refine ⟨hr.ok, fun b x e => hk _ _ (hr.keep b x e), by simp [hr.len], ?_, ?_, fun a1 ha1 => (List.mem_append.mp ha1).elim (hr.low a1) (fun hm => by rw [List.mem_singleton.mp hm]; exact hr.freshLow ha), ?_⟩
  · refine List.nodup_append.mpr ⟨hr.nd, by simp, ?_⟩
    intro a1 ha1 b1 hb1 e
    simp only [List.mem_singleton] at hb1
    subst hb1; subst e; exact hn' ha1
  · intro a1 ha1
    rcases List.mem_append.mp ha1 with ha1 | ha1
    · exact hr.off a1 ha1
    · simp only [List.mem_singleton] at ha1; subst ha1; exact hG
  · intro i x a1 h1 h2
    by_cases hi : i < σ.length
    · rw [List.getElem?_append_left hi] at h1
      rw [List.getElem?_append_left (by rw [hr.len]; exact hi)] at h2
      obtain ⟨ob', h3, h4⟩ := hr.obj i x a1 h1 h2
      exact ⟨ob', hk _ _ h3, h4.mono⟩
    · have hi' : i = σ.length := by
        have := (List.getElem?_eq_some_iff.mp h1).1
        simp at this; omega
      subst hi'
      rw [List.getElem?_append_right (Nat.le_refl _)] at h1
      rw [List.getElem?_append_right (by rw [hr.len]; exact Nat.le_refl _)] at h2
      simp [hr.len] at h1 h2
      subst h1; subst h2
      exact ⟨ob, hn, ro.mono⟩
theorem WC_list {v : V} {xs : List V} (b : ObjAt C σ v (.list xs)) (hz : xs.length ≤ sizeLine) (h : Q (.ref σ.length) (σ ++ [.list xs])) : WC C A (.type "list") [v] σ Q E := by
  refine ⟨?_⟩
  rintro ad s us hr (_ | ⟨rv, _ | _⟩)
  obtain ⟨a, vs, rfl, hl, rvs⟩ := b.list hr rv
  obtain ⟨o, ho, hc, n, hd⟩ := id hl
  refine wpAny_sz (call_list_seq a (.inl rfl) ho hc hd (fun h' c' hk hn hsz => ?_) (by rw [← Array.length_toList, ← rvs.length]; exact hz))
  have hnn := hr.fresh (Nat.le_refl _)
  refine ⟨ad ++ [s.heap.objs.size], σ ++ [.list xs], .ref σ.length, ⟨⟨h', s.toks, rfl⟩, ⟨[s.heap.objs.size], rfl, by simp⟩, hsz, fun b o e _ _ => hk b o e, ?_⟩, RV.last hr.len.symm, h⟩
  exact HR.adopt hr hk (Nat.le_refl _) hn ⟨vs, c', rfl, rvs⟩
end
end Mine

-- part Aw11
set_option autoImplicit false
set_option linter.unusedVariables false
namespace Mine
open PySem PySem.W PyProof.Rows

def relab (ns : List (Str × NameKind)) : List (Str × NameKind) := ns.map fun p => if p.2 == .free then (p.1, .cell) else p
def clOf (env : Env) : List (Str × NameKind) → List (Str × Addr) → List (Str × Addr)
  | [], cs => cs
  | p :: r, cs => clOf env r (if p.2 == .free then (p.1, (env.cells.lookup p.1).getD 0) :: cs else cs)
theorem closure_of {env : Env} {sc : Scope} (h : ∀ n, (n, NameKind.free) ∈ sc.names → (env.cells.lookup n).isSome = true) : closureFor sc env = pure (clOf env sc.names []) := by
  simp only [closureFor]
  generalize sc.names = ns at h ⊢
  generalize ([] : List (Str × Addr)) = cs
  induction ns generalizing cs with
  | nil => rfl
  | cons p r ih =>
    obtain ⟨n, k⟩ := p
    have ihr := fun cs => ih (fun n hn => h n (List.mem_cons_of_mem _ hn)) cs
    rw [List.forIn_cons]
    by_cases hk : (k == NameKind.free) = true
    · have hk' : k = .free := by simpa using hk
      subst hk'
      have hn := h n List.mem_cons_self
      obtain ⟨c, hc⟩ := Option.isSome_iff_exists.mp hn
      have e1 : cellOf env n = pure c := by unfold cellOf; rw [hc]
      rw [if_pos hk, e1]
      have := ihr ((n, c) :: cs)
      simpa [clOf, hc] using this
    · rw [if_neg hk]
      have := ihr cs
      simpa [clOf, hk] using this

theorem clOf_mem {env : Env} : ∀ {ns : List (Str × NameKind)} {cs : List (Str × Addr)}, (∀ n, (n, NameKind.free) ∈ ns → (env.cells.lookup n).isSome = true) → (∀ p ∈ cs, env.cells.lookup p.1 = some p.2) → ∀ p ∈ clOf env ns cs, env.cells.lookup p.1 = some p.2
  | [], _, _, h, p, hp => h p hp
  | q :: r, cs, h0, h, p, hp => by
    refine clOf_mem (ns := r) (fun n hn => h0 n (List.mem_cons_of_mem _ hn)) ?_ p hp
    obtain ⟨n, k⟩ := q
    split
    · rename_i hk
      have hk' : k = .free := by simpa using hk
      subst hk'
      obtain ⟨c, hc⟩ := Option.isSome_iff_exists.mp (h0 n List.mem_cons_self)
      intro p hp
      rcases List.mem_cons.mp hp with rfl | hp
      · simp [hc]
      · exact h p hp
    · exact h
theorem lookup_cons_isSome {α : Type} {y : Str} {p : Str × α} {cs : List (Str × α)} (h : (cs.lookup y).isSome = true) : ((p :: cs).lookup y).isSome = true := by
  rw [List.lookup_cons]
  split
  · rfl
  · exact h
theorem clOf_some {env : Env} {y : Str} : ∀ {ns : List (Str × NameKind)} {cs : List (Str × Addr)}, ((y, NameKind.free) ∈ ns ∨ (cs.lookup y).isSome = true) → ((clOf env ns cs).lookup y).isSome = true
  | [], _, h => by
    rcases h with h | h
    · cases h
    · exact h
  | q :: r, cs, h => by
    refine clOf_some (ns := r) ?_
    rcases h with h | h
    · rcases List.mem_cons.mp h with e | h
      · subst e; right; simp [List.lookup_cons]
      · exact .inl h
    · right
      split
      · exact lookup_cons_isSome h
      · exact h
theorem mem_of_lookup {α : Type} {y : Str} : ∀ {cs : List (Str × α)} {c : α}, cs.lookup y = some c → (y, c) ∈ cs
  | [], _, h => by cases h
  | (n, d) :: r, c, h => by
    rw [List.lookup_cons] at h
    split at h
    · rename_i e
      have : y = n := by simpa using e
      cases h; subst this; exact List.mem_cons_self
    · exact List.mem_cons_of_mem _ (mem_of_lookup h)
theorem relab_lookup {y : Str} : ∀ {ns : List (Str × NameKind)} {k : NameKind}, ns.lookup y = some k → (relab ns).lookup y = some (if k == .free then .cell else k)
  | [], _, h => by cases h
  | (n, d) :: r, k, h => by
    have ih := fun k => @relab_lookup y r k
    rw [List.lookup_cons] at h
    show List.lookup y ((if (d == NameKind.free) = true then (n, NameKind.cell) else (n, d)) :: relab r) = _
    by_cases hd : (d == NameKind.free) = true
    · rw [if_pos hd, List.lookup_cons]
      split at h
      · cases h; simp [*]
      · simp [*]
    · rw [if_neg hd, List.lookup_cons]
      split at h
      · cases h; simp [*]
      · simp [*]
/-- the comprehension's names are as wished -/
def compOk (onames : List (Str × NameKind)) (sc : Scope) (x : Str) (capt gl : List Str) : Bool :=
  sc.names.all (fun p => p.2 != .cell && (p.2 != .local || sc.names.lookup p.1 == some .local) && (p.2 != .free || (capt.contains p.1 && onames.lookup p.1 == some .cell)))
  && sc.names.lookup x == some .local && nmOk x && !capt.contains x
  && capt.all (fun y => nmOk y && sc.names.lookup y == some .free)
  && gl.all (fun y => nmOk y && sc.names.lookup y == some .globalImplicit)
structure CompOk (onames : List (Str × NameKind)) (sc : Scope) (x : Str) (capt gl : List Str) : Prop where
  nocell : ∀ y ∈ sc.names, y.2 ≠ .cell
  locs : ∀ y ∈ sc.names, y.2 = .local → sc.names.lookup y.1 = some .local
  free : ∀ n, (n, NameKind.free) ∈ sc.names → n ∈ capt ∧ onames.lookup n = some .cell
  xl : sc.names.lookup x = some .local
  xn : nmOk x = true
  xc : x ∉ capt
  cap : ∀ y ∈ capt, nmOk y = true ∧ sc.names.lookup y = some .free
  glo : ∀ y ∈ gl, nmOk y = true ∧ sc.names.lookup y = some .globalImplicit
theorem compOk.ok {onames : List (Str × NameKind)} {sc : Scope} {x : Str} {capt gl : List Str} (h : compOk onames sc x capt gl = true) : CompOk onames sc x capt gl := by
  unfold compOk at h
  simp only [Bool.and_eq_true, List.all_eq_true, Bool.or_eq_true, bne_iff_ne, beq_iff_eq, Bool.not_eq_true', List.contains_eq_mem, decide_eq_true_eq, decide_eq_false_iff_not] at h
  obtain ⟨⟨⟨⟨⟨h1, h2⟩, h3⟩, h4⟩, h5⟩, h6⟩ := h
  refine ⟨fun y hy => (h1 y hy).1.1, fun y hy e => ?_, fun n hn => ?_, h2, h3, h4, h5, h6⟩
  · exact ((h1 y hy).1.2).resolve_left fun h => h e
  · exact ((h1 _ hn).2).resolve_left fun h => h rfl

section
variable {C : Cx} {A : Around} {env : Env} {ρ : Loc} {σ : AH} {E : EX} {Q : V → AH → Prop}
theorem HR.own {ad : List Addr} {h : Heap} {o : O} {ob : Obj} {a : Addr} (hr : HR C ad σ h) (hn : h.get? a = some ob) (hG : C.G.get? a = none) (hn' : a ∉ ad) (hs : a ≠ sysModules) (ro : RO C.w.params ad o ob) : HR C (ad ++ [a]) (σ ++ [o]) h := by
  refine ⟨hr.ok, fun b x e => (hr.keep b x e), by simp [hr.len], ?_, ?_, fun a1 ha1 => (List.mem_append.mp ha1).elim (hr.low a1) (fun hm => by rw [List.mem_singleton.mp hm]; exact hs), ?_⟩
  · refine List.nodup_append.mpr ⟨hr.nd, by simp, ?_⟩
    intro a1 ha1 b1 hb1 e
    simp only [List.mem_singleton] at hb1
    subst hb1; subst e; exact hn' ha1
  · intro a1 ha1
    rcases List.mem_append.mp ha1 with ha1 | ha1
    · exact hr.off a1 ha1
    · simp only [List.mem_singleton] at ha1; subst ha1; exact hG
  · intro i x a1 h1 h2
    by_cases hi : i < σ.length
    · rw [List.getElem?_append_left hi] at h1
      rw [List.getElem?_append_left (by rw [hr.len]; exact hi)] at h2
      obtain ⟨ob', h3, h4⟩ := hr.obj i x a1 h1 h2
      exact ⟨ob', h3, h4.mono⟩
    · have hi' : i = σ.length := by
        have := (List.getElem?_eq_some_iff.mp h1).1
        simp at this; omega
      subst hi'
      rw [List.getElem?_append_right (Nat.le_refl _)] at h1
      rw [List.getElem?_append_right (by rw [hr.len]; exact Nat.le_refl _)] at h2
      simp [hr.len] at h1 h2
      subst h1; subst h2
      exact ⟨ob, hn, ro.mono⟩

/-- the tests of a comprehension -/
structure WIf (C : Cx) (A : Around) (env : Env) (r : Bool) (ifs : List Expr) (ρ : Loc) (σ : AH) (Q : Bool → AH → Prop) (E : EX) : Prop where
  run : ∀ ad (s : Shared), HR C ad σ s.heap → ER C env ρ ad s.heap → wpAny (model C.prog C.w) A (forIn ifs r fun c r => if r = true then do let ok ← isTrue c env (eval c env); pure (ForInStep.yield ok) else pure (ForInStep.yield r)) (PB C ad s Q) E s
theorem WIf_nil {r : Bool} {Q : Bool → AH → Prop} (h : Q r σ) : WIf C A env r [] ρ σ Q E := ⟨fun ad s hr er => wpAny_pure ⟨ad, σ, Nx.refl hr, h⟩⟩

theorem Nx.toWg {l l2 : List (Str × Value)} {ch ad ad' : List Addr} {σ' : AH} {s s' : Shared} (n : Nx (C.wg l2) ch ad s ad' σ' s') (ok : (C.wg l).Ok) : Nx (C.wg l) ch ad s ad' σ' s' :=
  ⟨n.eq, n.pre, n.size, n.same, ⟨ok, n.hr.keep, n.hr.len, n.hr.nd, n.hr.off, n.hr.low, n.hr.obj⟩⟩
theorem HR.toWg {l l2 : List (Str × Value)} {ad : List Addr} {h : Heap} (hr : HR (C.wg l) ad σ h) (hl : ∀ p ∈ l2, p ∈ l) : HR (C.wg l2) ad σ h :=
  ⟨⟨hr.ok.gob, hr.ok.g, hr.ok.b, fun x v hx => hr.ok.glo x v (hl _ hx), hr.ok.lim⟩, hr.keep, hr.len, hr.nd, hr.off, hr.low, hr.obj⟩

/-- the env within a comprehension -/
theorem comp_er {l l2 : List (Str × Value)} {onames : List (Str × NameKind)} {sc : Scope} {x : Str} {capt : Loc} {ad : List Addr} {h : Heap} {Cl : Addr} {m : Str → Option Value} {v : V} {u : Value} (hkn : Kn env onames)
    (ok : CompOk onames sc x (capt.map (·.1)) (l2.map (·.1))) (hkind : sc.kind = .function) (hnd : (capt.map (·.1)).Nodup) (hcap : ∀ p ∈ capt, p ∈ ρ) (er : ER (C.wg l) env ρ ad h)
    (hn : h.Ns Cl m) (hu : m x = some u) (rv : RV ad v u) (hG : C.G.get? Cl = none) (had : Cl ∉ ad) (hCl : Cl ∉ fa env) (hlt : Cl < h.objs.size) :
    ER (C.wg l2) (compEnvC sc (clOf env sc.names []) Cl env) ((x, some v) :: capt) ad h ∧ Kn (compEnvC sc (clOf env sc.names []) Cl env) (relab sc.names) := by
  have hcell : ∀ n, (n, NameKind.free) ∈ sc.names → env.kindOf n = some .cell := fun n hn => hkn n _ (ok.free n hn).2
  have hsome : ∀ n, (n, NameKind.free) ∈ sc.names → (env.cells.lookup n).isSome = true := by
    intro n hn
    obtain ⟨p, hp, rfl⟩ := List.mem_map.mp (ok.free n hn).1
    rcases er.kd p.1 p.2 (hcap p hp) with e | ⟨_, e⟩
    · rw [hcell _ hn] at e; cases e
    · exact e
  have hmem := clOf_mem (env := env) (ns := sc.names) (cs := []) hsome (by simp)
  have hlk : ∀ y c, (clOf env sc.names []).lookup y = some c → env.cells.lookup y = some c := fun y c e => hmem (y, c) (mem_of_lookup e)
  have relabE : (relabel sc env).names = relab sc.names := by
    show List.map _ _ = List.map _ _
    refine List.map_congr_left fun p hp => ?_
    obtain ⟨n, k⟩ := p
    by_cases hk : (k == NameKind.free) = true
    · have hk' : k = .free := by simpa using hk
      subst hk'
      simp [hcell n hp, er.kind]
    · simp [hk]
  have kn : Kn (compEnvC sc (clOf env sc.names []) Cl env) (relab sc.names) := by
    intro y k e
    show (relabel sc env).names.lookup y = _
    rw [relabE]; exact e
  have kf : ∀ y ∈ capt.map (·.1), (compEnvC sc (clOf env sc.names []) Cl env).kindOf y = some .cell := fun y hy => kn y _ (relab_lookup (ok.cap y hy).2)
  refine ⟨⟨hkind, er.glob, er.blt, ?_, ?_, ⟨m, hn, ?_⟩, ?_, ?_, ?_, ?_, ?_, ?_, ?_⟩, kn⟩
  · exact List.nodup_cons.mpr ⟨ok.xc, hnd⟩
  · intro y w hy
    rcases List.mem_cons.mp hy with e | hy
    · cases e; exact .inl (kn x _ (relab_lookup ok.xl))
    · have hy' : y ∈ capt.map (·.1) := List.mem_map.mpr ⟨_, hy, rfl⟩
      exact .inr ⟨.inl (kf y hy'), clOf_some (.inl (mem_of_lookup (ok.cap y hy').2))⟩
  · intro y w hy hk
    rcases List.mem_cons.mp hy with e | hy
    · cases e; exact ⟨u, hu, rv⟩
    · rw [kf y (List.mem_map.mpr ⟨_, hy, rfl⟩)] at hk; cases hk
  · intro y c hc
    obtain ⟨o, w, h1, h2, h3⟩ := er.cell y c (hlk y c hc)
    refine ⟨o, w, h1, h2, fun z hz hk => ?_⟩
    rcases List.mem_cons.mp hz with e | hz
    · cases e; exact absurd (kn x _ (relab_lookup ok.xl)) hk
    · refine h3 z (hcap _ hz) ?_
      have := hcell y (mem_of_lookup (ok.cap y (List.mem_map.mpr ⟨_, hz, rfl⟩)).2)
      rw [this]; decide
  · intro y z c h1 h2
    exact er.cinj y z c (hlk _ _ h1) (hlk _ _ h2)
  · intro y c hc e
    refine hCl ?_
    rw [← show c = Cl from e]
    exact mem_cells (hlk y c hc)
  · intro a ha
    rcases List.mem_cons.mp ha with e | ha
    · subst e; exact ⟨hG, had⟩
    · obtain ⟨p, hp, rfl⟩ := List.mem_map.mp ha
      exact er.off _ (mem_cells (hmem p hp))
  · intro a ha
    rcases List.mem_cons.mp ha with e | ha
    · subst e; exact hlt
    · obtain ⟨p, hp, rfl⟩ := List.mem_map.mp ha
      exact er.lt _ (mem_cells (hmem p hp))
  · intro y w hy
    rcases List.mem_cons.mp hy with e | hy
    · cases e; exact ok.xn
    · exact (ok.cap y (List.mem_map.mpr ⟨_, hy, rfl⟩)).1
  · intro y w hy
    have := ok.glo y (List.mem_map.mpr ⟨_, hy, rfl⟩)
    exact ⟨kn y _ (relab_lookup this.2), this.1⟩
end
end Mine

-- part Aw12
set_option autoImplicit false
set_option linter.unusedVariables false
namespace Mine
open PySem PySem.W PyProof.Rows

section
variable {C : Cx} {A : Around} {env : Env} {ρ : Loc} {σ : AH} {E : EX} {Q : V → AH → Prop}
theorem adr_ne {a b : Nat} (h : a < b ∨ b < a) : @Ne Addr a b := by
  intro e
  have e' : (a : Nat) = b := e
  omega
theorem nlt {a b : Addr} (h : a < b) : @LT.lt Nat instLTNat a b := h
theorem Nx.touch {ad ad' : List Addr} {σ' : AH} {s2 s' : Shared} {I : Addr} {h' : Heap} {tk : Nat} (n : Nx C [I] ad s2 ad' σ' s') (hr' : HR C ad' σ' h') (hz : s'.heap.objs.size ≤ h'.objs.size)
    (hk : ∀ b o, b ≠ I → b < s2.heap.objs.size → s'.heap.get? b = some o → h'.get? b = some o) : Nx C [I] ad s2 ad' σ' { s' with heap := h', toks := tk } := by
  obtain ⟨h1, t1, e1⟩ := n.eq
  refine ⟨⟨h', tk, by rw [e1]⟩, n.pre, Nat.le_trans n.size hz, fun b o e hb hc => ?_, hr'⟩
  exact hk b o (by simpa using hc) (Heap.lt_size e) (n.same b o e hb hc)
theorem ER.keep {ad ad' : List Addr} {s : Shared} {h' : Heap} (r : ER C env ρ ad s.heap) (hp : ∃ nw, ad' = ad ++ nw ∧ ∀ a ∈ nw, s.heap.objs.size ≤ a) (keep : ∀ b ∈ fa env, ∀ o, s.heap.get? b = some o → h'.get? b = some o) (hz : s.heap.objs.size ≤ h'.objs.size) : ER C env ρ ad' h' := by
  obtain ⟨nw, rfl, hnw⟩ := hp
  refine ⟨r.kind, r.glob, r.blt, r.nd, r.kd, ?_, ?_, r.cinj, r.cl, ?_, fun b hb => Nat.lt_of_lt_of_le (r.lt b hb) hz, r.nm, r.gk⟩
  · obtain ⟨m, hm, h⟩ := r.m
    refine ⟨m, hm.at' fun o e => keep _ (by simp [fa]) o e, fun x v hx hk => ?_⟩
    obtain ⟨u, h1, h2⟩ := h x v hx hk
    exact ⟨u, h1, h2.mono⟩
  · intro x c hc
    obtain ⟨o, w, h1, h2, h3⟩ := r.cell x c hc
    refine ⟨o, w, keep c (mem_cells hc) o h1, h2, fun v hv hk => ?_⟩
    obtain ⟨u, h4, h5⟩ := h3 v hv hk
    exact ⟨u, h4, h5.mono⟩
  · intro a ha
    refine ⟨(r.off a ha).1, fun hm => ?_⟩
    rcases List.mem_append.mp hm with hm | hm
    · exact (r.off a ha).2 hm
    · exact absurd (r.lt a ha) (Nat.not_lt.mpr (hnw a hm))

theorem comp_core {l l2 : List (Str × Value)} {onames : List (Str × NameKind)} {sc : Scope} {x : Str} {px : Pos} {elt iter : Expr} {ifs : List Expr} {pos : Pos} {capt : Loc} {ad : List Addr} {s2 : Shared} {I : Addr} {n : Nat} {P : Nat → V} {Cd : AH → Prop}
    {St : Nat → Heap → Prop} {RR : Value → Addr → Result → Shared → Prop} {Inv : Nat → List V → AH → Prop}
    (hkn : Kn env onames) (ok : CompOk onames sc x (capt.map (·.1)) (l2.map (·.1))) (hkind : sc.kind = .function) (hnd : (capt.map (·.1)).Nodup) (hcap : ∀ p ∈ capt, p ∈ ρ) (hl2 : ∀ p ∈ l2, p ∈ l)
    (hr : HR (C.wg l) ad σ s2.heap) (er : ER (C.wg l) env ρ ad s2.heap) (wk : Wk (C.wg l) A ad I n P Cd St) (st0 : St 0 s2.heap) (hI : I ∉ ad) (hIfa : I ∉ fa env) (hIG : C.G.get? I = none) (hsz : n ≤ sizeLine) (inv0 : Inv 0 [] σ)
    (turn : ∀ i acc σ', i < n → Inv i acc σ' → Cd σ' ∧ ∀ cenv, Kn cenv (relab sc.names) → WIf (C.wg l2) A cenv true ifs ((x, some (P i)) :: capt) σ'
      (fun b σ2 => if b = true then WE (C.wg l2) A cenv elt ((x, some (P i)) :: capt) σ2 (fun v σ3 => Inv (i + 1) (acc ++ [v]) σ3) (fun _ _ => False) else Inv (i + 1) acc σ2) (fun _ _ => False))
    (hcd : ∀ acc σ', Inv n acc σ' → Cd σ')
    (hRR : ∀ D Cl ad' σ' vs s' m, s'.heap.Ns Cl m → s2.heap.objs.size ≤ Cl → Cl ∉ ad' → Nx (C.wg l) [I] ad s2 ad' (σ' ++ [.list vs]) s' → RV ad' (.ref σ'.length) (.ref D) → Inv n vs σ' → RR (.ref D) Cl (.ok .next) s') :
    wpAny (model C.prog C.w) A (newList []) (fun acc s3 => wpAny (model C.prog C.w) A (newFunctionEnv sc env.globals (clOf env sc.names []) [] env.qual none .none (some env)) (fun cenv s4 =>
      codeAny (model C.prog C.w) A (.compStart (.ListComp elt [⟨.Name x px, iter, ifs, 0⟩] sc pos) 0 (.ref I) acc { cenv with scope := relabel sc env }) (RR acc cenv.locals) s4) E s3) E s2 := by
  refine wpAny_newObj_type (wpAny_newFunctionEnv ok.nocell (by intro y hy; simp at hy) (fun h1 hns1 hsb1 => ?_) hkind)
  dsimp only at hns1 hsb1 ⊢
  generalize hH2 : s2.heap.push { cls := .type "list", dict := none, data := .seq ([] : List Value).toArray } = H2 at hns1 hsb1 ⊢
  have hC : H2.objs.size = s2.heap.objs.size + 1 := by rw [← hH2, Heap.size_push]
  have hDC : s2.heap.objs.size ≠ H2.objs.size := by omega
  have old : ∀ b o, s2.heap.get? b = some o → h1.get? b = some o := fun b o e => hsb1.extBut b o (adr_ne (.inl (by have := nlt (Heap.lt_size e); omega))) (Heap.get?_push_of_some _ (hH2 ▸ Heap.get?_push_of_some _ e))
  have hacc : h1.PlainList s2.heap.objs.size #[] := ⟨_, hsb1.extBut _ _ hDC (Heap.get?_push_of_some _ (hH2 ▸ Heap.get?_push_size _ rfl))⟩
  have hz1 : s2.heap.objs.size + 2 ≤ h1.objs.size := by
    have := hsb1.1
    rw [Heap.size_push] at this
    omega
  obtain ⟨oI, hoI⟩ := wk.ex _ _ st0
  have hIlt := nlt (Heap.lt_size hoI)
  have fD := hr.fresh (Nat.le_refl s2.heap.objs.size)
  have fC := hr.fresh (a := H2.objs.size) (by omega)
  have hClfa : H2.objs.size ∉ fa env := fun hm => absurd (er.lt _ hm) (Nat.not_lt.mpr (by omega))
  have st1 : St 0 h1 := wk.own _ _ _ st0 ((old I oI hoI).trans hoI.symm)
  have n1 : ∀ t, Nx (C.wg l) [I] ad s2 ad σ { s2 with heap := h1, toks := t } := fun t => ⟨⟨h1, t, rfl⟩, ⟨[], by simp, by simp⟩, by show s2.heap.objs.size ≤ h1.objs.size; omega, fun b o e _ _ => old b o e, hr.keeps old⟩
  have loop : ∀ s3 : Shared, s3 = { s2 with heap := h1, toks := s2.toks + ([] : List (Str × Value)).length } →
      codeAny (model C.prog C.w) A (.compLoop (.ListComp elt [⟨.Name x px, iter, ifs, 0⟩] sc pos) 0 (.ref I) (.ref s2.heap.objs.size) (compEnvC sc (clOf env sc.names []) H2.objs.size env)) (RR (.ref s2.heap.objs.size) H2.objs.size) s3 := by
    rintro s3 rfl
    refine codeAny_compLoop_tests (fun k s' => ∃ i ad' σ' accV accU m', k = n - i ∧ i ≤ n ∧ Nx (C.wg l) [I] ad s2 ad' σ' s' ∧ s2.heap.objs.size ∉ ad' ∧ H2.objs.size ∉ ad' ∧ I ∉ ad' ∧ s'.heap.Ns H2.objs.size m' ∧ s'.heap.PlainList s2.heap.objs.size accU ∧
      RVs ad' accV accU.toList ∧ St i s'.heap ∧ Inv i accV σ' ∧ accV.length ≤ i) ?_ n ⟨0, ad, σ, [], #[], _, rfl, Nat.zero_le _, n1 _, fD.2, fC.2, hI, hns1, hacc, .nil, st1, inv0, Nat.le_refl _⟩
    rintro k s' ⟨i, ad', σ', accV, accU, m', rfl, hi, n3, hD', hC', hI', hns', hpl', rvs', st', inv', hlen'⟩
    have neI : ∀ b o, C.G.get? b = some o ∨ b ∈ ad' → b ≠ I := by
      rintro b o (e | e) rfl
      · rw [hIG] at e; cases e
      · exact hI' e
    have neC : ∀ b o, C.G.get? b = some o ∨ b ∈ ad' → b ≠ H2.objs.size := by
      rintro b o (e | e) rfl
      · rw [fC.1] at e; cases e
      · exact hC' e
    have neD : ∀ b o, C.G.get? b = some o ∨ b ∈ ad' → b ≠ s2.heap.objs.size := by
      rintro b o (e | e) rfl
      · rw [fD.1] at e; cases e
      · exact hD' e
    by_cases hlt : i < n
    · obtain ⟨cd, tb⟩ := turn i accV σ' hlt inv'
      refine wk.item i ad' σ' s' _ _ hlt (let ⟨nw, p, _⟩ := n3.pre; ⟨nw, p⟩) n3.hr cd st' fun u h' tk ru st'' hsb => ?_
      refine wpAny_assign_Name (wpAny_storeName_local (lookup_relabel_local ok.xl) (hns'.at' fun o e => hsb.extBut _ o (adr_ne (.inr (by omega))) e) (fun h2 hn2 hs2 => ?_) (by simp [compEnvC, relabel, hkind]))
      have k2 : ∀ b o, b ≠ I → b ≠ H2.objs.size → s'.heap.get? b = some o → h2.get? b = some o := fun b o h1 h2 e => hs2.extBut b o h2 (hsb.extBut b o h1 e)
      have hr4 : HR (C.wg l) ad' σ' h2 := n3.hr.same fun b o hb e => k2 b o (neI b o hb) (neC b o hb) e
      have hz4 : s'.heap.objs.size = h2.objs.size := by
        have a1 := hsb.1
        have a2 := hs2.1
        simp only at a2
        omega
      have er4 : ER (C.wg l) env ρ ad' h2 := er.keep n3.pre (fun b hb o e => k2 b o (fun e' => hIfa (e' ▸ hb)) (fun e' => hClfa (e' ▸ hb)) (n3.same b o e (er.off b hb).2 (by simp; rintro rfl; exact hIfa hb))) (by have := n3.size; omega)
      obtain ⟨erc, kn⟩ := comp_er (l2 := l2) hkn ok hkind hnd hcap er4 hn2 (u := u) (v := P i) (by simp) ru fC.1 hC' hClfa (by rw [← hz4]; exact hns'.lt)
      have st4 : St (i + 1) h2 := wk.own _ _ _ st'' (by
        obtain ⟨oI', hoI'⟩ := wk.ex _ _ st''
        rw [hoI']; exact hs2.extBut _ _ (adr_ne (b := H2.objs.size) (.inl (by omega))) hoI')
      have hpl4 : h2.PlainList s2.heap.objs.size accU := by
        obtain ⟨c, hc⟩ := hpl'
        exact ⟨c, k2 _ _ (adr_ne (.inr (by omega))) hDC hc⟩
      refine wpAny_mono ((tb _ kn).run ad' _ (hr4.toWg hl2) erc) ?_ fun _ _ f => f.elim
      rintro b s5 ⟨ad5, σ5, n5, h5⟩
      have n35 := fun t => (n3.touch (tk := t) hr4 (by omega) (fun b o h1 h2 e => k2 b o h1 (adr_ne (.inl (by have h2' := nlt h2; omega))) e))
      have done5 : ∀ (adN : List Addr) (σN : AH) (sN : Shared) t, Nx (C.wg l2) [] ad' { s' with heap := h2, toks := t } adN σN sN →
          Nx (C.wg l) [I] ad s2 adN σN sN ∧ s2.heap.objs.size ∉ adN ∧ H2.objs.size ∉ adN ∧ I ∉ adN ∧ sN.heap.Ns H2.objs.size (fun z => if z = x then some u else m' z) ∧ sN.heap.PlainList s2.heap.objs.size accU ∧ St (i + 1) sN.heap ∧ ∃ nw, adN = ad' ++ nw := by
        intro adN σN sN t nN
        have nN' := nN.toWg hr.ok
        obtain ⟨nw, p, q⟩ := nN.pre
        have notin : ∀ a, a ∉ ad' → a < h2.objs.size → a ∉ adN := by
          intro a h1 h2 hm
          rw [p] at hm
          rcases List.mem_append.mp hm with hm | hm
          · exact h1 hm
          · exact absurd (q a hm) (Nat.not_le.mpr h2)
        have hs3 := n3.size
        have hz3 : H2.objs.size < h2.objs.size := by rw [← hz4]; exact hns'.lt
        refine ⟨(n35 t).trans (nN'.wider (by simp)), notin _ hD' (Nat.lt_trans (show s2.heap.objs.size < H2.objs.size by omega) hz3), notin _ hC' hz3, notin _ hI' (Nat.lt_trans (Nat.lt_trans hIlt (show s2.heap.objs.size < H2.objs.size by omega)) hz3), hn2.at' fun o e => nN.same _ o e hC' (by simp), ?_, ?_, nw, p⟩
        · obtain ⟨c, hc⟩ := hpl4
          exact ⟨c, nN.same _ _ hc hD' (by simp)⟩
        · obtain ⟨oI', hoI'⟩ := wk.ex _ _ st4
          exact wk.own _ _ _ st4 ((nN.same _ _ hoI' hI' (by simp)).trans hoI'.symm)
      cases b with
      | false =>
        obtain ⟨a1, a2, a3, a4, a5, a6, a7, nw, a8⟩ := done5 ad5 σ5 s5 _ n5
        exact ⟨n - (i + 1), by omega, i + 1, ad5, σ5, accV, accU, _, rfl, hlt, a1, a2, a3, a4, a5, a6, by rw [a8]; exact rvs'.mono, a7, h5, by omega⟩
      | true =>
        have h5' : WE (C.wg l2) A _ elt ((x, some (P i)) :: capt) σ5 (fun v σ3 => Inv (i + 1) (accV ++ [v]) σ3) (fun _ _ => False) := h5
        refine wpAny_mono (h5'.run ad5 s5 n5.hr (erc.next n5)) ?_ fun _ _ f => f.elim
        rintro y s6 ⟨ad6, σ6, v, n6, r6, inv6⟩
        obtain ⟨a1, a2, a3, a4, a5, a6, a7, nw, a8⟩ := done5 ad6 σ6 s6 _ (n5.trans n6)
        refine wpAny_list_append_plain a6 (fun h' hp hs => ?_) (by rw [← Array.length_toList, ← rvs'.length]; omega)
        have hr7 : HR (C.wg l) ad6 σ6 h' := a1.hr.same fun b o hb e => hs.extBut b o (by
          rintro rfl
          rcases hb with e | e
          · have : C.G.get? s2.heap.objs.size = some o := e
            rw [fD.1] at this; cases this
          · exact a2 e) e
        refine ⟨n - (i + 1), by omega, i + 1, ad6, σ6, accV ++ [v], accU.push y, _, rfl, hlt, a1.touch hr7 (Nat.le_of_eq hs.1.symm) (fun b o h1 h2 e => hs.extBut b o (adr_ne (.inl (nlt h2))) e), a2, a3, a4, a5.at' fun o e => hs.extBut _ o (Ne.symm hDC) e, hp, ?_, ?_, inv6, by simp; omega⟩
        · rw [Array.toList_push, a8]
          exact rvs'.mono.append (.cons (a8 ▸ r6) .nil)
        · obtain ⟨oI', hoI'⟩ := wk.ex _ _ a7
          exact wk.own _ _ _ a7 ((hs.extBut _ _ (adr_ne (.inl (by omega))) hoI').trans hoI'.symm)
    · obtain rfl : i = n := by omega
      refine wpAny_sz (wk.done ad' σ' s' _ _ (let ⟨nw, p, _⟩ := n3.pre; ⟨nw, p⟩) n3.hr (hcd _ _ inv') st' fun h' tk hk hz => ?_)
      obtain ⟨c, hc⟩ := hpl'
      have hc' := hk _ _ (adr_ne (.inr (by omega))) hc
      have hr4 : HR (C.wg l) ad' σ' h' := n3.hr.same fun b o hb e => hk b o (neI b o hb) e
      have n4 := n3.touch (tk := tk) hr4 hz fun b o h1 _ e => hk b o h1 e
      have hr5 := HR.own (o := .list accV) hr4 hc' fD.1 hD' (hr.freshLow (Nat.le_refl _)) ⟨_, c, rfl, rvs'⟩
      have hlen : σ'.length = ad'.length := hr4.len.symm
      obtain ⟨nw, p, q⟩ := n3.pre
      refine hRR _ _ (ad' ++ [s2.heap.objs.size]) σ' accV _ m' (hns'.at' fun o e => hk _ o (adr_ne (.inr (by omega))) e) (show (s2.heap.objs.size : Nat) ≤ H2.objs.size by omega) ?_ ⟨n4.eq, ⟨nw ++ [s2.heap.objs.size], by rw [p, List.append_assoc], ?_⟩, n4.size, n4.same, hr5⟩ (RV.last hlen) inv'
      · intro hm
        rcases List.mem_append.mp hm with hm | hm
        · exact hC' hm
        · simp at hm; omega
      · intro a ha
        rcases List.mem_append.mp ha with ha | ha
        · exact q a ha
        · simp at ha; exact Nat.le_of_eq ha.symm
  exact codeAny_compStart_list (loop _ rfl) (wk.self 0 _ _ _ st1 (loop _ rfl))

theorem comp_closed {l l2 : List (Str × Value)} {onames : List (Str × NameKind)} {sc : Scope} {x : Str} {capt : Loc} {ad : List Addr} {h : Heap} (hkn : Kn env onames) (ok : CompOk onames sc x (capt.map (·.1)) (l2.map (·.1))) (hcap : ∀ p ∈ capt, p ∈ ρ) (er : ER (C.wg l) env ρ ad h) :
    closureFor sc env = pure (clOf env sc.names []) := by
  refine closure_of fun n hn => ?_
  obtain ⟨p, hp, rfl⟩ := List.mem_map.mp (ok.free n hn).1
  rcases er.kd p.1 p.2 (hcap p hp) with e | ⟨_, e⟩
  · rw [hkn _ _ (ok.free _ hn).2] at e; cases e
  · exact e
/-- what a comprehension asks -/
def CompGo (C : Cx) (A : Around) (l2 : List (Str × Value)) (sc : Scope) (x : Str) (ifs : List Expr) (elt : Expr) (capt : Loc) (K : List V → AH → Prop) (n : Nat) (P : Nat → V) (Cd : AH → Prop) (σ1 : AH) : Prop :=
  n ≤ sizeLine ∧ ∃ Inv : Nat → List V → AH → Prop, Inv 0 [] σ1 ∧ (∀ i acc σ' pv, i < n → P i = pv → Inv i acc σ' → Cd σ' ∧ ∀ cenv, Kn cenv (relab sc.names) → WIf (C.wg l2) A cenv true ifs ((x, some pv) :: capt) σ'
      (fun b σ2 => if b = true then WE (C.wg l2) A cenv elt ((x, some pv) :: capt) σ2 (fun v σ3 => Inv (i + 1) (acc ++ [v]) σ3) (fun _ _ => False) else Inv (i + 1) acc σ2) (fun _ _ => False)) ∧
    ∀ acc σ', Inv n acc σ' → Cd σ' ∧ K acc σ'
theorem WE_ListComp {l l2 : List (Str × Value)} {onames : List (Str × NameKind)} {sc : Scope} {x : Str} {px : Pos} {elt iter : Expr} {ifs : List Expr} {pos : Pos} {capt : Loc}
    (hkn : Kn env onames) (hok : compOk onames sc x (capt.map (·.1)) (l2.map (·.1)) = true) (hnd : (capt.map (·.1)).Nodup) (hcap : ∀ p ∈ capt, p ∈ ρ) (hl2 : ∀ p ∈ l2, p ∈ l)
    (h : WItr (C.wg l) A env iter ρ σ (CompGo C A l2 sc x ifs elt capt (fun acc σ' => Q (.ref σ'.length) (σ' ++ [.list acc]))) E)
    (hkind : sc.kind = .function := by rfl) (hs : isSetE iter = false := by rfl) : WE (C.wg l) A env (.ListComp elt [⟨.Name x px, iter, ifs, 0⟩] sc pos) ρ σ Q E := by
  refine ⟨?_⟩
  intro ad s hr er
  have ok := compOk.ok hok
  rw [eval_ListComp]
  refine wpAny_comprehension_free (use := none) rfl (folded_not hs) (comp_closed hkn ok hcap er) hkind ok.locs (wpAny_mono (h.run ad s hr er) (fun xv s1 h1 => wpAny_mono h1 ?_ fun _ _ e => e) fun _ _ e => e)
  rintro it s2 ⟨ad1, σ1, n, P, Cd, I, St, rfl, wk, st0, hI, hIad, n2, hsz, Inv, inv0, turn, fin⟩
  have er2 := er.next n2
  have hIfa : I ∉ fa env := fun hm => absurd (er.lt I hm) (Nat.not_lt.mpr hI)
  have hIG : C.G.get? I = none := (hr.fresh hI).1
  refine comp_core (C := C) (RR := fun acc Cl => compPost (model C.prog C.w) A E none (PE (C.wg l) ad s Q) acc Cl) hkn ok hkind hnd hcap hl2 n2.hr er2 wk st0 hIad hIfa hIG hsz inv0 (fun i acc σ' hi hv => turn i acc σ' (P i) hi rfl hv) (fun acc σ' hi => (fin acc σ' hi).1) ?_
  intro D Cl ad' σ' vs s' m hn hCl hClad n3 rv inv
  refine ⟨m, hn, fun h' hs' => ?_⟩
  have hClG : C.G.get? Cl = none := (n2.hr.fresh hCl).1
  have hr' : HR (C.wg l) ad' (σ' ++ [.list vs]) h' := n3.hr.same fun b o hb e => hs'.extBut b o (by
    rintro rfl
    rcases hb with e | e
    · have : C.G.get? b = some o := e
      rw [hClG] at this; cases this
    · exact hClad e) e
  have n4 := n3.touch (tk := s'.toks) hr' (Nat.le_of_eq hs'.1.symm) fun b o _ h2 e => hs'.extBut b o (adr_ne (.inl (Nat.lt_of_lt_of_le h2 hCl))) e
  exact ⟨ad', _, _, Nx.drop1 n2 hI n4, rv, (fin vs σ' inv).2⟩
theorem WS_assign_comp {l l2 : List (Str × Value)} {onames : List (Str × NameKind)} {sc : Scope} {x y : Str} {px py : Pos} {elt iter : Expr} {ifs : List Expr} {pos spos : Pos} {capt : Loc} {Q : Fl → Loc → AH → Prop}
    (hkn : Kn env onames) (hok : compOk onames sc x (capt.map (·.1)) (l2.map (·.1)) = true) (hnd : (capt.map (·.1)).Nodup) (hcap : ∀ p ∈ capt, p ∈ ρ) (hl2 : ∀ p ∈ l2, p ∈ l)
    (h : WItr (C.wg l) A env iter ρ σ (CompGo C A l2 sc x ifs elt capt (fun acc σ' => ∃ ρ', Up y (some (.ref σ'.length)) ρ ρ' ∧ Q .next ρ' (σ' ++ [.list acc]))) E)
    (hk : (onames.lookup y == some .local && !(sc.names.any fun p => p.1 == y && (p.2 == .local || p.2 == .cell)) || onames.lookup y == some .cell) = true := by rfl) (hpl : py.line = pos.line := by rfl)
    (hkind : sc.kind = .function := by rfl) (hs : isSetE iter = false := by rfl) : WS (C.wg l) A env (.Assign [.Name y py] (.ListComp elt [⟨.Name x px, iter, ifs, 0⟩] sc pos) spos) ρ σ Q E := by
  refine ⟨?_⟩
  intro ad s hr er
  have ok := compOk.ok hok
  by_cases hy : onames.lookup y = some .cell
  · have hsw : swapsWith (.ListComp elt [⟨.Name x px, iter, ifs, 0⟩] sc pos) (some (.Name y py)) spos.line env = pure false := by
      unfold swapsWith
      simp [hkn y _ hy, show (NameKind.cell == NameKind.local) = false from rfl]
    refine wpAny_Assign_Name (wpAny_mono ((WE_ListComp (Q := fun v σ1 => ∃ ρ', Up y (some v) ρ ρ' ∧ Q .next ρ' σ1) hkn hok hnd hcap hl2 h hkind hs).run ad s hr er) ?_ fun _ _ x => x) hsw
    rintro a s1 ⟨ad1, σ1, va, n1, r1, ρ', up, h1⟩
    exact store_name n1.hr (er.next n1) up r1 fun s' n2 e2 => ⟨ad1, σ1, ρ', .next, n1.weak.trans n2, e2, rfl, h1⟩
  · have hk' : onames.lookup y = some .local ∧ (sc.names.any fun p => p.1 == y && (p.2 == .local || p.2 == .cell)) = false := by
      simp only [Bool.or_eq_true, Bool.and_eq_true, beq_iff_eq, Bool.not_eq_true'] at hk
      exact hk.resolve_right hy
    have hsw : swapsWith (.ListComp elt [⟨.Name x px, iter, ifs, 0⟩] sc pos) (some (.Name y py)) spos.line env = pure true := by
      have e1 : env.blockKind = .function := by unfold Env.blockKind; rw [er.kind]; rfl
      have e2 : (Expr.ListComp elt [⟨.Name x px, iter, ifs, 0⟩] sc pos).pos = pos := rfl
      have e3 := hk'.2
      show (pure (env.blockKind == .function && env.kindOf y == some .local && py.line == pos.line && !(sc.names.any fun (n, k) => n == y && (k == .local || k == .cell))) : Sem Bool) = pure true
      rw [e1, hkn y _ hk'.1, hpl]
      have e4 : (sc.names.any fun (n, k) => n == y && (k == .local || k == .cell)) = false := hk'.2
      rw [e4]
      simp
    rw [exec_Assign_Name_used _ _ _ _ hsw]
    refine wpAny_bind (wpAny_standAt (wpAny_bind ?_))
    show wpAny _ A (do let _ ← comprehension (.ListComp elt [⟨.Name x px, iter, ifs, 0⟩] sc pos) sc env _ (newList []) false (eval iter env) (some (assign (.Name y py) env))) _ _ s
    refine wpAny_bind (wpAny_mono (wpAny_comprehension_free (use := some (assign (.Name y py) env)) (Q := fun _ s' => PS (C.wg l) env ad s Q .next s') rfl (folded_not hs) (comp_closed hkn ok hcap er) hkind ok.locs
      (wpAny_mono (h.run ad s hr er) (fun xv s1 h1 => wpAny_mono h1 ?_ fun _ _ e => e) fun _ _ e => e)) (fun _ s' hq => wpAny_pure (wpAny_pure hq)) fun _ _ e => e)
    rintro it s2 ⟨ad1, σ1, n, P, Cd, I, St, rfl, wk, st0, hI, hIad, n2, hsz, Inv, inv0, turn, fin⟩
    have er2 := er.next n2
    have hIfa : I ∉ fa env := fun hm => absurd (er.lt I hm) (Nat.not_lt.mpr hI)
    have hIG : C.G.get? I = none := (hr.fresh hI).1
    refine comp_core (C := C) (RR := fun acc Cl => compPost (model C.prog C.w) A E (some (assign (.Name y py) env)) (fun _ s' => PS (C.wg l) env ad s Q .next s') acc Cl) hkn ok hkind hnd hcap hl2 n2.hr er2 wk st0 hIad hIfa hIG hsz inv0 (fun i acc σ' hi hv => turn i acc σ' (P i) hi rfl hv) (fun acc σ' hi => (fin acc σ' hi).1) ?_
    intro D Cl ad' σ' vs s' m hn hCl hClad n3 rv inv
    have hClG : C.G.get? Cl = none := (n2.hr.fresh hCl).1
    have hClfa : Cl ∉ fa env := fun hm => absurd (er2.lt Cl hm) (Nat.not_lt.mpr hCl)
    have er3 : ER (C.wg l) env ρ ad' s'.heap := er2.keep n3.pre (fun b hb o e => n3.same b o e (er2.off b hb).2 (by simp; rintro rfl; exact hIfa hb)) n3.size
    obtain ⟨ρ', up, hq⟩ := (fin vs σ' inv).2
    show wpAny _ A (assign (.Name y py) env (.ref D)) _ _ _
    refine wpAny_assign_Name (store_name (C := C.wg l) n3.hr er3 up rv fun s4 n4 er4 => ?_)
    refine ⟨m, hn.at' fun o e => n4.same _ o e hClad hClfa, fun h' hs' => ?_⟩
    have keep : ∀ b o, C.G.get? b = some o ∨ b ∈ ad' → s4.heap.get? b = some o → h'.get? b = some o := fun b o hb e => hs'.extBut b o (by
      rintro rfl
      rcases hb with e | e
      · rw [hClG] at e; cases e
      · exact hClad e) e
    have hr' : HR (C.wg l) ad' (σ' ++ [.list vs]) h' := n4.hr.same keep
    have er5 : ER (C.wg l) env ρ' ad' h' := er4.keep (s := s4) ⟨[], by simp, by simp⟩ (fun b hb o e => hs'.extBut b o (fun e' => hClfa (e' ▸ hb)) e) (Nat.le_of_eq hs'.1.symm)
    have n34 : Nx (C.wg l) (I :: fa env) ad1 s2 ad' (σ' ++ [.list vs]) s4 := (n3.wider (by simp)).trans (n4.wider fun b hb => List.mem_cons_of_mem _ hb)
    have n5 : Nx (C.wg l) (I :: fa env) ad1 s2 ad' (σ' ++ [.list vs]) { s4 with heap := h' } := by
      obtain ⟨h1, t1, e1⟩ := n34.eq
      refine ⟨⟨h', t1, by rw [e1]⟩, n34.pre, Nat.le_trans n34.size (Nat.le_of_eq hs'.1.symm), fun b o e hb hc => ?_, hr'⟩
      exact hs'.extBut b o (adr_ne (.inl (Nat.lt_of_lt_of_le (Heap.lt_size e) hCl))) (n34.same b o e hb hc)
    exact ⟨ad', _, ρ', .next, Nx.drop1 n2 hI n5, er5, rfl, hq⟩
end
end Mine

-- part Aw13
set_option autoImplicit false
set_option linter.unusedVariables false
namespace Mine
open PySem PySem.W PyProof.Rows

section
variable {C : Cx} {A : Around} {env : Env} {ρ : Loc} {σ : AH} {E : EX} {Q : V → AH → Prop}
/- reversed lists -/
theorem WItr_rev {l : List (Str × Value)} {id : Str} {p pos : Pos} {args : List Expr} {K : Nat → (Nat → V) → (AH → Prop) → AH → Prop} (hA : A.handled = none) (hf : (id, Value.type "reversed") ∈ l)
    (h : WL (C.wg l) A env args ρ σ (fun vs σ1 => ∃ v xs, vs = [v] ∧ ObjAt (C.wg l) σ1 v (.list xs) ∧ K xs.length (fun i => xs.getD (xs.length - 1 - i) .none) (fun σ' => ObjAt (C.wg l) σ' v (.list xs)) σ1) E)
    (hns : noStar args = true := by rfl) : WItr (C.wg l) A env (.Call (.Name id p) args [] pos) ρ σ K E := by
  refine ⟨?_⟩
  intro ad s hr er
  refine wpAny_Call_Name_kw ?_
  have := (WE_glob (C := C) (A := A) (env := env) (ρ := ρ) (σ := σ) (E := E) (pos := p) (Q := fun v σ1 => v = .k (.type "reversed") ∧ σ1 = σ) hf ⟨rfl, rfl⟩).run ad s hr er
  refine wpAny_mono this ?_ fun _ _ x => x
  rintro u s1 ⟨ad1, σ1, v, n1, r1, rfl, rfl⟩
  cases r1
  refine callWith_gen (callable_type (C := C.wg l)) hns (wpAny_mono (h.run ad1 s1 pos n1.hr (er.next n1)) ?_ fun _ _ x => x)
  rintro us s2 ⟨ad2, σ2, vs, n2, r2, v, xs, rfl, b, hk⟩
  refine ⟨n2.hr.keep, ?_⟩
  have n12 := n1.trans n2
  rcases r2 with _ | ⟨rv, _ | _⟩
  obtain ⟨a, vs, rfl, hl, rvs⟩ := b.list n2.hr rv
  have hlen : vs.size = xs.length := by have := rvs.length; simp at this; omega
  refine call_reversed_list hl ?_
  have hit : (s2.heap.push (revObj a ((vs.size : Int) - 1))).IsRevIter s2.heap.objs.size a ((vs.size : Int) - 1) := ⟨_, Heap.get?_push_size _ rfl, rfl, rfl⟩
  refine wpAny_pyIter_revIter hit ?_
  have n3 := Nx.push (C := C.wg l) (s := s2) (revObj a ((vs.size : Int) - 1)) n2.hr
  refine ⟨ad2, σ2, xs.length, fun i => xs.getD (xs.length - 1 - i) .none, fun σ' => ObjAt (C.wg l) σ' v (.list xs), s2.heap.objs.size, fun i h => h.IsRevIter s2.heap.objs.size a ((xs.length : Int) - 1 - (i : Nat)), rfl, ?_, ?_, n12.size, (n2.hr.fresh (Nat.le_refl _)).2, n12.trans n3, hk⟩
  · refine ⟨?_, ?_, ?_, ?_, fun i s Q E st hQ => wpAny_pyIter_revIter st hQ, ?_⟩
    · rintro i h h' ⟨o, ho, r⟩ e
      exact ⟨o, by rw [e]; exact ho, r⟩
    · rintro i h ⟨o, ho, r⟩; exact ⟨o, ho⟩
    · rintro i ad' σ' s' Q E' hi ⟨nw, rfl⟩ hr' b' st hQ
      obtain ⟨a', vs', e, hl', rvs'⟩ := b'.list hr' (rv.mono (nw := nw))
      cases e
      obtain ⟨u, hu, ru⟩ := rvs'.getD (i := xs.length - 1 - i) (by omega)
      have e : (xs.length : Int) - 1 - (i : Int) = ((xs.length - 1 - i : Nat) : Int) := by omega
      have st' : s'.heap.IsRevIter s2.heap.objs.size a ((xs.length - 1 - i : Nat) : Int) := by rw [← e]; exact st
      refine wpAny_pyNext_rev_item st' hl' (x := u) (by rw [← Array.getElem?_toList]; exact hu) fun h' hit hs => hQ u h' s'.toks ru ?_ hs
      have e2 : ((xs.length - 1 - i : Nat) : Int) - 1 = (xs.length : Int) - 1 - ((i + 1 : Nat) : Int) := by omega
      rw [← e2]; exact hit
    · rintro ad' σ' s' Q E' ⟨nw, rfl⟩ hr' b' st hQ
      have e : (xs.length : Int) - 1 - (xs.length : Int) = -1 := by omega
      have st' : s'.heap.IsRevIter s2.heap.objs.size a (-1) := by rw [← e]; exact st
      exact wpAny_pyNext_rev_end hA st' fun h' he => hQ h' s'.toks fun b o hb e => he b o hb e
    · rintro i s' t u Q E' ⟨o, ho, hc, hd⟩ hq
      exact notOwned ho (by rw [hc, hd]; rfl) hq
  · show (s2.heap.push _).IsRevIter _ _ _
    have e : (xs.length : Int) - 1 - ((0 : Nat) : Int) = (vs.size : Int) - 1 := by omega
    rw [e]; exact hit
end
end Mine

-- part Aw14
set_option autoImplicit false
set_option linter.unusedVariables false
namespace Mine
open PySem PySem.W PyProof.Rows

section
variable {C : Cx} {A : Around} {env : Env} {ρ : Loc} {σ : AH} {E : EX} {Q : V → AH → Prop}
theorem WE_one {op : BoolOp} {e : Expr} {pos : Pos} (h : WE C A env e ρ σ Q E) : WE C A env (.BoolOp op [e] pos) ρ σ Q E := ⟨fun ad s hr er => BoolOp_one (h.run ad s hr er)⟩
theorem Rd.ints {xs : List Int} : RdAll C σ (xs.map V.int) (xs.map PyData.int) := by
  induction xs with
  | nil => exact .nil
  | cons x r ih => exact .cons .int ih
theorem Rd.lst {v : V} {xs : List Int} (o : ObjAt C σ v (.list (xs.map V.int))) : Rd C σ v (.list (xs.map PyData.int)) := .list o Rd.ints
theorem eqv_ints (xs : List Int) : PyData.eqvAll (xs.map PyData.int) (xs.map PyData.int) = true := by
  induction xs with
  | nil => rfl
  | cons x r ih => simp [PyData.eqvAll, PyData.eqv, ih]
theorem canLay_ints (xs : List Int) : PyData.canLayAll0 (xs.map PyData.int) = true := by
  induction xs with
  | nil => rfl
  | cons x r ih => simp [PyData.canLayAll0, PyData.canLay0, ih]
theorem depth_ints (xs : List Int) : PyData.depthAll (xs.map PyData.int) ≤ 1 := by
  induction xs with
  | nil => simp [PyData.depthAll]
  | cons x r ih => simp [PyData.depthAll, PyData.depth]; omega
theorem shaped_ints (xs : List Int) : SeqAt.shaped (.list (xs.map PyData.int)) = true := by
  have := depth_ints xs
  simp [SeqAt.shaped, PyData.canLay0, canLay_ints, PyData.depth]; omega
theorem shaped_pair (xs ys : List Int) : SeqAt.shaped (.tuple [.list (xs.map PyData.int), .list (ys.map PyData.int)]) = true := by
  have := depth_ints xs
  have := depth_ints ys
  simp [SeqAt.shaped, PyData.canLay0, PyData.canLayAll0, canLay_ints, PyData.depth, PyData.depthAll]; omega
theorem getD_v (ns : List Int) {i : Nat} (h : i < ns.length) : (ns.map V.int).getD i .none = .int (ns.getD i 0) := by simp [List.getD, h]
end
end Mine

-- part Aw15
set_option autoImplicit false
set_option linter.unusedVariables false
namespace Mine
open PySem PySem.W PyProof.Rows

section
variable {C : Cx} {A : Around} {env : Env} {ρ : Loc} {σ : AH} {E : EX}
theorem WS_while {test : Expr} {body : List Stmt} {pos : Pos} {Q : Fl → Loc → AH → Prop} (Inv : Nat → Loc → AH → Prop) (k : Nat) (h0 : Inv k ρ σ)
    (turn : ∀ k ρ' σ', Inv k ρ' σ' → WB C A env test ρ' σ' (fun b σ1 => if b = true then WSs C A env body ρ' σ1 (LoopPost (fun ρ2 σ2 => ∃ m, m < k ∧ Inv m ρ2 σ2) Q) (ELoop C A env E) else Q .next ρ' σ1) (ELoop C A env E)) :
    WS C A env (.While test body [] pos) ρ σ Q E := by
  refine ⟨?_⟩
  intro ad s hr er
  refine wpAny_While ?_
  refine codeAny_whileLoop (fun k s3 => ∃ ad3 σ3 ρ3, Nx C (fa env) ad s ad3 σ3 s3 ∧ ER C env ρ3 ad3 s3.heap ∧ Inv k ρ3 σ3) ?_ k ⟨ad, σ, ρ, Nx.refl hr, er, h0⟩
  rintro k s3 ⟨ad3, σ3, ρ3, n3, er3, inv3⟩
  refine wpAny_mono ((turn k ρ3 σ3 inv3).run ad3 s3 n3.hr er3) ?_ fun _ _ x => x
  rintro b s4 ⟨ad4, σ4, n4, h4⟩
  have er4 := er3.next n4
  have n34 := n3.trans n4.weak
  cases b with
  | false =>
    have h4' : Q .next ρ3 σ4 := h4
    exact wpAny_execs_nil ⟨ad4, σ4, ρ3, .next, n34, er4, rfl, h4'⟩
  | true =>
    have h4' : WSs C A env body ρ3 σ4 (LoopPost (fun ρ2 σ2 => ∃ m, m < k ∧ Inv m ρ2 σ2) Q) (ELoop C A env E) := h4
    refine wpAny_mono (h4'.run ad4 s4 n4.hr er4) ?_ fun _ _ x => x
    rintro f s6 ⟨ad6, σ6, ρ6, fl, n6, er6, rf, ⟨hq⟩⟩
    have n36 := n34.trans n6
    cases fl with
    | next => cases rf; obtain ⟨m, hm, hi⟩ := hq; exact ⟨m, hm, ad6, σ6, ρ6, n36, er6, hi⟩
    | cont => cases rf; obtain ⟨m, hm, hi⟩ := hq; exact ⟨m, hm, ad6, σ6, ρ6, n36, er6, hi⟩
    | brk => cases rf; exact ⟨ad6, σ6, ρ6, .next, n36, er6, rfl, hq⟩
    | ret v => obtain ⟨u', rfl, ru'⟩ := rf; exact ⟨ad6, σ6, ρ6, .ret v, n36, er6, ⟨u', rfl, ru'⟩, hq⟩

theorem foldl_rep (items : Array Value) : ∀ (n : Nat) (acc : Array Value), (List.foldl (fun x1 x2 => x1 ++ x2) acc (List.replicate n items)).toList = acc.toList ++ (List.replicate n items.toList).flatten
  | 0, acc => by simp
  | n + 1, acc => by
    rw [List.replicate_succ, List.foldl_cons, foldl_rep items n, List.replicate_succ, List.flatten_cons, Array.toList_append, List.append_assoc]
theorem RVs.rep {ad : List Addr} {v : List V} {x : List Value} (h : RVs ad v x) : ∀ n : Nat, RVs ad (List.replicate n v).flatten (List.replicate n x).flatten
  | 0 => .nil
  | n + 1 => by rw [List.replicate_succ, List.replicate_succ, List.flatten_cons, List.flatten_cons]; exact h.append (h.rep n)
theorem mul_li {j : Nat} {xs : List V} {x : Int} {Q : V → AH → Prop} (b : σ[j]? = some (.list xs)) (hlo : -(2 ^ 63 : Int) ≤ x) (hhi : x < 2 ^ 63) (hsz : xs.length * x.toNat ≤ 2 ^ 24)
    (h : Q (.ref σ.length) (σ ++ [.list (List.replicate x.toNat xs).flatten])) : WOp2 C A (binaryOp .Mult) (.ref j) (.int x) σ Q E := by
  refine ⟨?_⟩
  rintro ad s y z hr ⟨a, ha, rfl⟩ ⟨u, rfl⟩
  obtain ⟨ob, h1, vs, n, e2, rvs⟩ := hr.obj j _ a b ha
  subst e2
  have hlen : vs.size = xs.length := by have := rvs.length; simp at this; omega
  rw [← hlen] at hsz
  refine wpAny_binaryOp_repeat_ref (T := "list") (U := "int") (by decide) ⟨_, h1, rfl⟩ (fun s' => typeIs_int s' x u) noFill_list_mul F.fills_int_mul F.slot_int_rmul repeat_list F.slot_int_index.lookup
    (call_meets F.slot_int_rmul (typeIs_int s x u) F.entry_int_rmul (F.args_int_rmul_2 _ _) (int___rmul___int_list x u a vs n)
      ⟨h1, rfl, ⟨_, h1, rfl⟩, call_meets F.slot_list_mul ⟨_, h1, rfl⟩ F.entry_list_mul (F.args_list_mul_2 _ _)
        (AutoListH.list___mul___list_int_3 a vs n x u (by simp [Builtin.List.listFitsIndex]; omega) (by omega) (by simp [Builtin.List.listTooLong, sizeLine]; omega))
        ⟨h1, ?_⟩⟩)
  have ro : RVs ad (List.replicate x.toNat xs).flatten (List.foldl (fun x1 x2 => x1 ++ x2) #[] (List.replicate (if vs.isEmpty = true then 0 else x.toNat) vs)).toList := by
    rw [foldl_rep]
    by_cases he : vs.isEmpty = true
    · have hx : xs = [] := by
        have : vs.size = 0 := by simpa [Array.isEmpty] using he
        exact List.eq_nil_of_length_eq_zero (by omega)
      rw [if_pos he, hx]
      simp
      exact .nil
    · rw [if_neg he]
      exact rvs.rep _
  exact ⟨_, _, .ref σ.length, Nx.alloc hr (o := .list (List.replicate x.toNat xs).flatten) ⟨_, 0, rfl, ro⟩, RV.last hr.len.symm, h⟩
theorem item_neg {value slice : Expr} {v : V} {xs : List V} {k : Int} {x : V} {Q : V → AH → Prop} (b : ObjAt C σ v (.list xs)) (h0 : k < 0) (h1 : -(xs.length : Int) ≤ k) (hf : -(2 ^ 63) ≤ k) (hx : xs[(k + xs.length).toNat]? = some x) (h : Q x σ)
    (hs : isSliceE slice = false := by rfl) : WSub C A value slice v (.int k) σ Q E := by
  refine ⟨?_⟩
  rintro ad s y z hr rv ⟨t, rfl⟩
  obtain ⟨a, vs, rfl, hl, rvs⟩ := b.list hr rv
  have hlen : vs.size = xs.length := by have := rvs.length; simp at this; omega
  obtain ⟨u, hu, ru⟩ := rvs.get hx
  exact tail_any hl.typeIs slot_list_getitem.lookup (wpAny_getItem_list_neg hl h0 (by rw [hlen]; exact h1) hf (by rw [hlen, ← Array.getElem?_toList]; exact hu) (PE.here hr ru h)) (slice_not hs _ _)
theorem rep_one {α : Type} (x : α) : ∀ n : Nat, (List.replicate n [x]).flatten = List.replicate n x
  | 0 => rfl
  | n + 1 => by rw [List.replicate_succ, List.flatten_cons, rep_one x n, List.replicate_succ]; rfl
end
end Mine

-- part Aw16
set_option autoImplicit false
set_option linter.unusedVariables false
namespace Mine
open PySem PySem.W PyProof.Rows

section
variable {C : Cx} {A : Around} {env : Env} {ρ : Loc} {σ : AH} {E : EX}
theorem WE.conseq {e : Expr} {Q Q' : V → AH → Prop} (h : WE C A env e ρ σ Q E) (hq : ∀ v σ1, Q v σ1 → Q' v σ1) : WE C A env e ρ σ Q' E := by
  refine ⟨?_⟩
  intro ad s hr er
  refine wpAny_mono (h.run ad s hr er) ?_ fun _ _ x => x
  rintro u s1 ⟨ad1, σ1, v, n1, r1, h1⟩
  exact ⟨ad1, σ1, v, n1, r1, hq _ _ h1⟩
/-- a comprehension of ints that makes nothing else -/
theorem CompGo_ints {l2 : List (Str × Value)} {sc : Scope} {x : Str} {elt : Expr} {capt : Loc} {K : List V → AH → Prop} {n : Nat} {P : Nat → V} {Cd : AH → Prop} {σ1 : AH} (f : Nat → Int) (hz : n ≤ sizeLine) (hcd : Cd σ1)
    (h : ∀ i pv, i < n → P i = pv → ∀ cenv, Kn cenv (relab sc.names) → WE (C.wg l2) A cenv elt ((x, some pv) :: capt) σ1 (fun v σ3 => v = .int (f i) ∧ σ3 = σ1) (fun _ _ => False))
    (hk : K (((List.range n).map f).map V.int) σ1) : CompGo C A l2 sc x [] elt capt K n P Cd σ1 := by
  refine ⟨hz, fun i acc σ' => σ' = σ1 ∧ acc = ((List.range i).map f).map V.int, ⟨rfl, rfl⟩, ?_, ?_⟩
  · rintro i acc σ' pv hi hp ⟨rfl, rfl⟩
    refine ⟨hcd, fun cenv hc => WIf_nil ?_⟩
    rw [if_pos rfl]
    refine (h i pv hi hp cenv hc).conseq ?_
    rintro v σ3 ⟨rfl, rfl⟩
    refine ⟨rfl, ?_⟩
    rw [List.range_succ]; simp
  · rintro acc σ' ⟨rfl, rfl⟩
    exact ⟨hcd, hk⟩
end
end Mine

-- part Aw17
set_option autoImplicit false
set_option linter.unusedVariables false
namespace Mine
open PySem PySem.W PyProof.Rows

section
variable {C : Cx} {A : Around} {env : Env} {ρ : Loc} {σ : AH} {E : EX}
theorem WSs.conseq {st : List Stmt} {Q Q' : Fl → Loc → AH → Prop} (h : WSs C A env st ρ σ Q E) (hq : ∀ fl ρ' σ1, Q fl ρ' σ1 → Q' fl ρ' σ1) : WSs C A env st ρ σ Q' E := by
  refine ⟨?_⟩
  intro ad s hr er
  refine wpAny_mono (h.run ad s hr er) ?_ fun _ _ x => x
  rintro u s1 ⟨ad1, σ1, ρ1, fl, n1, e1, r1, h1⟩
  exact ⟨ad1, σ1, ρ1, fl, n1, e1, r1, hq _ _ _ h1⟩
/-- an if whose two ways meet -/
theorem WSs_mid {b : Bool} {b1 b2 : List Stmt} {Q : Fl → Loc → AH → Prop} (Mid : Fl → Loc → AH → Prop) (h : if b = true then WSs C A env b1 ρ σ Mid E else WSs C A env b2 ρ σ Mid E)
    (hq : ∀ fl ρ' σ', Mid fl ρ' σ' → Q fl ρ' σ') : if b = true then WSs C A env b1 ρ σ Q E else WSs C A env b2 ρ σ Q E := by
  cases b with
  | true =>
    have h' : WSs C A env b1 ρ σ Mid E := h
    exact h'.conseq hq
  | false =>
    have h' : WSs C A env b2 ρ σ Mid E := h
    exact h'.conseq hq
theorem ObjAt.up {J : AH} {v : V} {o : O} (h : ObjAt C σ v o) : ObjAt C (σ ++ J) v o := by
  cases v with
  | ref j =>
    have h : σ[j]? = some o := h
    show (σ ++ J)[j]? = some o
    rw [List.getElem?_append_left (List.getElem?_eq_some_iff.mp h).1]; exact h
  | k x => cases x <;> exact h
  | _ => exact h.elim
end
end Mine

-- part T13
set_option linter.unusedVariables false
namespace Mine
open PySem PySem.W PyProof.Rows
open_top hd for PySem.Challenge.rw_ui0502_13
local macro_rules | `(tactic| walk_at "mem") => `(tactic| (with_reducible first | exact List.mem_cons_self | (refine List.mem_cons_of_mem _ ?_; walk_at "mem")))
local macro_rules | `(tactic| walk_at "up") => `(tactic| (with_reducible first | exact Up.head | (apply Up.tail; walk_at "up")))
local macro_rules | `(tactic| walk_at "w") => `(tactic| first
  | refine Thn_next ?_ | refine Thn_ret ?_ | refine Thn_brk ?_ | refine Thn_cont ?_ | refine LoopPost_next ?_ | refine LoopPost_ret ?_ | refine LoopPost_brk ?_ | refine LoopPost_cont ?_ | refine WSs_cons ?_ | refine WSs_nil ?_
  | (apply WE_name; focus (walk_at "mem")) | refine WE_int ?_
  | refine WL_nil ?_ | refine WL_cons ?_
  | refine WS_assign ?_ | refine WS_return ?_ | refine WS_expr ?_ | refine WS_if ?_ | refine WS_assign_tuple ?_ | refine WS_pass ?_ | refine WS_break ?_ | refine WS_continue ?_
  | refine WE_str ?_ | refine WE_none ?_ | refine WE_bool ?_
  | refine WE_BinOp ?_ | refine WE_UnaryOp ?_ | refine WE_Compare1 ?_ | refine WB_Compare1 ?_ | refine WB_Compare2 ?_ | refine WB_Not ?_ | refine WE_IfExp ?_ | refine WE_one ?_ | refine WE_and ?_ | refine WE_or ?_ | refine WIf_nil ?_ | refine WIf_true ?_ | refine WIf_false ?_ | refine WB_and ?_ | refine WB_or ?_ | refine WB_and_nil ?_ | refine WB_or_nil ?_
  | refine WE_menu ?_ | refine WE_slice ?_ | refine WO_none ?_ | refine WO_some ?_ | refine exInt ?_ | refine WE_List ?_ | refine WE_Tuple ?_ | refine WE_Sub ?_
  | refine add_ii ?_ | refine sub_ii ?_ | refine lt_ii ?_ | refine gt_ii ?_ | refine le_ii ?_ | refine ge_ii ?_ | refine eq_ii ?_ | refine ne_ii ?_ | refine eq_ss ?_ | refine ne_ss ?_ | refine neg_i ?_ | (apply mod_ii; focus decide) | (apply fdiv_lit; focus decide)
  | refine WTr_bool ?_ | refine WAsL_nil ?_ | refine WAsL_cons ?_ | (apply WAs_name; focus (walk_at "up")) | (apply exUp; focus (walk_at "up")) | refine szAnd ?_
  | (apply ite_t; focus decide) | (apply ite_f; focus decide))
local macro_rules | `(tactic| walk_at "ww") => `(tactic| repeat walk_at "w")
local macro_rules | `(tactic| walk_at "ob") => `(tactic| first | assumption | exact ObjAt.new rfl | (refine ObjAt.up ?_; walk_at "ob"))
local macro_rules | `(tactic| walk_at "len") => `(tactic| (refine WE_call (by walk_at "mem") callable_builtin ?_; walk_at "ww"; refine WC_len (by walk_at "ob") (by simp; omega) ?_; walk_at "ww"))
def topObjs : List (Addr × O) := [(36, .tuple [.int 0, .int 1]),
  (37, .list [.k (.ref 36)]),
  (38, .tuple [.str (Str.ofString "odd"), .int (-1), .k (.ref 37), .int 0, .int 0]),
  (39, .tuple [.int 0, .int 1]),
  (40, .list [.k (.ref 39)]),
  (41, .tuple [.str (Str.ofString "even"), .int 1, .k (.ref 40), .int 0, .int 1]),
  (42, .list [.k (.ref 38), .k (.ref 41)]),
  (43, .tuple [.int 0, .int 1]),
  (44, .tuple [.int 1, .int 1]),
  (45, .list [.k (.ref 43), .k (.ref 44)]),
  (46, .tuple [.str (Str.ofString "odd"), .int (-1), .k (.ref 45), .int 0, .int 1]),
  (47, .tuple [.int (-1), .int 1]),
  (48, .tuple [.int 0, .int 1]),
  (49, .list [.k (.ref 47), .k (.ref 48)]),
  (50, .tuple [.str (Str.ofString "even"), .int 1, .k (.ref 49), .int 2, .int 2]),
  (51, .list [.k (.ref 46), .k (.ref 50)]),
  (52, .tuple [.int 0, .int 1]),
  (53, .list [.k (.ref 52)]),
  (54, .tuple [.str (Str.ofString "odd"), .int (-1), .k (.ref 53), .int 0, .int 0]),
  (55, .tuple [.int 0, .int 1]),
  (56, .list [.k (.ref 55)]),
  (57, .tuple [.str (Str.ofString "even"), .int 1, .k (.ref 56), .int 0, .int 1]),
  (58, .tuple [.int (-1), .int (-1)]),
  (59, .tuple [.int 1, .int 1]),
  (60, .list [.k (.ref 58), .k (.ref 59)]),
  (61, .tuple [.str (Str.ofString "odd"), .int (-1), .k (.ref 60), .int 2, .int 2]),
  (62, .list [.k (.ref 54), .k (.ref 57), .k (.ref 61)]),
  (63, .tuple [.int (-1), .int (-1)]),
  (64, .tuple [.int 0, .int 9]),
  (65, .tuple [.int 1, .int 9]),
  (66, .tuple [.int 2, .int (-1)]),
  (67, .list [.k (.ref 63), .k (.ref 64), .k (.ref 65), .k (.ref 66)]),
  (68, .tuple [.str (Str.ofString "odd"), .int (-1), .k (.ref 67), .int 8, .int 4]),
  (69, .tuple [.int (-1), .int 1]),
  (70, .tuple [.int 0, .int 1]),
  (71, .list [.k (.ref 69), .k (.ref 70)]),
  (72, .tuple [.str (Str.ofString "even"), .int 1, .k (.ref 71), .int 2, .int 2]),
  (73, .list [.k (.ref 68), .k (.ref 72)]),
  (74, .tuple [.int (-1), .int (-1)]),
  (75, .tuple [.int 0, .int 9]),
  (76, .tuple [.int 1, .int 9]),
  (77, .tuple [.int 2, .int (-1)]),
  (78, .list [.k (.ref 74), .k (.ref 75), .k (.ref 76), .k (.ref 77)]),
  (79, .tuple [.str (Str.ofString "odd"), .int (-1), .k (.ref 78), .int 8, .int 4]),
  (80, .tuple [.int (-2), .int (-1)]),
  (81, .tuple [.int (-1), .int 9]),
  (82, .tuple [.int 0, .int 9]),
  (83, .tuple [.int 1, .int (-1)]),
  (84, .list [.k (.ref 80), .k (.ref 81), .k (.ref 82), .k (.ref 83)]),
  (85, .tuple [.str (Str.ofString "even"), .int 1, .k (.ref 84), .int 16, .int 5]),
  (86, .list [.k (.ref 79), .k (.ref 85)]),
  (87, .list [.str (Str.ofString "haar"), .str (Str.ofString "five"), .str (Str.ofString "six"), .str (Str.ofString "nine"), .str (Str.ofString "thirteen")]),
  (88, .list [.str (Str.ofString "edge"), .str (Str.ofString "mirror"), .str (Str.ofString "ring")])]
theorem topObjs_ok {P : Params} {h : Heap} (K : (hd.heap_39 P).In h) : ∀ b o, (b, o) ∈ topObjs → GO P h b o := by
  intro b o hb
  rcases List.mem_cons.mp hb with e | hb
  · cases e; exact ⟨_, ⟨_, K _ _ rfl, rfl, _, rfl⟩, .cons ⟨_, rfl⟩ (.cons ⟨_, rfl⟩ .nil)⟩
  rcases List.mem_cons.mp hb with e | hb
  · cases e; exact ⟨_, ⟨_, K _ _ rfl, rfl, _, rfl⟩, .cons rfl .nil⟩
  rcases List.mem_cons.mp hb with e | hb
  · cases e; exact ⟨_, ⟨_, K _ _ rfl, rfl, _, rfl⟩, .cons ⟨_, rfl⟩ (.cons ⟨_, rfl⟩ (.cons rfl (.cons ⟨_, rfl⟩ (.cons ⟨_, rfl⟩ .nil))))⟩
  rcases List.mem_cons.mp hb with e | hb
  · cases e; exact ⟨_, ⟨_, K _ _ rfl, rfl, _, rfl⟩, .cons ⟨_, rfl⟩ (.cons ⟨_, rfl⟩ .nil)⟩
  rcases List.mem_cons.mp hb with e | hb
  · cases e; exact ⟨_, ⟨_, K _ _ rfl, rfl, _, rfl⟩, .cons rfl .nil⟩
  rcases List.mem_cons.mp hb with e | hb
  · cases e; exact ⟨_, ⟨_, K _ _ rfl, rfl, _, rfl⟩, .cons ⟨_, rfl⟩ (.cons ⟨_, rfl⟩ (.cons rfl (.cons ⟨_, rfl⟩ (.cons ⟨_, rfl⟩ .nil))))⟩
  rcases List.mem_cons.mp hb with e | hb
  · cases e; exact ⟨_, ⟨_, K _ _ rfl, rfl, _, rfl⟩, .cons rfl (.cons rfl .nil)⟩
  rcases List.mem_cons.mp hb with e | hb
  · cases e; exact ⟨_, ⟨_, K _ _ rfl, rfl, _, rfl⟩, .cons ⟨_, rfl⟩ (.cons ⟨_, rfl⟩ .nil)⟩
  rcases List.mem_cons.mp hb with e | hb
  · cases e; exact ⟨_, ⟨_, K _ _ rfl, rfl, _, rfl⟩, .cons ⟨_, rfl⟩ (.cons ⟨_, rfl⟩ .nil)⟩
  rcases List.mem_cons.mp hb with e | hb
  · cases e; exact ⟨_, ⟨_, K _ _ rfl, rfl, _, rfl⟩, .cons rfl (.cons rfl .nil)⟩
  rcases List.mem_cons.mp hb with e | hb
  · cases e; exact ⟨_, ⟨_, K _ _ rfl, rfl, _, rfl⟩, .cons ⟨_, rfl⟩ (.cons ⟨_, rfl⟩ (.cons rfl (.cons ⟨_, rfl⟩ (.cons ⟨_, rfl⟩ .nil))))⟩
  rcases List.mem_cons.mp hb with e | hb
  · cases e; exact ⟨_, ⟨_, K _ _ rfl, rfl, _, rfl⟩, .cons ⟨_, rfl⟩ (.cons ⟨_, rfl⟩ .nil)⟩
  rcases List.mem_cons.mp hb with e | hb
  · cases e; exact ⟨_, ⟨_, K _ _ rfl, rfl, _, rfl⟩, .cons ⟨_, rfl⟩ (.cons ⟨_, rfl⟩ .nil)⟩
  rcases List.mem_cons.mp hb with e | hb
  · cases e; exact ⟨_, ⟨_, K _ _ rfl, rfl, _, rfl⟩, .cons rfl (.cons rfl .nil)⟩
  rcases List.mem_cons.mp hb with e | hb
  · cases e; exact ⟨_, ⟨_, K _ _ rfl, rfl, _, rfl⟩, .cons ⟨_, rfl⟩ (.cons ⟨_, rfl⟩ (.cons rfl (.cons ⟨_, rfl⟩ (.cons ⟨_, rfl⟩ .nil))))⟩
  rcases List.mem_cons.mp hb with e | hb
  · cases e; exact ⟨_, ⟨_, K _ _ rfl, rfl, _, rfl⟩, .cons rfl (.cons rfl .nil)⟩
  rcases List.mem_cons.mp hb with e | hb
  · cases e; exact ⟨_, ⟨_, K _ _ rfl, rfl, _, rfl⟩, .cons ⟨_, rfl⟩ (.cons ⟨_, rfl⟩ .nil)⟩
  rcases List.mem_cons.mp hb with e | hb
  · cases e; exact ⟨_, ⟨_, K _ _ rfl, rfl, _, rfl⟩, .cons rfl .nil⟩
  rcases List.mem_cons.mp hb with e | hb
  · cases e; exact ⟨_, ⟨_, K _ _ rfl, rfl, _, rfl⟩, .cons ⟨_, rfl⟩ (.cons ⟨_, rfl⟩ (.cons rfl (.cons ⟨_, rfl⟩ (.cons ⟨_, rfl⟩ .nil))))⟩
  rcases List.mem_cons.mp hb with e | hb
  · cases e; exact ⟨_, ⟨_, K _ _ rfl, rfl, _, rfl⟩, .cons ⟨_, rfl⟩ (.cons ⟨_, rfl⟩ .nil)⟩
  rcases List.mem_cons.mp hb with e | hb
  · cases e; exact ⟨_, ⟨_, K _ _ rfl, rfl, _, rfl⟩, .cons rfl .nil⟩
  rcases List.mem_cons.mp hb with e | hb
  · cases e; exact ⟨_, ⟨_, K _ _ rfl, rfl, _, rfl⟩, .cons ⟨_, rfl⟩ (.cons ⟨_, rfl⟩ (.cons rfl (.cons ⟨_, rfl⟩ (.cons ⟨_, rfl⟩ .nil))))⟩
  rcases List.mem_cons.mp hb with e | hb
  · cases e; exact ⟨_, ⟨_, K _ _ rfl, rfl, _, rfl⟩, .cons ⟨_, rfl⟩ (.cons ⟨_, rfl⟩ .nil)⟩
  rcases List.mem_cons.mp hb with e | hb
  · cases e; exact ⟨_, ⟨_, K _ _ rfl, rfl, _, rfl⟩, .cons ⟨_, rfl⟩ (.cons ⟨_, rfl⟩ .nil)⟩
  rcases List.mem_cons.mp hb with e | hb
  · cases e; exact ⟨_, ⟨_, K _ _ rfl, rfl, _, rfl⟩, .cons rfl (.cons rfl .nil)⟩
  rcases List.mem_cons.mp hb with e | hb
  · cases e; exact ⟨_, ⟨_, K _ _ rfl, rfl, _, rfl⟩, .cons ⟨_, rfl⟩ (.cons ⟨_, rfl⟩ (.cons rfl (.cons ⟨_, rfl⟩ (.cons ⟨_, rfl⟩ .nil))))⟩
  rcases List.mem_cons.mp hb with e | hb
  · cases e; exact ⟨_, ⟨_, K _ _ rfl, rfl, _, rfl⟩, .cons rfl (.cons rfl (.cons rfl .nil))⟩
  rcases List.mem_cons.mp hb with e | hb
  · cases e; exact ⟨_, ⟨_, K _ _ rfl, rfl, _, rfl⟩, .cons ⟨_, rfl⟩ (.cons ⟨_, rfl⟩ .nil)⟩
  rcases List.mem_cons.mp hb with e | hb
  · cases e; exact ⟨_, ⟨_, K _ _ rfl, rfl, _, rfl⟩, .cons ⟨_, rfl⟩ (.cons ⟨_, rfl⟩ .nil)⟩
  rcases List.mem_cons.mp hb with e | hb
  · cases e; exact ⟨_, ⟨_, K _ _ rfl, rfl, _, rfl⟩, .cons ⟨_, rfl⟩ (.cons ⟨_, rfl⟩ .nil)⟩
  rcases List.mem_cons.mp hb with e | hb
  · cases e; exact ⟨_, ⟨_, K _ _ rfl, rfl, _, rfl⟩, .cons ⟨_, rfl⟩ (.cons ⟨_, rfl⟩ .nil)⟩
  rcases List.mem_cons.mp hb with e | hb
  · cases e; exact ⟨_, ⟨_, K _ _ rfl, rfl, _, rfl⟩, .cons rfl (.cons rfl (.cons rfl (.cons rfl .nil)))⟩
  rcases List.mem_cons.mp hb with e | hb
  · cases e; exact ⟨_, ⟨_, K _ _ rfl, rfl, _, rfl⟩, .cons ⟨_, rfl⟩ (.cons ⟨_, rfl⟩ (.cons rfl (.cons ⟨_, rfl⟩ (.cons ⟨_, rfl⟩ .nil))))⟩
  rcases List.mem_cons.mp hb with e | hb
  · cases e; exact ⟨_, ⟨_, K _ _ rfl, rfl, _, rfl⟩, .cons ⟨_, rfl⟩ (.cons ⟨_, rfl⟩ .nil)⟩
  rcases List.mem_cons.mp hb with e | hb
  · cases e; exact ⟨_, ⟨_, K _ _ rfl, rfl, _, rfl⟩, .cons ⟨_, rfl⟩ (.cons ⟨_, rfl⟩ .nil)⟩
  rcases List.mem_cons.mp hb with e | hb
  · cases e; exact ⟨_, ⟨_, K _ _ rfl, rfl, _, rfl⟩, .cons rfl (.cons rfl .nil)⟩
  rcases List.mem_cons.mp hb with e | hb
  · cases e; exact ⟨_, ⟨_, K _ _ rfl, rfl, _, rfl⟩, .cons ⟨_, rfl⟩ (.cons ⟨_, rfl⟩ (.cons rfl (.cons ⟨_, rfl⟩ (.cons ⟨_, rfl⟩ .nil))))⟩
  rcases List.mem_cons.mp hb with e | hb
  · cases e; exact ⟨_, ⟨_, K _ _ rfl, rfl, _, rfl⟩, .cons rfl (.cons rfl .nil)⟩
  rcases List.mem_cons.mp hb with e | hb
  · cases e; exact ⟨_, ⟨_, K _ _ rfl, rfl, _, rfl⟩, .cons ⟨_, rfl⟩ (.cons ⟨_, rfl⟩ .nil)⟩
  rcases List.mem_cons.mp hb with e | hb
  · cases e; exact ⟨_, ⟨_, K _ _ rfl, rfl, _, rfl⟩, .cons ⟨_, rfl⟩ (.cons ⟨_, rfl⟩ .nil)⟩
  rcases List.mem_cons.mp hb with e | hb
  · cases e; exact ⟨_, ⟨_, K _ _ rfl, rfl, _, rfl⟩, .cons ⟨_, rfl⟩ (.cons ⟨_, rfl⟩ .nil)⟩
  rcases List.mem_cons.mp hb with e | hb
  · cases e; exact ⟨_, ⟨_, K _ _ rfl, rfl, _, rfl⟩, .cons ⟨_, rfl⟩ (.cons ⟨_, rfl⟩ .nil)⟩
  rcases List.mem_cons.mp hb with e | hb
  · cases e; exact ⟨_, ⟨_, K _ _ rfl, rfl, _, rfl⟩, .cons rfl (.cons rfl (.cons rfl (.cons rfl .nil)))⟩
  rcases List.mem_cons.mp hb with e | hb
  · cases e; exact ⟨_, ⟨_, K _ _ rfl, rfl, _, rfl⟩, .cons ⟨_, rfl⟩ (.cons ⟨_, rfl⟩ (.cons rfl (.cons ⟨_, rfl⟩ (.cons ⟨_, rfl⟩ .nil))))⟩
  rcases List.mem_cons.mp hb with e | hb
  · cases e; exact ⟨_, ⟨_, K _ _ rfl, rfl, _, rfl⟩, .cons ⟨_, rfl⟩ (.cons ⟨_, rfl⟩ .nil)⟩
  rcases List.mem_cons.mp hb with e | hb
  · cases e; exact ⟨_, ⟨_, K _ _ rfl, rfl, _, rfl⟩, .cons ⟨_, rfl⟩ (.cons ⟨_, rfl⟩ .nil)⟩
  rcases List.mem_cons.mp hb with e | hb
  · cases e; exact ⟨_, ⟨_, K _ _ rfl, rfl, _, rfl⟩, .cons ⟨_, rfl⟩ (.cons ⟨_, rfl⟩ .nil)⟩
  rcases List.mem_cons.mp hb with e | hb
  · cases e; exact ⟨_, ⟨_, K _ _ rfl, rfl, _, rfl⟩, .cons ⟨_, rfl⟩ (.cons ⟨_, rfl⟩ .nil)⟩
  rcases List.mem_cons.mp hb with e | hb
  · cases e; exact ⟨_, ⟨_, K _ _ rfl, rfl, _, rfl⟩, .cons rfl (.cons rfl (.cons rfl (.cons rfl .nil)))⟩
  rcases List.mem_cons.mp hb with e | hb
  · cases e; exact ⟨_, ⟨_, K _ _ rfl, rfl, _, rfl⟩, .cons ⟨_, rfl⟩ (.cons ⟨_, rfl⟩ (.cons rfl (.cons ⟨_, rfl⟩ (.cons ⟨_, rfl⟩ .nil))))⟩
  rcases List.mem_cons.mp hb with e | hb
  · cases e; exact ⟨_, ⟨_, K _ _ rfl, rfl, _, rfl⟩, .cons rfl (.cons rfl .nil)⟩
  rcases List.mem_cons.mp hb with e | hb
  · cases e; exact ⟨_, ⟨_, K _ _ rfl, rfl, _, rfl⟩, .cons ⟨_, rfl⟩ (.cons ⟨_, rfl⟩ (.cons ⟨_, rfl⟩ (.cons ⟨_, rfl⟩ (.cons ⟨_, rfl⟩ .nil))))⟩
  rcases List.mem_cons.mp hb with e | hb
  · cases e; exact ⟨_, ⟨_, K _ _ rfl, rfl, _, rfl⟩, .cons ⟨_, rfl⟩ (.cons ⟨_, rfl⟩ (.cons ⟨_, rfl⟩ .nil))⟩
  exact nomatch hb
def lawGlo : List (Str × Value) := [(Str.ofString "len", Value.builtin "len"), (Str.ofString "range", Value.type "range"), (Str.ofString "min", Value.builtin "min"), (Str.ofString "max", Value.builtin "max"), (Str.ofString "abs", Value.builtin "abs"), (Str.ofString "list", Value.type "list"), (Str.ofString "reversed", Value.type "reversed"), (Str.ofString "KINDS", Value.ref 87), (Str.ofString "BORDERS", Value.ref 88), (Str.ofString "STEPS", Value.ref 35), (Str.ofString "need_kind", Value.ref 95), (Str.ofString "need_border", Value.ref 102), (Str.ofString "place", Value.ref 109), (Str.ofString "_turn", Value.ref 116), (Str.ofString "forward", Value.ref 123), (Str.ofString "backward", Value.ref 130), (Str.ofString "plain_forward", Value.ref 135), (Str.ofString "_at", Value.ref 142), (Str.ofString "_law_cell", Value.ref 149)]
/-- the facts of this law's top -/
structure Law (C : Cx) : Prop where
  K : (hd.heap_39 C.w.params).In C.G
  top : ∀ x ∈ topObjs, x ∈ C.gob
  glo : ∀ x v, (x, v) ∈ lawGlo → C.mg x = some v ∨ (C.mg x = none ∧ C.mb x = some v)
theorem Law.wg {C : Cx} (c : Law C) (l : List (Str × Value)) : Law (C.wg l) := ⟨c.K, c.top, c.glo⟩
theorem Law.c95 {C : Cx} (c : Law C) : Callable C (.ref 95) := callable_K c.K (by kernel_rfl)
theorem Law.c102 {C : Cx} (c : Law C) : Callable C (.ref 102) := callable_K c.K (by kernel_rfl)
theorem Law.c109 {C : Cx} (c : Law C) : Callable C (.ref 109) := callable_K c.K (by kernel_rfl)
theorem Law.c116 {C : Cx} (c : Law C) : Callable C (.ref 116) := callable_K c.K (by kernel_rfl)
theorem Law.c123 {C : Cx} (c : Law C) : Callable C (.ref 123) := callable_K c.K (by kernel_rfl)
theorem Law.c130 {C : Cx} (c : Law C) : Callable C (.ref 130) := callable_K c.K (by kernel_rfl)
theorem Law.c135 {C : Cx} (c : Law C) : Callable C (.ref 135) := callable_K c.K (by kernel_rfl)
theorem Law.c142 {C : Cx} (c : Law C) : Callable C (.ref 142) := callable_K c.K (by kernel_rfl)
theorem Law.c149 {C : Cx} (c : Law C) : Callable C (.ref 149) := callable_K c.K (by kernel_rfl)
theorem ObjAt.glob {C : Cx} {σ : AH} {v : V} {o : O} (h : ObjAt C [] v o) : ObjAt C σ v o := by
  cases v with
  | ref j => simp [ObjAt] at h
  | k x => cases x <;> exact h
  | _ => exact h.elim
def placeP (k c : Int) (b : Str) : Int :=
  if b == Str.ofString "ring" then k.fmod c else if b == Str.ofString "edge" then max 0 (min (c - 1) k) else if c == 1 then 0 else
    if k.fmod (2 * c - 2) < c then k.fmod (2 * c - 2) else 2 * c - 2 - k.fmod (2 * c - 2)
theorem place_range {k c : Int} {b : Str} (hc : 1 ≤ c) : 0 ≤ placeP k c b ∧ placeP k c b < c := by
  unfold placeP
  have fm : ∀ (n m : Int), 0 < m → 0 ≤ n.fmod m ∧ n.fmod m < m := fun n m h => ⟨Int.fmod_nonneg_of_pos _ h, Int.fmod_lt_of_pos _ h⟩
  split
  · exact fm _ _ (by omega)
  split
  · omega
  split
  · omega
  · rename_i h1
    have h1 : c ≠ 1 := by simpa using h1
    have := fm k (2 * c - 2) (by omega)
    split <;> omega
theorem place_spec {C : Cx} {A : Around} {σ : AH} {E : EX} {Q : V → AH → Prop} {k n : Int} {b : Str} (c : Law C) (hA : A.handled = none) (hd : A.depth < recursionLimit) (hn : 1 ≤ n) (hn2 : n ≤ 2 ^ 60) (hq : Q (.int (placeP k n b)) σ) :
    WC C A (.ref 109) [.int k, .int n, .str b] σ Q E := by
  refine WC_def (pn := [Str.ofString "k", Str.ofString "count", Str.ofString "border"]) (ln := []) (gl := [(Str.ofString "min", Value.builtin "min"), (Str.ofString "max", Value.builtin "max")]) (dv := []) (ds := []) (c.K _ _ rfl) rfl (codeRec_of c.K (by kernel_rfl)) (by first | assumption | omega | exact Nat.le_of_ble_eq_true rfl) .nil rfl (fun x v h => c.glo x v ((show ∀ p ∈ ([(Str.ofString "min", Value.builtin "min"), (Str.ofString "max", Value.builtin "max")] : List (Str × Value)), p ∈ lawGlo by decide +kernel) (x, v) h)) ?_ (by decide +kernel) (by decide +kernel) (by decide +kernel) (by decide +kernel) ?_
  · intro s xs _ hl
    match xs, hl with
    | [x0, x1, x2], _ => exact BindsTo.of_eq rfl
  intro env henv
  replace c := c.wg [(Str.ofString "min", Value.builtin "min"), (Str.ofString "max", Value.builtin "max")]
  show WSs (C.wg [(Str.ofString "min", Value.builtin "min"), (Str.ofString "max", Value.builtin "max")]) _ _ _ [(Str.ofString "k", some (.int k)), (Str.ofString "count", some (.int n)), (Str.ofString "border", some (.str b))] _ _ _
  unfold placeP at hq
  walk_at "ww"
  refine ite_b (fun hb => ?_) fun hb => ?_
  · rw [if_pos hb] at hq
    walk_at "ww"
    refine mod_ii (by omega) ?_
    walk_at "ww"
    exact hq
  rw [if_neg (by rw [hb]; decide)] at hq
  walk_at "ww"
  refine ite_b (fun hb => ?_) fun hb => ?_
  · rw [if_pos hb] at hq
    walk_at "ww"
    refine WE_call (by walk_at "mem") callable_builtin ?_
    walk_at "ww"
    refine WE_call (by walk_at "mem") callable_builtin ?_
    walk_at "ww"
    refine WC_min hA ?_
    walk_at "ww"
    refine WC_max hA ?_
    walk_at "ww"
    exact hq
  rw [if_neg (by rw [hb]; decide)] at hq
  walk_at "ww"
  refine ite_b (fun hb => ?_) fun hb => ?_
  · rw [if_pos hb] at hq
    walk_at "ww"
    exact hq
  rw [if_neg (by rw [hb]; decide)] at hq
  have h1 : n ≠ 1 := by simpa using hb
  walk_at "ww"
  refine mul_ii (mul_small (by decide) (by decide)) ?_
  walk_at "ww"
  refine mod_ii (by omega) ?_
  walk_at "ww"
  refine ite_b (fun hb => ?_) fun hb => ?_
  · rw [if_pos (by simpa using hb)] at hq
    walk_at "ww"
    exact hq
  · rw [if_neg (by simpa using hb)] at hq
    walk_at "ww"
    refine mul_ii (mul_small (by decide) (by decide)) ?_
    walk_at "ww"
    exact hq

/- the steps of the kinds -/
structure Step where
  odd : Bool
  sg : Int
  rows : List (Int × Int)
  add : Int
  sh : Int
def stepsOf : Nat → List Step
  | 0 => [⟨true, -1, [(0, 1)], 0, 0⟩, ⟨false, 1, [(0, 1)], 0, 1⟩]
  | 1 => [⟨true, -1, [(0, 1), (1, 1)], 0, 1⟩, ⟨false, 1, [(-1, 1), (0, 1)], 2, 2⟩]
  | 2 => [⟨true, -1, [(0, 1)], 0, 0⟩, ⟨false, 1, [(0, 1)], 0, 1⟩, ⟨true, -1, [(-1, -1), (1, 1)], 2, 2⟩]
  | 3 => [⟨true, -1, [(-1, -1), (0, 9), (1, 9), (2, -1)], 8, 4⟩, ⟨false, 1, [(-1, 1), (0, 1)], 2, 2⟩]
  | _ => [⟨true, -1, [(-1, -1), (0, 9), (1, 9), (2, -1)], 8, 4⟩, ⟨false, 1, [(-2, -1), (-1, 9), (0, 9), (1, -1)], 16, 5⟩]
def stepsAt : Nat → Addr
  | 0 => 42 | 1 => 51 | 2 => 62 | 3 => 73 | _ => 86
def kindOf : Nat → Str
  | 0 => Str.ofString "haar" | 1 => Str.ofString "five" | 2 => Str.ofString "six" | 3 => Str.ofString "nine" | _ => Str.ofString "thirteen"
def bordOf : Nat → Str
  | 0 => Str.ofString "edge" | 1 => Str.ofString "mirror" | _ => Str.ofString "ring"
def RowsAt (C : Cx) (v : V) (rs : List (Int × Int)) : Prop := ∃ vs, ObjAt C [] v (.list vs) ∧ vs.length = rs.length ∧ ∀ i r, rs[i]? = some r → ObjAt C [] (vs.getD i .none) (.tuple [.int r.1, .int r.2])
def StepAt (C : Cx) (v : V) (st : Step) : Prop := ∃ rv, ObjAt C [] v (.tuple [.str (if st.odd then Str.ofString "odd" else Str.ofString "even"), .int st.sg, rv, .int st.add, .int st.sh]) ∧ RowsAt C rv st.rows
def StepsAt (C : Cx) (v : V) (sts : List Step) : Prop := ∃ vs, ObjAt C [] v (.list vs) ∧ vs.length = sts.length ∧ ∀ i st, sts[i]? = some st → StepAt C (vs.getD i .none) st
theorem rows1 {C : Cx} {a t : Addr} {r : Int × Int} (h : (a, O.list [.k (.ref t)]) ∈ C.gob) (h0 : (t, O.tuple [.int r.1, .int r.2]) ∈ C.gob) : RowsAt C (.k (.ref a)) [r] :=
  ⟨_, h, rfl, fun i x e => match i, e with | 0, e => by cases e; exact h0⟩
theorem rows2 {C : Cx} {a t u : Addr} {r q : Int × Int} (h : (a, O.list [.k (.ref t), .k (.ref u)]) ∈ C.gob) (h0 : (t, O.tuple [.int r.1, .int r.2]) ∈ C.gob) (h1 : (u, O.tuple [.int q.1, .int q.2]) ∈ C.gob) : RowsAt C (.k (.ref a)) [r, q] :=
  ⟨_, h, rfl, fun i x e => match i, e with | 0, e => by cases e; exact h0 | 1, e => by cases e; exact h1⟩
theorem rows4 {C : Cx} {a t u t' u' : Addr} {r q r' q' : Int × Int} (h : (a, O.list [.k (.ref t), .k (.ref u), .k (.ref t'), .k (.ref u')]) ∈ C.gob) (h0 : (t, O.tuple [.int r.1, .int r.2]) ∈ C.gob) (h1 : (u, O.tuple [.int q.1, .int q.2]) ∈ C.gob)
    (h2 : (t', O.tuple [.int r'.1, .int r'.2]) ∈ C.gob) (h3 : (u', O.tuple [.int q'.1, .int q'.2]) ∈ C.gob) : RowsAt C (.k (.ref a)) [r, q, r', q'] :=
  ⟨_, h, rfl, fun i x e => match i, e with | 0, e => by cases e; exact h0 | 1, e => by cases e; exact h1 | 2, e => by cases e; exact h2 | 3, e => by cases e; exact h3⟩
theorem step_at {C : Cx} {a r : Addr} {st : Step} (h : (a, O.tuple [.str (if st.odd then Str.ofString "odd" else Str.ofString "even"), .int st.sg, .k (.ref r), .int st.add, .int st.sh]) ∈ C.gob) (hr : RowsAt C (.k (.ref r)) st.rows) : StepAt C (.k (.ref a)) st := ⟨_, h, hr⟩
theorem steps2 {C : Cx} {a t u : Addr} {p q : Step} (h : (a, O.list [.k (.ref t), .k (.ref u)]) ∈ C.gob) (h0 : StepAt C (.k (.ref t)) p) (h1 : StepAt C (.k (.ref u)) q) : StepsAt C (.k (.ref a)) [p, q] :=
  ⟨_, h, rfl, fun i x e => match i, e with | 0, e => by cases e; exact h0 | 1, e => by cases e; exact h1⟩
theorem steps3 {C : Cx} {a t u u' : Addr} {p q q' : Step} (h : (a, O.list [.k (.ref t), .k (.ref u), .k (.ref u')]) ∈ C.gob) (h0 : StepAt C (.k (.ref t)) p) (h1 : StepAt C (.k (.ref u)) q) (h2 : StepAt C (.k (.ref u')) q') : StepsAt C (.k (.ref a)) [p, q, q'] :=
  ⟨_, h, rfl, fun i x e => match i, e with | 0, e => by cases e; exact h0 | 1, e => by cases e; exact h1 | 2, e => by cases e; exact h2⟩
theorem Law.m {C : Cx} (c : Law C) (i : Nat) {p : Addr × O} (h : topObjs[i]? = some p) : p ∈ C.gob := c.top _ (List.mem_of_getElem? h)
theorem steps_at {C : Cx} (c : Law C) : ∀ {i : Nat}, i < 5 → StepsAt C (.k (.ref (stepsAt i))) (stepsOf i)
  | 0, _ => steps2 (c.m 6 rfl) (step_at (c.m 2 rfl) (rows1 (c.m 1 rfl) (c.m 0 rfl))) (step_at (c.m 5 rfl) (rows1 (c.m 4 rfl) (c.m 3 rfl)))
  | 1, _ => steps2 (c.m 15 rfl) (step_at (c.m 10 rfl) (rows2 (c.m 9 rfl) (c.m 7 rfl) (c.m 8 rfl))) (step_at (c.m 14 rfl) (rows2 (c.m 13 rfl) (c.m 11 rfl) (c.m 12 rfl)))
  | 2, _ => steps3 (c.m 26 rfl) (step_at (c.m 18 rfl) (rows1 (c.m 17 rfl) (c.m 16 rfl))) (step_at (c.m 21 rfl) (rows1 (c.m 20 rfl) (c.m 19 rfl))) (step_at (c.m 25 rfl) (rows2 (c.m 24 rfl) (c.m 22 rfl) (c.m 23 rfl)))
  | 3, _ => steps2 (c.m 37 rfl) (step_at (c.m 32 rfl) (rows4 (c.m 31 rfl) (c.m 27 rfl) (c.m 28 rfl) (c.m 29 rfl) (c.m 30 rfl))) (step_at (c.m 36 rfl) (rows2 (c.m 35 rfl) (c.m 33 rfl) (c.m 34 rfl)))
  | 4, _ => steps2 (c.m 50 rfl) (step_at (c.m 43 rfl) (rows4 (c.m 42 rfl) (c.m 38 rfl) (c.m 39 rfl) (c.m 40 rfl) (c.m 41 rfl))) (step_at (c.m 49 rfl) (rows4 (c.m 48 rfl) (c.m 44 rfl) (c.m 45 rfl) (c.m 46 rfl) (c.m 47 rfl)))
theorem five (i : Nat) (h : i < 5) : i = 0 ∨ i = 1 ∨ i = 2 ∨ i = 3 ∨ i = 4 := by omega
theorem kind_item {C : Cx} {A : Around} {σ : AH} {E : EX} {Q : V → AH → Prop} {value slice : PySem.Expr} (c : Law C) {i : Nat} (hi : i < 5) (h : Q (.k (.ref (stepsAt i))) σ) (hs : isSliceE slice = false := by rfl) : WSub C A value slice (.k (.ref 35)) (.str (kindOf i)) σ Q E := by
  have kl : ∀ {es : Array DictEntry} {n : Nat}, (hd.heap_39 C.w.params).lookup 35 = some ⟨.type "dict", none, .dict es n, #[]⟩ → KeysLit C.w.params es.toList := by
    intro es n e
    have e2 : (hd.heap_39 C.w.params).lookup 35 = _ := rfl
    cases e.symm.trans e2
    exact ⟨⟨_, _, rfl, rfl⟩, ⟨_, _, rfl, rfl⟩, ⟨_, _, rfl, rfl⟩, ⟨_, _, rfl, rfl⟩, ⟨_, _, rfl, rfl⟩, trivial⟩
  rcases five i hi with rfl | rfl | rfl | rfl | rfl
  · exact item_gdict c.K rfl (kl rfl) (by kernel_rfl) h hs
  · exact item_gdict c.K rfl (kl rfl) (by kernel_rfl) h hs
  · exact item_gdict c.K rfl (kl rfl) (by kernel_rfl) h hs
  · exact item_gdict c.K rfl (kl rfl) (by kernel_rfl) h hs
  · exact item_gdict c.K rfl (kl rfl) (by kernel_rfl) h hs
theorem ObjAt.app {C : Cx} {σ J : AH} {v : V} {o : O} (h : ObjAt C σ v o) : ObjAt C (σ ++ J) v o := by
  cases v with
  | ref j =>
    have h : σ[j]? = some o := h
    show (σ ++ J)[j]? = some o
    rw [List.getElem?_append_left (List.getElem?_eq_some_iff.mp h).1]; exact h
  | k x => cases x <;> exact h
  | _ => exact h.elim
theorem getD_int (xs : List Int) (i : Nat) (h : i < xs.length) : (xs.map V.int)[i]? = some (.int (xs.getD i 0)) := by
  simp [List.getD, h]
theorem take_snoc {α : Type} {xs : List α} {i : Nat} {x : α} (h : xs[i]? = some x) : xs.take (i + 1) = xs.take i ++ [x] := by
  rw [List.take_add_one, h]; rfl
theorem five3 (i : Nat) (h : i < 3) : i = 0 ∨ i = 1 ∨ i = 2 := by omega
theorem sh_kind : ∀ i : Fin 5, SeqAt.shaped (.str (kindOf i.val)) = true := by decide +kernel
theorem sh_bord : ∀ i : Fin 3, SeqAt.shaped (.str (bordOf i.val)) = true := by decide +kernel
theorem need_kind_spec {C : Cx} {A : Around} {σ : AH} {E : EX} {Q : V → AH → Prop} {i : Nat} {kd : Str} (c : Law C) (hd : A.depth < recursionLimit) (hu : A.units + 100 < cLine) (hi : i < 5) (hk : kd = kindOf i) (hq : Q (.str kd) σ) :
    WC C A (.ref 95) [.str kd] σ Q E := by
  refine WC_def (pn := [Str.ofString "kind"]) (ln := []) (gl := [(Str.ofString "KINDS", Value.ref 87)]) (dv := []) (ds := []) (c.K _ _ rfl) rfl (codeRec_of c.K (by kernel_rfl)) (by first | assumption | omega | exact Nat.le_of_ble_eq_true rfl) .nil rfl (fun x v h => c.glo x v ((show ∀ p ∈ ([(Str.ofString "KINDS", Value.ref 87)] : List (Str × Value)), p ∈ lawGlo by decide +kernel) (x, v) h)) ?_ (by decide +kernel) (by decide +kernel) (by decide +kernel) (by decide +kernel) ?_
  · intro s xs _ hl
    match xs, hl with
    | [x0], _ => exact BindsTo.of_eq rfl
  intro env henv
  replace c := c.wg [(Str.ofString "KINDS", Value.ref 87)]
  show WSs (C.wg [(Str.ofString "KINDS", Value.ref 87)]) _ _ _ [(Str.ofString "kind", some (.str kd))] _ _ _
  walk_at "ww"
  refine WE_glob (by walk_at "mem") ?_
  refine nin_list_dd .str (.list (show ObjAt _ _ (.k (.ref 87)) _ from c.m 51 rfl) (.cons .str (.cons .str (.cons .str (.cons .str (.cons .str .nil)))))) (by decide +kernel) (by rw [hk]; exact sh_kind ⟨i, hi⟩) (by show A.units + _ + 65 < _; omega) ?_
  have e : ∀ i : Fin 5, (!([PyData.str (Str.ofString "haar"), .str (Str.ofString "five"), .str (Str.ofString "six"), .str (Str.ofString "nine"), .str (Str.ofString "thirteen")].any fun y => PyData.eqv y (.str (kindOf i.val)))) = false := by decide +kernel
  have e2 := e ⟨i, hi⟩
  simp only [← hk] at e2
  rw [e2]
  walk_at "ww"
  exact hq
theorem need_border_spec {C : Cx} {A : Around} {σ : AH} {E : EX} {Q : V → AH → Prop} {i : Nat} {kd : Str} (c : Law C) (hd : A.depth < recursionLimit) (hu : A.units + 100 < cLine) (hi : i < 3) (hk : kd = bordOf i) (hq : Q (.str kd) σ) :
    WC C A (.ref 102) [.str kd] σ Q E := by
  refine WC_def (pn := [Str.ofString "border"]) (ln := []) (gl := [(Str.ofString "BORDERS", Value.ref 88)]) (dv := []) (ds := []) (c.K _ _ rfl) rfl (codeRec_of c.K (by kernel_rfl)) (by first | assumption | omega | exact Nat.le_of_ble_eq_true rfl) .nil rfl (fun x v h => c.glo x v ((show ∀ p ∈ ([(Str.ofString "BORDERS", Value.ref 88)] : List (Str × Value)), p ∈ lawGlo by decide +kernel) (x, v) h)) ?_ (by decide +kernel) (by decide +kernel) (by decide +kernel) (by decide +kernel) ?_
  · intro s xs _ hl
    match xs, hl with
    | [x0], _ => exact BindsTo.of_eq rfl
  intro env henv
  replace c := c.wg [(Str.ofString "BORDERS", Value.ref 88)]
  show WSs (C.wg [(Str.ofString "BORDERS", Value.ref 88)]) _ _ _ [(Str.ofString "border", some (.str kd))] _ _ _
  walk_at "ww"
  refine WE_glob (by walk_at "mem") ?_
  refine nin_list_dd .str (.list (show ObjAt _ _ (.k (.ref 88)) _ from c.m 52 rfl) (.cons .str (.cons .str (.cons .str .nil)))) (by decide +kernel) (by rw [hk]; exact sh_bord ⟨i, hi⟩) (by show A.units + _ + 65 < _; omega) ?_
  have e : ∀ i : Fin 3, (!([PyData.str (Str.ofString "edge"), .str (Str.ofString "mirror"), .str (Str.ofString "ring")].any fun y => PyData.eqv y (.str (bordOf i.val)))) = false := by decide +kernel
  have e2 := e ⟨i, hi⟩
  simp only [← hk] at e2
  rw [e2]
  walk_at "ww"
  exact hq
def sumP (b : Str) (os : List Int) (i : Nat) (rows : List (Int × Int)) (a : Int) : Int := rows.foldl (fun t r => t + r.2 * os.getD (placeP (i + r.1) os.length b).toNat 0) a
def turnP (b : Str) (st : Step) (sg : Int) (hs os : List Int) : List Int :=
  if os = [] then hs else (List.range hs.length).map fun i => hs.getD i 0 + sg * (sumP b os i st.rows st.add).fdiv (2 ^ st.sh.toNat)
theorem turn_spec {C : Cx} {A : Around} {σ : AH} {E : EX} {Q : V → AH → Prop} {vh vo vs : V} {hs os : List Int} {st : Step} {b : Str} {sg : Int} (c : Law C) (hA : A.handled = none) (hd : A.depth + 1 < recursionLimit)
    (hst : StepAt C vs st) (hsg : -(2 ^ 63) ≤ sg ∧ sg ≤ 2 ^ 63) (hw : ∀ r ∈ st.rows, -(2 ^ 63) ≤ r.2 ∧ r.2 ≤ 2 ^ 63) (hsh : 0 ≤ st.sh) (oh : ObjAt C σ vh (.list (hs.map .int))) (oo : ObjAt C σ vo (.list (os.map .int))) (lh : hs.length ≤ 100) (lo : os.length ≤ 100)
    (hq : ∀ v J, ObjAt C (σ ++ J) v (.list ((turnP b st sg hs os).map .int)) → Q v (σ ++ J)) :
    WC C A (.ref 116) [vh, vo, vs, .str b, .int sg] σ Q E := by
  refine WC_def (pn := [Str.ofString "half", Str.ofString "other", Str.ofString "step", Str.ofString "border", Str.ofString "sign"]) (ln := [Str.ofString "rows", Str.ofString "out", Str.ofString "i", Str.ofString "total", Str.ofString "offset", Str.ofString "weight"]) (gl := [(Str.ofString "len", Value.builtin "len"), (Str.ofString "range", Value.type "range"), (Str.ofString "place", Value.ref 109)]) (dv := []) (ds := []) (c.K _ _ rfl) rfl (codeRec_of c.K (by kernel_rfl)) (by first | assumption | omega | exact Nat.le_of_ble_eq_true rfl) .nil rfl (fun x v h => c.glo x v ((show ∀ p ∈ ([(Str.ofString "len", Value.builtin "len"), (Str.ofString "range", Value.type "range"), (Str.ofString "place", Value.ref 109)] : List (Str × Value)), p ∈ lawGlo by decide +kernel) (x, v) h)) ?_ (by decide +kernel) (by decide +kernel) (by decide +kernel) (by decide +kernel) ?_
  · intro s xs _ hl
    match xs, hl with
    | [x0, x1, x2, x3, x4], _ => exact BindsTo.of_eq rfl
  intro env henv
  replace c := c.wg [(Str.ofString "len", Value.builtin "len"), (Str.ofString "range", Value.type "range"), (Str.ofString "place", Value.ref 109)]
  show WSs (C.wg [(Str.ofString "len", Value.builtin "len"), (Str.ofString "range", Value.type "range"), (Str.ofString "place", Value.ref 109)]) _ _ _ [(Str.ofString "half", some (vh)), (Str.ofString "other", some (vo)), (Str.ofString "step", some (vs)), (Str.ofString "border", some (.str b)), (Str.ofString "sign", some (.int sg)), (Str.ofString "rows", none), (Str.ofString "out", none), (Str.ofString "i", none), (Str.ofString "total", none), (Str.ofString "offset", none), (Str.ofString "weight", none)] _ _ _
  walk_at "ww"
  refine WE_call (by walk_at "mem") callable_builtin ?_
  walk_at "ww"
  refine WC_len oo (by simp; omega) ?_
  walk_at "ww"
  refine ite_b (fun hb => ?_) fun hb => ?_
  · walk_at "ww"
    have : os = [] := by
      have : os.length = 0 := by simpa using hb
      exact List.eq_nil_of_length_eq_zero this
    have h0 := hq vh []
    rw [List.append_nil] at h0
    exact h0 (by rw [turnP, if_pos this]; exact oh)
  · have hne : os ≠ [] := by rintro rfl; simp at hb
    have hol : 1 ≤ os.length := by cases os with | nil => exact absurd rfl hne | cons _ _ => simp
    obtain ⟨rv, hst, rvs, hrl, hrn, hrow⟩ := hst
    walk_at "ww"
    refine item_tuple hst.glob (by decide) (by decide) rfl ?_
    walk_at "ww"
    refine WS_for (WItr_range hA (by walk_at "mem") ?_)
    walk_at "ww"
    refine WE_call (by walk_at "mem") callable_builtin ?_
    walk_at "ww"
    refine WC_len oh.app (by simp; omega) ?_
    walk_at "ww"
    rw [List.length_map]
    have hsz : (Builtin.Range.rangeSize 0 (hs.length : Int) 1).toNat = hs.length := by rw [rangeSize_one]; split <;> omega
    let f : Nat → Int := fun i => hs.getD i 0 + sg * (sumP b os i st.rows st.add).fdiv (2 ^ st.sh.toNat)
    refine ⟨0, _, 1, rfl, by decide, by decide, by omega, by decide, fun i ρ' σ' => σ' = σ ++ [.list (((List.range i).map f).map .int)] ∧ ∃ t0 t1 t2 t3, ρ' = [(Str.ofString "half", some vh), (Str.ofString "other", some vo), (Str.ofString "step", some vs), (Str.ofString "border", some (V.str b)), (Str.ofString "sign", some (V.int sg)), (Str.ofString "rows", some rv), (Str.ofString "out", some (V.ref (List.length σ))), (Str.ofString "i", t0), (Str.ofString "total", t1), (Str.ofString "offset", t2), (Str.ofString "weight", t3)], ?_, ?_, ?_⟩
    · exact ⟨rfl, _, _, _, _, rfl⟩
    · rintro i ρ' σ' hi ⟨rfl, t0, t1, t2, t3, rfl⟩
      rw [hsz] at hi
      refine ⟨trivial, ?_⟩
      have e0 : (0 : Int) + (i : Int) * 1 = i := by omega
      show WAs _ _ _ _ (V.int (0 + (i : Int) * 1)) _ _ _ _
      rw [e0]
      walk_at "ww"
      refine item_tuple hst.glob (by decide) (by decide) rfl ?_
      walk_at "ww"
      refine WS_for (WItr_of ?_)
      walk_at "ww"
      refine ⟨_, _, _, Itb_list hA hrl.glob, ?_⟩
      refine ⟨fun j ρ' σ' => σ' = σ ++ [.list (((List.range i).map f).map .int)] ∧ ∃ t2 t3, ρ' = [(Str.ofString "half", some vh), (Str.ofString "other", some vo), (Str.ofString "step", some vs), (Str.ofString "border", some (V.str b)), (Str.ofString "sign", some (V.int sg)), (Str.ofString "rows", some rv), (Str.ofString "out", some (V.ref (List.length σ))), (Str.ofString "i", some (.int i)), (Str.ofString "total", some (.int (sumP b os i (st.rows.take j) st.add))), (Str.ofString "offset", t2), (Str.ofString "weight", t3)], ?_, ?_, ?_⟩
      · exact ⟨rfl, _, _, rfl⟩
      · rintro j ρ' σ' hj ⟨rfl, u2, u3, rfl⟩
        refine ⟨hrl.glob, ?_⟩
        rw [hrn] at hj
        obtain ⟨r, hr⟩ : ∃ r, st.rows[j]? = some r := ⟨st.rows[j], by simp [hj]⟩
        refine WAs_tuple hA (hrow j r hr).glob ?_
        walk_at "ww"
        refine WE_call (by walk_at "mem") c.c109 ?_
        walk_at "ww"
        refine WE_call (by walk_at "mem") callable_builtin ?_
        walk_at "ww"
        refine WC_len oo.app (by simp; omega) ?_
        walk_at "ww"
        rw [List.length_map]
        refine place_spec c hA hd (by omega) (by omega) ?_
        walk_at "ww"
        have pr := place_range (k := (i : Int) + r.1) (c := os.length) (b := b) (by omega)
        refine item_list oo.app pr.1 (by omega) (getD_int _ _ (by omega)) ?_
        walk_at "ww"
        have hwr := hw r (List.mem_of_getElem? hr)
        refine mul_ii (mul_small hwr.1 hwr.2) ?_
        walk_at "ww"
        refine ⟨rfl, some (.int r.1), some (.int r.2), ?_⟩
        rw [take_snoc hr, sumP, sumP, List.foldl_append]
        rfl
      · rintro ρ' σ' ⟨rfl, u2, u3, rfl⟩
        refine ⟨hrl.glob, ?_⟩
        walk_at "ww"
        rw [hrn, List.take_length]
        refine WE_meth ?_
        walk_at "ww"
        have hL : (σ ++ [O.list (((List.range i).map f).map .int)])[σ.length]? = some (O.list (((List.range i).map f).map .int)) := by simp
        refine WM_append hL ⟨callable_builtin, ?_⟩
        walk_at "ww"
        refine item_list oh.app (by omega) (by omega) (getD_int _ _ (by omega)) ?_
        walk_at "ww"
        refine item_tuple hst.glob (by decide) (by decide) rfl ?_
        walk_at "ww"
        refine shr_ii hsh ?_
        walk_at "ww"
        refine mul_ii (mul_small hsg.1 hsg.2) ?_
        walk_at "ww"
        refine WC_append hL (by simp [sizeLine]; omega) ?_
        walk_at "ww"
        refine ⟨?_, _, _, _, _, rfl⟩
        rw [List.range_succ]
        simp [f]
    · rintro ρ' σ' ⟨rfl, t0, t1, t2, t3, rfl⟩
      refine ⟨trivial, ?_⟩
      walk_at "ww"
      rw [hsz]
      refine hq (.ref σ.length) _ ?_
      rw [turnP, if_neg hne]
      show (σ ++ [_])[σ.length]? = _
      simp [f]
def evs (r : List Int) : List Int := (List.range ((r.length + 1) / 2)).map fun k => r.getD (2 * k) 0
def ods (r : List Int) : List Int := (List.range (r.length / 2)).map fun k => r.getD (2 * k + 1) 0
theorem pick_map (r : List Int) (l u k : Option Int) : pickV (r.map V.int) l u k = (pickV r l u k).map V.int := by
  unfold pickV
  rw [List.length_map, List.map_filterMap]
  congr 1
  funext j
  simp
theorem fm_range (r : List Int) (n : Nat) (g : Nat → Nat) (h : ∀ k, k < n → g k < r.length) : ((List.range n).map g).filterMap (r[·]?) = (List.range n).map fun k => r.getD (g k) 0 := by
  induction n with
  | zero => rfl
  | succ n ih =>
    rw [List.range_succ, List.map_append, List.filterMap_append, List.map_append, ih fun k hk => h k (by omega)]
    have := h n (by omega)
    simp [List.getD, this]
theorem pick_evs (r : List Int) : pickV r (some 0) none (some 2) = evs r := by
  have e1 : sliceBounds (some 0) none (some 2) r.length = (0, (r.length : Int), 2) := by simp [sliceBounds]; omega
  unfold pickV
  rw [e1]
  unfold sliceRange evs
  have e2 : (if (2 : Int) > 0 then (if (0 : Int) < r.length then ((r.length : Int) - 0 + 2 - 1) / 2 else 0) else (if (0 : Int) > r.length then (0 - (r.length : Int) - 2 - 1) / (-2) else 0)).toNat = (r.length + 1) / 2 := by
    rw [if_pos (by decide)]; split <;> omega
  show List.filterMap _ (List.map _ (List.range (Int.toNat _))) = _
  rw [e2]
  rw [fm_range r _ (fun k => ((0 : Int) + 2 * (k : Int)).toNat) (fun k hk => by omega)]
  refine List.map_congr_left fun k _ => ?_
  congr 1
  omega
theorem pick_ods (r : List Int) : pickV r (some 1) none (some 2) = ods r := by
  have e1 : sliceBounds (some 1) none (some 2) r.length = (min 1 (r.length : Int), (r.length : Int), 2) := by simp [sliceBounds]; omega
  unfold pickV
  rw [e1]
  unfold sliceRange ods
  have e2 : (if (2 : Int) > 0 then (if min 1 (r.length : Int) < r.length then ((r.length : Int) - min 1 (r.length : Int) + 2 - 1) / 2 else 0) else (if min 1 (r.length : Int) > r.length then (min 1 (r.length : Int) - (r.length : Int) - 2 - 1) / (-2) else 0)).toNat = r.length / 2 := by
    rw [if_pos (by decide)]; split <;> omega
  show List.filterMap _ (List.map _ (List.range (Int.toNat _))) = _
  rw [e2]
  rw [fm_range r _ (fun k => (min 1 (r.length : Int) + 2 * (k : Int)).toNat) (fun k hk => by omega)]
  refine List.map_congr_left fun k hk => ?_
  have := List.mem_range.mp hk
  congr 1
  omega
theorem turn_len {b : Str} {st : Step} {sg : Int} {hs os : List Int} : (turnP b st sg hs os).length = hs.length := by
  unfold turnP; split <;> simp
def fwdStep (b : Str) (eo : List Int × List Int) (st : Step) : List Int × List Int := if st.odd then (eo.1, turnP b st st.sg eo.2 eo.1) else (turnP b st st.sg eo.1 eo.2, eo.2)
def fwd (b : Str) (sts : List Step) (eo : List Int × List Int) : List Int × List Int := sts.foldl (fwdStep b) eo
theorem fwd_len {b : Str} : ∀ {sts : List Step} {eo : List Int × List Int}, (fwd b sts eo).1.length = eo.1.length ∧ (fwd b sts eo).2.length = eo.2.length
  | [], eo => ⟨rfl, rfl⟩
  | st :: sts, eo => by
    have ih := fwd_len (b := b) (sts := sts) (eo := fwdStep b eo st)
    have e : (fwdStep b eo st).1.length = eo.1.length ∧ (fwdStep b eo st).2.length = eo.2.length := by
      unfold fwdStep; split <;> simp [turn_len]
    exact ⟨ih.1.trans e.1, ih.2.trans e.2⟩
theorem fwd_snoc {b : Str} {sts : List Step} {i : Nat} {st : Step} {eo : List Int × List Int} (h : sts[i]? = some st) : fwd b (sts.take (i + 1)) eo = fwdStep b (fwd b (sts.take i) eo) st := by
  rw [take_snoc h, fwd, List.foldl_append]; rfl
def forwardP (i : Nat) (b : Str) (r : List Int) : List Int × List Int := fwd b (stepsOf i) (evs r, ods r)
def stOk (st : Step) : Bool := decide (-(2 ^ 63) ≤ st.sg) && decide (st.sg ≤ 2 ^ 62) && decide (-(2 ^ 62) ≤ st.sg) && decide (0 ≤ st.sh) && st.rows.all fun r => decide (-(2 ^ 63) ≤ r.2) && decide (r.2 ≤ 2 ^ 63)
theorem steps_ok : ∀ i : Fin 5, ((stepsOf i.val).all stOk) = true := by decide +kernel
theorem st_ok {i : Nat} (hi : i < 5) {j : Nat} {st : Step} (h : (stepsOf i)[j]? = some st) : (-(2 ^ 62) ≤ st.sg ∧ st.sg ≤ 2 ^ 62) ∧ 0 ≤ st.sh ∧ ∀ r ∈ st.rows, -(2 ^ 63) ≤ r.2 ∧ r.2 ≤ 2 ^ 63 := by
  have := List.all_eq_true.mp (steps_ok ⟨i, hi⟩) st (List.mem_of_getElem? h)
  simp only [stOk, Bool.and_eq_true, decide_eq_true_eq, List.all_eq_true] at this
  exact ⟨⟨this.1.1.2, this.1.1.1.2⟩, this.1.2, this.2⟩
theorem evs_len {r : List Int} : (evs r).length = (r.length + 1) / 2 := by simp [evs]
theorem ods_len {r : List Int} : (ods r).length = r.length / 2 := by simp [ods]
theorem forward_spec {C : Cx} {A : Around} {σ : AH} {E : EX} {Q : V → AH → Prop} {vr : V} {row : List Int} {ki bi : Nat} {kd b : Str} (c : Law C) (hA : A.handled = none) (hd : A.depth + 2 < recursionLimit) (hu : A.units + 200 < cLine)
    (hki : ki < 5) (hk : kd = kindOf ki) (hbi : bi < 3) (hb : b = bordOf bi) (orow : ObjAt C σ vr (.list (row.map .int))) (lr : row.length ≤ 100)
    (hq : ∀ v J v1 v2, ObjAt C (σ ++ J) v (.tuple [v1, v2]) → ObjAt C (σ ++ J) v1 (.list ((forwardP ki b row).1.map .int)) → ObjAt C (σ ++ J) v2 (.list ((forwardP ki b row).2.map .int)) → Q v (σ ++ J)) :
    WC C A (.ref 123) [vr, .str kd, .str b] σ Q E := by
  refine WC_def (pn := [Str.ofString "row", Str.ofString "kind", Str.ofString "border"]) (ln := [Str.ofString "even", Str.ofString "odd", Str.ofString "step"]) (gl := [(Str.ofString "need_kind", Value.ref 95), (Str.ofString "need_border", Value.ref 102), (Str.ofString "list", Value.type "list"), (Str.ofString "STEPS", Value.ref 35), (Str.ofString "_turn", Value.ref 116)]) (dv := []) (ds := []) (c.K _ _ rfl) rfl (codeRec_of c.K (by kernel_rfl)) (by first | assumption | omega | exact Nat.le_of_ble_eq_true rfl) .nil rfl (fun x v h => c.glo x v ((show ∀ p ∈ ([(Str.ofString "need_kind", Value.ref 95), (Str.ofString "need_border", Value.ref 102), (Str.ofString "list", Value.type "list"), (Str.ofString "STEPS", Value.ref 35), (Str.ofString "_turn", Value.ref 116)] : List (Str × Value)), p ∈ lawGlo by decide +kernel) (x, v) h)) ?_ (by decide +kernel) (by decide +kernel) (by decide +kernel) (by decide +kernel) ?_
  · intro s xs _ hl
    match xs, hl with
    | [x0, x1, x2], _ => exact BindsTo.of_eq rfl
  intro env henv
  replace c := c.wg [(Str.ofString "need_kind", Value.ref 95), (Str.ofString "need_border", Value.ref 102), (Str.ofString "list", Value.type "list"), (Str.ofString "STEPS", Value.ref 35), (Str.ofString "_turn", Value.ref 116)]
  show WSs (C.wg [(Str.ofString "need_kind", Value.ref 95), (Str.ofString "need_border", Value.ref 102), (Str.ofString "list", Value.type "list"), (Str.ofString "STEPS", Value.ref 35), (Str.ofString "_turn", Value.ref 116)]) _ _ _ [(Str.ofString "row", some (vr)), (Str.ofString "kind", some (.str kd)), (Str.ofString "border", some (.str b)), (Str.ofString "even", none), (Str.ofString "odd", none), (Str.ofString "step", none)] _ _ _
  walk_at "ww"
  refine WE_call (by walk_at "mem") c.c95 ?_
  walk_at "ww"
  refine need_kind_spec c (by show A.depth + 1 < _; omega) (by show A.units + _ + 100 < _; omega) hki hk ?_
  walk_at "ww"
  refine WE_call (by walk_at "mem") c.c102 ?_
  walk_at "ww"
  refine need_border_spec c (by show A.depth + 1 < _; omega) (by show A.units + _ + 100 < _; omega) hbi hb ?_
  walk_at "ww"
  refine WE_call (by walk_at "mem") callable_type ?_
  walk_at "ww"
  refine ⟨_, orow, by decide, by simp [sizeLine]; omega, ?_⟩
  rw [pick_map, pick_evs]
  walk_at "ww"
  refine WC_list (.new rfl) (by simp [sizeLine, evs_len]; omega) ?_
  walk_at "ww"
  refine WE_call (by walk_at "mem") callable_type ?_
  walk_at "ww"
  refine ⟨_, orow.app.app, by decide, by simp [sizeLine]; omega, ?_⟩
  rw [pick_map, pick_ods]
  walk_at "ww"
  refine WC_list (.new rfl) (by simp [sizeLine, ods_len]; omega) ?_
  walk_at "ww"
  refine WS_for (WItr_of ?_)
  walk_at "ww"
  refine WE_glob (by walk_at "mem") ?_
  walk_at "ww"
  subst hk
  refine kind_item c hki ?_
  obtain ⟨svs, hsl, hsn, hstp⟩ := steps_at c hki
  refine ⟨_, _, _, Itb_list hA hsl.glob, ?_⟩
  refine ⟨fun i ρ' σ' => ∃ J ve vo ts, σ' = σ ++ J ∧ ρ' = [(Str.ofString "row", some vr), (Str.ofString "kind", some (V.str (kindOf ki))), (Str.ofString "border", some (V.str b)), (Str.ofString "even", some ve), (Str.ofString "odd", some vo), (Str.ofString "step", ts)] ∧
    ObjAt C (σ ++ J) ve (.list ((fwd b ((stepsOf ki).take i) (evs row, ods row)).1.map .int)) ∧ ObjAt C (σ ++ J) vo (.list ((fwd b ((stepsOf ki).take i) (evs row, ods row)).2.map .int)), ?_, ?_, ?_⟩
  · refine ⟨[.list ((evs row).map .int), .list ((evs row).map .int), .list ((ods row).map .int), .list ((ods row).map .int)], _, _, _, by simp, rfl, ?_, ?_⟩
    · show (σ ++ _)[_]? = _
      simp [fwd]
    · show (σ ++ _)[_]? = _
      simp [fwd]
  · rintro i ρ' σ' hi ⟨J, ve, vo, ts, rfl, rfl, oe, oo⟩
    refine ⟨hsl.glob, ?_⟩
    rw [hsn] at hi
    obtain ⟨st, hst⟩ : ∃ st, (stepsOf ki)[i]? = some st := ⟨(stepsOf ki)[i], by simp [hi]⟩
    have hS := hstp i st hst
    obtain ⟨hsg, hsh, hrw⟩ := st_ok hki hst
    have hln := fwd_len (b := b) (sts := (stepsOf ki).take i) (eo := (evs row, ods row))
    rw [evs_len, ods_len] at hln
    have hsn2 := fwd_snoc (b := b) (eo := (evs row, ods row)) hst
    generalize fwd b ((stepsOf ki).take i) (evs row, ods row) = eo at *
    walk_at "ww"
    obtain ⟨rv, hst0, hst1⟩ := id hS
    refine item_tuple hst0.glob (by decide) (by decide) rfl ?_
    walk_at "ww"
    refine ite_b (fun hb => ?_) fun hb => ?_
    · have ho : st.odd = true := by
        cases h : st.odd with
        | true => rfl
        | false => rw [h] at hb; revert hb; decide
      walk_at "ww"
      refine WE_call (by walk_at "mem") c.c116 ?_
      walk_at "ww"
      refine item_tuple hst0.glob (by decide) (by decide) rfl ?_
      walk_at "ww"
      refine turn_spec (hs := eo.2) (os := eo.1) (st := st) c hA (by show A.depth + 1 + 1 < _; omega) hS ⟨by omega, by omega⟩ hrw hsh oo oe (by omega) (by omega) ?_
      intro v J' hv
      walk_at "ww"
      refine ⟨J ++ J', _, _, _, by simp, rfl, ?_, ?_⟩
      · rw [hsn2, fwdStep, if_pos ho, ← List.append_assoc]; exact oe.app
      · rw [hsn2, fwdStep, if_pos ho, ← List.append_assoc]; exact hv
    · have ho : st.odd = false := by
        cases h : st.odd with
        | false => rfl
        | true => rw [h] at hb; revert hb; decide
      walk_at "ww"
      refine WE_call (by walk_at "mem") c.c116 ?_
      walk_at "ww"
      refine item_tuple hst0.glob (by decide) (by decide) rfl ?_
      walk_at "ww"
      refine turn_spec (hs := eo.1) (os := eo.2) (st := st) c hA (by show A.depth + 1 + 1 < _; omega) hS ⟨by omega, by omega⟩ hrw hsh oe oo (by omega) (by omega) ?_
      intro v J' hv
      walk_at "ww"
      refine ⟨J ++ J', _, _, _, by simp, rfl, ?_, ?_⟩
      · rw [hsn2, fwdStep, if_neg (by rw [ho]; decide), ← List.append_assoc]; exact hv
      · rw [hsn2, fwdStep, if_neg (by rw [ho]; decide), ← List.append_assoc]; exact oo.app
  · rintro ρ' σ' ⟨J, ve, vo, ts, rfl, rfl, oe, oo⟩
    refine ⟨hsl.glob, ?_⟩
    rw [hsn, List.take_length] at oe oo
    walk_at "ww"
    have := hq (.ref (σ ++ J).length) (J ++ [.tuple [ve, vo]]) ve vo
    rw [← List.append_assoc] at this
    exact this (.new rfl) oe.app oo.app
def bwdStep (b : Str) (eo : List Int × List Int) (st : Step) : List Int × List Int := if st.odd then (eo.1, turnP b st (-st.sg) eo.2 eo.1) else (turnP b st (-st.sg) eo.1 eo.2, eo.2)
def bwd (b : Str) (sts : List Step) (eo : List Int × List Int) : List Int × List Int := sts.foldl (bwdStep b) eo
def inter1 (e o : List Int) (k : Nat) : List Int := e.getD k 0 :: (if k < o.length then [o.getD k 0] else [])
def inter (e o : List Int) (n : Nat) : List Int := (List.range n).flatMap (inter1 e o)
def backwardP (i : Nat) (b : Str) (lo hi : List Int) : List Int := inter (bwd b (stepsOf i).reverse (lo, hi)).1 (bwd b (stepsOf i).reverse (lo, hi)).2 lo.length
theorem bwd_len {b : Str} : ∀ {sts : List Step} {eo : List Int × List Int}, (bwd b sts eo).1.length = eo.1.length ∧ (bwd b sts eo).2.length = eo.2.length
  | [], eo => ⟨rfl, rfl⟩
  | st :: sts, eo => by
    have ih := bwd_len (b := b) (sts := sts) (eo := bwdStep b eo st)
    have e : (bwdStep b eo st).1.length = eo.1.length ∧ (bwdStep b eo st).2.length = eo.2.length := by
      unfold bwdStep; split <;> simp [turn_len]
    exact ⟨ih.1.trans e.1, ih.2.trans e.2⟩
theorem bwd_snoc {b : Str} {sts : List Step} {i : Nat} {st : Step} {eo : List Int × List Int} (h : sts[i]? = some st) : bwd b (sts.take (i + 1)) eo = bwdStep b (bwd b (sts.take i) eo) st := by
  rw [take_snoc h, bwd, List.foldl_append]; rfl
theorem inter_len (e o : List Int) : ∀ n, (inter e o n).length ≤ 2 * n
  | 0 => by simp [inter]
  | n + 1 => by
    have ih := inter_len e o n
    unfold inter at ih ⊢
    rw [List.range_succ, List.flatMap_append, List.length_append]
    have : ([n].flatMap (inter1 e o)).length ≤ 2 := by
      simp [inter1]; split <;> simp
    omega
theorem backward_spec {C : Cx} {A : Around} {σ : AH} {E : EX} {Q : V → AH → Prop} {vl vh : V} {lo hi : List Int} {ki bi : Nat} {kd b : Str} (c : Law C) (hA : A.handled = none) (hd : A.depth + 2 < recursionLimit) (hu : A.units + 200 < cLine)
    (hki : ki < 5) (hk : kd = kindOf ki) (hbi : bi < 3) (hb : b = bordOf bi) (ol : ObjAt C σ vl (.list (lo.map .int))) (oh : ObjAt C σ vh (.list (hi.map .int))) (ll : lo.length ≤ 100) (hh : lo.length = hi.length ∨ lo.length = hi.length + 1)
    (hq : ∀ v J, ObjAt C (σ ++ J) v (.list ((backwardP ki b lo hi).map .int)) → Q v (σ ++ J)) :
    WC C A (.ref 130) [vl, vh, .str kd, .str b] σ Q E := by
  refine WC_def (pn := [Str.ofString "low", Str.ofString "high", Str.ofString "kind", Str.ofString "border"]) (ln := [Str.ofString "even", Str.ofString "odd", Str.ofString "step", Str.ofString "out", Str.ofString "k"]) (gl := [(Str.ofString "need_kind", Value.ref 95), (Str.ofString "need_border", Value.ref 102), (Str.ofString "len", Value.builtin "len"), (Str.ofString "list", Value.type "list"), (Str.ofString "reversed", Value.type "reversed"), (Str.ofString "STEPS", Value.ref 35), (Str.ofString "_turn", Value.ref 116), (Str.ofString "range", Value.type "range")]) (dv := []) (ds := []) (c.K _ _ rfl) rfl (codeRec_of c.K (by kernel_rfl)) (by first | assumption | omega | exact Nat.le_of_ble_eq_true rfl) .nil rfl (fun x v h => c.glo x v ((show ∀ p ∈ ([(Str.ofString "need_kind", Value.ref 95), (Str.ofString "need_border", Value.ref 102), (Str.ofString "len", Value.builtin "len"), (Str.ofString "list", Value.type "list"), (Str.ofString "reversed", Value.type "reversed"), (Str.ofString "STEPS", Value.ref 35), (Str.ofString "_turn", Value.ref 116), (Str.ofString "range", Value.type "range")] : List (Str × Value)), p ∈ lawGlo by decide +kernel) (x, v) h)) ?_ (by decide +kernel) (by decide +kernel) (by decide +kernel) (by decide +kernel) ?_
  · intro s xs _ hl
    match xs, hl with
    | [x0, x1, x2, x3], _ => exact BindsTo.of_eq rfl
  intro env henv
  replace c := c.wg [(Str.ofString "need_kind", Value.ref 95), (Str.ofString "need_border", Value.ref 102), (Str.ofString "len", Value.builtin "len"), (Str.ofString "list", Value.type "list"), (Str.ofString "reversed", Value.type "reversed"), (Str.ofString "STEPS", Value.ref 35), (Str.ofString "_turn", Value.ref 116), (Str.ofString "range", Value.type "range")]
  show WSs (C.wg [(Str.ofString "need_kind", Value.ref 95), (Str.ofString "need_border", Value.ref 102), (Str.ofString "len", Value.builtin "len"), (Str.ofString "list", Value.type "list"), (Str.ofString "reversed", Value.type "reversed"), (Str.ofString "STEPS", Value.ref 35), (Str.ofString "_turn", Value.ref 116), (Str.ofString "range", Value.type "range")]) _ _ _ [(Str.ofString "low", some (vl)), (Str.ofString "high", some (vh)), (Str.ofString "kind", some (.str kd)), (Str.ofString "border", some (.str b)), (Str.ofString "even", none), (Str.ofString "odd", none), (Str.ofString "step", none), (Str.ofString "out", none), (Str.ofString "k", none)] _ _ _
  have hA' : (A.deeper env).handled = none := hA
  walk_at "ww"
  refine WE_call (by walk_at "mem") c.c95 ?_
  walk_at "ww"
  refine need_kind_spec c (by show A.depth + 1 < _; omega) (by show A.units + _ + 100 < _; omega) hki hk ?_
  walk_at "ww"
  refine WE_call (by walk_at "mem") c.c102 ?_
  walk_at "ww"
  refine need_border_spec c (by show A.depth + 1 < _; omega) (by show A.units + _ + 100 < _; omega) hbi hb ?_
  walk_at "ww"
  refine WE_call (by walk_at "mem") callable_builtin ?_
  walk_at "ww"
  refine WC_len ol (by simp; omega) ?_
  walk_at "ww"
  refine WE_call (by walk_at "mem") callable_builtin ?_
  walk_at "ww"
  refine WC_len oh (by simp; omega) ?_
  walk_at "ww"
  refine WE_call (by walk_at "mem") callable_builtin ?_
  walk_at "ww"
  refine WC_len oh (by simp; omega) ?_
  walk_at "ww"
  refine nin_tuple_dd .int (.tuple (.new rfl) (.cons .int (.cons .int .nil))) rfl rfl (by show A.units + _ + 65 < _; omega) ?_
  have e0 : (!([PyData.int (hi.map V.int).length, .int ((hi.map V.int).length + 1)].any fun y => PyData.eqv y (.int (lo.map V.int).length))) = false := by
    simp [PyData.eqv]; omega
  rw [e0]
  walk_at "ww"
  refine WE_call (by walk_at "mem") callable_type ?_
  walk_at "ww"
  refine WC_list ol.app (by simp [sizeLine]; omega) ?_
  walk_at "ww"
  refine WE_call (by walk_at "mem") callable_type ?_
  walk_at "ww"
  refine WC_list oh.app.app (by simp [sizeLine]; omega) ?_
  walk_at "ww"
  refine WS_for (WItr_rev hA' (by walk_at "mem") ?_)
  walk_at "ww"
  refine WE_glob (by walk_at "mem") ?_
  walk_at "ww"
  subst hk
  refine kind_item c hki ?_
  walk_at "ww"
  obtain ⟨svs, hsl, hsn, hstp⟩ := steps_at c hki
  refine ⟨_, _, rfl, hsl.glob, ?_⟩
  refine ⟨fun i ρ' σ' => ∃ J ve vo ts, σ' = σ ++ J ∧ ρ' = [(Str.ofString "low", some vl), (Str.ofString "high", some vh), (Str.ofString "kind", some (V.str (kindOf ki))), (Str.ofString "border", some (V.str b)), (Str.ofString "even", some ve), (Str.ofString "odd", some vo), (Str.ofString "step", ts), (Str.ofString "out", none), (Str.ofString "k", none)] ∧
    ObjAt C (σ ++ J) ve (.list ((bwd b ((stepsOf ki).reverse.take i) (lo, hi)).1.map .int)) ∧ ObjAt C (σ ++ J) vo (.list ((bwd b ((stepsOf ki).reverse.take i) (lo, hi)).2.map .int)), ?_, ?_, ?_⟩
  · refine ⟨[.tuple [.int (hi.map V.int).length, .int ((hi.map V.int).length + 1)], .list (lo.map .int), .list (hi.map .int)], _, _, _, by simp, rfl, ?_, ?_⟩
    · show (σ ++ _)[_]? = _
      simp [bwd]
    · show (σ ++ _)[_]? = _
      simp [bwd]
  · rintro i ρ' σ' hi' ⟨J, ve, vo, ts, rfl, rfl, oe, oo⟩
    refine ⟨hsl.glob, ?_⟩
    rw [hsn] at hi'
    obtain ⟨st, hst⟩ : ∃ st, (stepsOf ki)[(stepsOf ki).length - 1 - i]? = some st := ⟨(stepsOf ki)[(stepsOf ki).length - 1 - i], by simp⟩
    have hstr : (stepsOf ki).reverse[i]? = some st := by rw [List.getElem?_reverse hi']; exact hst
    show WAs _ _ _ _ (svs.getD (svs.length - 1 - i) .none) _ _ _ _
    rw [hsn]
    have hS := hstp _ st hst
    obtain ⟨hsg, hsh, hrw⟩ := st_ok hki hst
    have hln := bwd_len (b := b) (sts := (stepsOf ki).reverse.take i) (eo := (lo, hi))
    have hsn2 := bwd_snoc (b := b) (eo := (lo, hi)) hstr
    generalize bwd b ((stepsOf ki).reverse.take i) (lo, hi) = eo at *
    simp only at hln
    walk_at "ww"
    obtain ⟨rv, hst0, hst1⟩ := id hS
    refine item_tuple hst0.glob (by decide) (by decide) rfl ?_
    walk_at "ww"
    refine ite_b (fun hb => ?_) fun hb => ?_
    · have ho : st.odd = true := by
        cases h : st.odd with
        | true => rfl
        | false => rw [h] at hb; revert hb; decide
      walk_at "ww"
      refine WE_call (by walk_at "mem") c.c116 ?_
      walk_at "ww"
      refine item_tuple hst0.glob (by decide) (by decide) rfl ?_
      walk_at "ww"
      refine turn_spec (hs := eo.2) (os := eo.1) (st := st) c hA (by show A.depth + 1 + 1 < _; omega) hS ⟨by omega, by omega⟩ hrw hsh oo oe (by omega) (by omega) ?_
      intro v J' hv
      walk_at "ww"
      refine ⟨J ++ J', _, _, _, by simp, rfl, ?_, ?_⟩
      · rw [hsn2, bwdStep, if_pos ho, ← List.append_assoc]; exact oe.app
      · rw [hsn2, bwdStep, if_pos ho, ← List.append_assoc]; exact hv
    · have ho : st.odd = false := by
        cases h : st.odd with
        | false => rfl
        | true => rw [h] at hb; revert hb; decide
      walk_at "ww"
      refine WE_call (by walk_at "mem") c.c116 ?_
      walk_at "ww"
      refine item_tuple hst0.glob (by decide) (by decide) rfl ?_
      walk_at "ww"
      refine turn_spec (hs := eo.1) (os := eo.2) (st := st) c hA (by show A.depth + 1 + 1 < _; omega) hS ⟨by omega, by omega⟩ hrw hsh oe oo (by omega) (by omega) ?_
      intro v J' hv
      walk_at "ww"
      refine ⟨J ++ J', _, _, _, by simp, rfl, ?_, ?_⟩
      · rw [hsn2, bwdStep, if_neg (by rw [ho]; decide), ← List.append_assoc]; exact hv
      · rw [hsn2, bwdStep, if_neg (by rw [ho]; decide), ← List.append_assoc]; exact oo.app
  · rintro ρ' σ' ⟨J, ve, vo, ts, rfl, rfl, oe, oo⟩
    refine ⟨hsl.glob, ?_⟩
    rw [hsn, ← List.length_reverse, List.take_length] at oe oo
    have hln := bwd_len (b := b) (sts := (stepsOf ki).reverse) (eo := (lo, hi))
    unfold backwardP at hq
    generalize bwd b (stepsOf ki).reverse (lo, hi) = eo at *
    simp only at hln
    rw [← hln.1] at hq
    walk_at "ww"
    refine WS_for (WItr_range hA' (by walk_at "mem") ?_)
    walk_at "ww"
    refine WE_call (by walk_at "mem") callable_builtin ?_
    walk_at "ww"
    refine WC_len oe.app (by simp; omega) ?_
    walk_at "ww"
    rw [List.length_map]
    have hsz : (Builtin.Range.rangeSize 0 (eo.1.length : Int) 1).toNat = eo.1.length := by rw [rangeSize_one]; split <;> omega
    refine ⟨0, _, 1, rfl, by decide, by decide, by omega, by decide, fun i ρ' σ' => σ' = σ ++ J ++ [.list ((inter eo.1 eo.2 i).map .int)] ∧ ∃ tk, ρ' = [(Str.ofString "low", some vl), (Str.ofString "high", some vh), (Str.ofString "kind", some (V.str (kindOf ki))), (Str.ofString "border", some (V.str b)), (Str.ofString "even", some ve), (Str.ofString "odd", some vo), (Str.ofString "step", ts), (Str.ofString "out", some (.ref (σ ++ J).length)), (Str.ofString "k", tk)], ?_, ?_, ?_⟩
    · exact ⟨rfl, _, rfl⟩
    · rintro i ρ' σ' hi ⟨rfl, tk, rfl⟩
      rw [hsz] at hi
      refine ⟨trivial, ?_⟩
      have e0 : (0 : Int) + (i : Int) * 1 = i := by omega
      show WAs _ _ _ _ (V.int (0 + (i : Int) * 1)) _ _ _ _
      rw [e0]
      walk_at "ww"
      refine WE_meth ?_
      walk_at "ww"
      have hL : (σ ++ J ++ [O.list ((inter eo.1 eo.2 i).map .int)])[(σ ++ J).length]? = some (O.list ((inter eo.1 eo.2 i).map .int)) := by rw [List.getElem?_append_right (Nat.le_refl _)]; simp
      refine WM_append hL ⟨callable_builtin, ?_⟩
      walk_at "ww"
      refine item_list oe.app (by omega) (by omega) (getD_int _ _ (by omega)) ?_
      walk_at "ww"
      have il := inter_len eo.1 eo.2 i
      refine WC_append hL (by simp [sizeLine]; omega) ?_
      have hset : (σ ++ J ++ [O.list ((inter eo.1 eo.2 i).map .int)]).set (σ ++ J).length (.list ((inter eo.1 eo.2 i).map .int ++ [.int (eo.1.getD i 0)])) = σ ++ J ++ [.list ((inter eo.1 eo.2 i).map .int ++ [.int (eo.1.getD i 0)])] := by simp
      rw [show (Int.toNat (i : Int)) = i from rfl, hset]
      have hin : inter eo.1 eo.2 (i + 1) = inter eo.1 eo.2 i ++ inter1 eo.1 eo.2 i := by unfold inter; rw [List.range_succ, List.flatMap_append]; simp
      walk_at "ww"
      refine WE_call (by walk_at "mem") callable_builtin ?_
      walk_at "ww"
      refine WC_len oo.app (by simp; omega) ?_
      walk_at "ww"
      rw [List.length_map]
      refine ite_b (fun hb => ?_) fun hb => ?_
      · have hb' : i < eo.2.length := by have := of_decide_eq_true hb; omega
        walk_at "ww"
        refine WE_meth ?_
        walk_at "ww"
        have hL2 : (σ ++ J ++ [O.list ((inter eo.1 eo.2 i).map .int ++ [.int (eo.1.getD i 0)])])[(σ ++ J).length]? = some (O.list ((inter eo.1 eo.2 i).map .int ++ [.int (eo.1.getD i 0)])) := by rw [List.getElem?_append_right (Nat.le_refl _)]; simp
        refine WM_append hL2 ⟨callable_builtin, ?_⟩
        walk_at "ww"
        refine item_list oo.app (by omega) (by omega) (getD_int _ _ (by omega)) ?_
        walk_at "ww"
        refine WC_append hL2 (by simp [sizeLine]; omega) ?_
        walk_at "ww"
        refine ⟨?_, _, rfl⟩
        rw [hin, inter1, if_pos hb']
        simp
      · have hb' : ¬ i < eo.2.length := by have := of_decide_eq_false hb; omega
        walk_at "ww"
        refine ⟨?_, _, rfl⟩
        rw [hin, inter1, if_neg hb']
        simp
    · rintro ρ' σ' ⟨rfl, tk, rfl⟩
      refine ⟨trivial, ?_⟩
      walk_at "ww"
      rw [hsz, List.append_assoc]
      refine hq (.ref (σ ++ J).length) _ ?_
      rw [← List.append_assoc]
      exact .new rfl
theorem getD_map_range (n : Nat) (f : Nat → Int) (i : Nat) (h : i < n) : ((List.range n).map f).getD i 0 = f i := by
  simp [List.getD, h]
theorem range_getD (xs : List Int) : (List.range xs.length).map (fun i => xs.getD i 0) = xs := by
  refine List.ext_getElem (by simp) fun i h1 h2 => ?_
  simp [List.getD, h2]
theorem turn_inv (b : Str) (st : Step) (sg : Int) (hs os : List Int) : turnP b st (-sg) (turnP b st sg hs os) os = hs := by
  by_cases h : os = []
  · unfold turnP; rw [if_pos h, if_pos h]
  · have e1 : ∀ sg hs, turnP b st sg hs os = (List.range hs.length).map fun i => hs.getD i 0 + sg * (sumP b os i st.rows st.add).fdiv (2 ^ st.sh.toNat) := fun sg hs => by unfold turnP; rw [if_neg h]
    rw [e1 (-sg), turn_len]
    refine Eq.trans (List.map_congr_left fun i hi => ?_) (range_getD hs)
    rw [e1 sg, getD_map_range _ _ _ (List.mem_range.mp hi), Int.neg_mul]
    omega
theorem step_inv (b : Str) (eo : List Int × List Int) (st : Step) : bwdStep b (fwdStep b eo st) st = eo := by
  obtain ⟨e, o⟩ := eo
  unfold bwdStep fwdStep
  cases st.odd with
  | true => simp only [if_true]; rw [turn_inv]
  | false => simp only [Bool.false_eq_true, if_false]; rw [turn_inv]
theorem bwd_fwd (b : Str) : ∀ (sts : List Step) (eo : List Int × List Int), bwd b sts.reverse (fwd b sts eo) = eo
  | [], _ => rfl
  | st :: sts, eo => by
    have ih := bwd_fwd b sts (fwdStep b eo st)
    show bwd b (st :: sts).reverse (fwd b sts (fwdStep b eo st)) = eo
    rw [List.reverse_cons]
    show List.foldl (bwdStep b) _ (sts.reverse ++ [st]) = eo
    rw [List.foldl_append]
    show bwdStep b (bwd b sts.reverse (fwd b sts (fwdStep b eo st))) st = eo
    rw [ih, step_inv]
theorem evs_cons (x y : Int) (r : List Int) : evs (x :: y :: r) = x :: evs r := by
  unfold evs
  have : ((x :: y :: r).length + 1) / 2 = (r.length + 1) / 2 + 1 := by simp only [List.length_cons]; omega
  rw [this, List.range_succ_eq_map, List.map_cons, List.map_map]
  congr 1
theorem ods_cons (x y : Int) (r : List Int) : ods (x :: y :: r) = y :: ods r := by
  unfold ods
  have : (x :: y :: r).length / 2 = r.length / 2 + 1 := by simp only [List.length_cons]; omega
  rw [this, List.range_succ_eq_map, List.map_cons, List.map_map]
  congr 1
theorem inter_cons (x y : Int) (e o : List Int) (n : Nat) : inter (x :: e) (y :: o) (n + 1) = x :: y :: inter e o n := by
  unfold inter
  rw [List.range_succ_eq_map, List.flatMap_cons, List.flatMap_map]
  have h1 : inter1 (x :: e) (y :: o) 0 = [x, y] := by simp [inter1]
  have h2 : (fun a => inter1 (x :: e) (y :: o) (Nat.succ a)) = inter1 e o := by
    funext k; simp [inter1, List.getD]
  rw [h1, h2]; rfl
theorem inter_evs : ∀ r : List Int, inter (evs r) (ods r) ((r.length + 1) / 2) = r
  | [] => by simp [inter]
  | [x] => by simp [inter, evs, ods, inter1, List.range_succ]
  | x :: y :: r => by
    have ih := inter_evs r
    have : ((x :: y :: r).length + 1) / 2 = (r.length + 1) / 2 + 1 := by simp only [List.length_cons]; omega
    rw [evs_cons, ods_cons, this, inter_cons, ih]
theorem back_forw (i : Nat) (b : Str) (r : List Int) : backwardP i b (forwardP i b r).1 (forwardP i b r).2 = r := by
  have e := bwd_fwd b (stepsOf i) (evs r, ods r)
  have hl := fwd_len (b := b) (sts := stepsOf i) (eo := (evs r, ods r))
  unfold backwardP forwardP
  show inter (bwd b (stepsOf i).reverse (fwd b (stepsOf i) (evs r, ods r))).1 (bwd b (stepsOf i).reverse (fwd b (stepsOf i) (evs r, ods r))).2 _ = r
  rw [e, hl.1, evs_len]
  exact inter_evs r
def wsum (rows : List (Int × Int)) : Int := (rows.map (·.2)).sum
theorem sumP_shift (b : Str) (os : List Int) (m : Int) (i : Nat) (h : os ≠ []) : ∀ (rows : List (Int × Int)) (a a' : Int) (w : Int), a' = a + w * m → sumP b (os.map (· + m)) i rows a' = sumP b os i rows a + (w + wsum rows) * m
  | [], a, a', w, e => by simp [sumP, wsum, e]
  | r :: rows, a, a', w, e => by
    have hl : 1 ≤ os.length := by cases os with | nil => exact absurd rfl h | cons _ _ => simp
    have pr := place_range (k := (i : Int) + r.1) (c := os.length) (b := b) (by omega)
    have g : (os.map (· + m)).getD (placeP ((i : Int) + r.1) (os.map (· + m)).length b).toNat 0 = os.getD (placeP ((i : Int) + r.1) os.length b).toNat 0 + m := by
      rw [List.length_map]
      have : (placeP ((i : Int) + r.1) os.length b).toNat < os.length := by omega
      simp [List.getD, this]
    have ih := sumP_shift b os m i h rows (a + r.2 * os.getD (placeP ((i : Int) + r.1) os.length b).toNat 0) (a' + r.2 * (os.map (· + m)).getD (placeP ((i : Int) + r.1) (os.map (· + m)).length b).toNat 0) (w + r.2) (by rw [g, e, Int.mul_add, Int.add_mul]; omega)
    show sumP b (os.map (· + m)) i rows (a' + _) = sumP b os i rows (a + _) + _
    rw [ih]
    congr 2
    simp [wsum, List.sum_cons]; omega
theorem turn_up (b : Str) (st : Step) (sg : Int) (hs os : List Int) (m : Int) : turnP b st sg (hs.map (· + m)) os = (turnP b st sg hs os).map (· + m) := by
  unfold turnP
  split
  · rfl
  · rw [List.length_map, List.map_map]
    refine List.map_congr_left fun i hi => ?_
    have := List.mem_range.mp hi
    simp [List.getD, this]; omega
theorem turn_zero (b : Str) (st : Step) (sg : Int) (hs os : List Int) (m : Int) (hw : wsum st.rows = 0) : turnP b st sg hs (os.map (· + m)) = turnP b st sg hs os := by
  by_cases h : os = []
  · subst h; rfl
  · unfold turnP
    rw [if_neg h, if_neg (by simpa using h)]
    refine List.map_congr_left fun i hi => ?_
    rw [sumP_shift b os m i h st.rows st.add st.add 0 (by omega), hw]
    simp
theorem turn_full (b : Str) (st : Step) (hs os : List Int) (m : Int) (hw : wsum st.rows = 2 ^ st.sh.toNat) (hl : os = [] → hs = []) : turnP b st (-1) (hs.map (· + m)) (os.map (· + m)) = turnP b st (-1) hs os := by
  by_cases h : os = []
  · have := hl h; subst h; subst this; rfl
  · unfold turnP
    rw [if_neg h, if_neg (by simpa using h), List.length_map]
    refine List.map_congr_left fun i hi => ?_
    have hi' := List.mem_range.mp hi
    rw [sumP_shift b os m i h st.rows st.add st.add 0 (by omega), hw]
    have hp : (0 : Int) < 2 ^ st.sh.toNat := Int.pow_pos (by decide)
    have e : (sumP b os i st.rows st.add + (0 + 2 ^ st.sh.toNat) * m).fdiv (2 ^ st.sh.toNat) = (sumP b os i st.rows st.add).fdiv (2 ^ st.sh.toNat) + m := by
      rw [Int.zero_add, Int.fdiv_eq_ediv_of_nonneg _ (Int.le_of_lt hp), Int.fdiv_eq_ediv_of_nonneg _ (Int.le_of_lt hp), Int.add_mul_ediv_left _ _ (by omega)]
    rw [e]
    simp [List.getD, hi']; omega
def keepsUp (st : Step) : Bool := !st.odd || decide (wsum st.rows = 0)
theorem fwd_up (b : Str) (m : Int) : ∀ (sts : List Step), sts.all keepsUp = true → ∀ e o : List Int, fwd b sts (e.map (· + m), o) = ((fwd b sts (e, o)).1.map (· + m), (fwd b sts (e, o)).2)
  | [], _, _, _ => rfl
  | st :: sts, h, e, o => by
    rw [List.all_cons, Bool.and_eq_true] at h
    show fwd b sts (fwdStep b (e.map (· + m), o) st) = ((fwd b sts (fwdStep b (e, o) st)).1.map (· + m), (fwd b sts (fwdStep b (e, o) st)).2)
    have hk := h.1
    unfold keepsUp at hk
    cases ho : st.odd with
    | false =>
      have e1 : fwdStep b (e.map (· + m), o) st = ((turnP b st st.sg e o).map (· + m), o) := by unfold fwdStep; rw [if_neg (by rw [ho]; decide), turn_up]
      have e2 : fwdStep b (e, o) st = (turnP b st st.sg e o, o) := by unfold fwdStep; rw [if_neg (by rw [ho]; decide)]
      rw [e1, e2]; exact fwd_up b m sts h.2 _ _
    | true =>
      rw [ho] at hk
      have hw : wsum st.rows = 0 := by simpa using hk
      have e1 : fwdStep b (e.map (· + m), o) st = (e.map (· + m), turnP b st st.sg o e) := by unfold fwdStep; rw [if_pos ho]; show (_, turnP b st st.sg o (e.map (· + m))) = _; rw [turn_zero _ _ _ _ _ _ hw]
      have e2 : fwdStep b (e, o) st = (e, turnP b st st.sg o e) := by unfold fwdStep; rw [if_pos ho]
      rw [e1, e2]; exact fwd_up b m sts h.2 _ _
def firstUp (st : Step) : Bool := st.odd && decide (st.sg = -1) && decide (wsum st.rows = 2 ^ st.sh.toNat)
def goodUp : List Step → Bool
  | [] => false
  | st :: r => firstUp st && r.all keepsUp
theorem good_all : ∀ i : Fin 5, goodUp (stepsOf i.val) = true := by decide +kernel
theorem evs_map (r : List Int) (m : Int) : evs (r.map (· + m)) = (evs r).map (· + m) := by
  unfold evs
  rw [List.length_map, List.map_map]
  refine List.map_congr_left fun k hk => ?_
  have : 2 * k < r.length := by have := List.mem_range.mp hk; omega
  simp [List.getD, this]
theorem ods_map (r : List Int) (m : Int) : ods (r.map (· + m)) = (ods r).map (· + m) := by
  unfold ods
  rw [List.length_map, List.map_map]
  refine List.map_congr_left fun k hk => ?_
  have : 2 * k + 1 < r.length := by have := List.mem_range.mp hk; omega
  simp [List.getD, this]
theorem forw_up {i : Nat} (hi : i < 5) (b : Str) (r : List Int) (m : Int) : forwardP i b (r.map (· + m)) = ((forwardP i b r).1.map (· + m), (forwardP i b r).2) := by
  have g := good_all ⟨i, hi⟩
  unfold forwardP
  rw [evs_map, ods_map]
  have hl1 := evs_len (r := r)
  have hl2 := ods_len (r := r)
  simp only at g
  generalize stepsOf i = sts at g
  cases sts with
  | nil => cases g
  | cons st rest =>
    simp only [goodUp, firstUp, Bool.and_eq_true, decide_eq_true_eq] at g
    obtain ⟨⟨⟨g1, g2⟩, g3⟩, g4⟩ := g
    show fwd b rest (fwdStep b ((evs r).map (· + m), (ods r).map (· + m)) st) = ((fwd b rest (fwdStep b (evs r, ods r) st)).1.map (· + m), (fwd b rest (fwdStep b (evs r, ods r) st)).2)
    have e1 : fwdStep b ((evs r).map (· + m), (ods r).map (· + m)) st = ((evs r).map (· + m), turnP b st (-1) (ods r) (evs r)) := by
      unfold fwdStep; rw [if_pos g1, g2]
      show (_, turnP b st (-1) ((ods r).map (· + m)) ((evs r).map (· + m))) = _
      rw [turn_full b st (ods r) (evs r) m g3 fun h => by
        have : (evs r).length = 0 := by rw [h]; rfl
        exact List.eq_nil_of_length_eq_zero (by omega)]
    have e2 : fwdStep b (evs r, ods r) st = (evs r, turnP b st (-1) (ods r) (evs r)) := by unfold fwdStep; rw [if_pos g1, g2]
    rw [e1, e2]; exact fwd_up b m rest g4 _ _
theorem cell_spec {C : Cx} {A : Around} {σ : AH} {E : EX} {Q : V → AH → Prop} {a : Addr} {ns : List Int} {k : Int} (c : Law C) (hd : A.depth < recursionLimit) (hg : (a, O.list (ns.map .int)) ∈ C.gob) (hl : ns.length ≤ 63) (hk : 0 ≤ k) (hq : Q (.int (ns.getD k.toNat 0)) σ) : WC C A (.ref 149) [.k (.ref a), .int k] σ Q E := by
  refine WC_def (pn := [Str.ofString "script", Str.ofString "k"]) (ln := []) (gl := [(Str.ofString "len", Value.builtin "len")]) (dv := []) (ds := []) (c.K _ _ rfl) rfl (codeRec_of c.K (by kernel_rfl)) (by first | assumption | omega | exact Nat.le_of_ble_eq_true rfl) .nil rfl (fun x v h => c.glo x v ((show ∀ p ∈ ([(Str.ofString "len", Value.builtin "len")] : List (Str × Value)), p ∈ lawGlo by decide +kernel) (x, v) h)) ?_ (by decide +kernel) (by decide +kernel) (by decide +kernel) (by decide +kernel) ?_
  · intro s xs _ hl
    match xs, hl with
    | [x0, x1], _ => exact BindsTo.of_eq rfl
  intro env henv
  replace c := c.wg [(Str.ofString "len", Value.builtin "len")]
  show WSs (C.wg [(Str.ofString "len", Value.builtin "len")]) _ _ _ [(Str.ofString "script", some (.k (.ref a))), (Str.ofString "k", some (.int k))] _ _ _
  walk_at "ww"
  refine WE_call (by walk_at "mem") callable_builtin ?_
  walk_at "ww"
  refine WC_len (show ObjAt _ _ (.k (.ref a)) _ from hg) (by simp; omega) ?_
  walk_at "ww"
  refine ite_b (fun hb => ?_) fun hb => ?_
  · have hb' := of_decide_eq_true hb
    simp only [List.length_map] at hb'
    have hi : k.toNat < ns.length := by omega
    walk_at "ww"
    refine item_list (x := .int (ns.getD k.toNat 0)) (show ObjAt _ _ (.k (.ref a)) _ from hg) hk (by omega) (by simp [List.getD, hi]) ?_
    walk_at "ww"
    exact hq
  · have hb' := of_decide_eq_false hb
    simp only [List.length_map] at hb'
    have e : ns.getD k.toNat 0 = 0 := by rw [List.getD, List.getElem?_eq_none (by omega)]; rfl
    walk_at "ww"
    rw [e] at hq
    exact hq
/- _at: the item at the place -/
def mstep (n : Int) (x : Int × Int) : Int × Int := if x.2 + x.1 < 0 ∨ x.2 + x.1 ≥ n then (-x.1, x.2 + -x.1) else (x.1, x.2 + x.1)
def mwalk (n : Int) : Nat → Int × Int
  | 0 => (1, 0)
  | k + 1 => mstep n (mwalk n k)
def okM (n k : Nat) : Bool := (placeP ((k : Int) - 4) (2 + n) (bordOf 1) == (mwalk (2 + n) ((k : Int) - 4).natAbs).2)
theorem okM_all : ∀ n : Fin 6, ∀ k : Fin 16, okM n.val k.val = true := by decide +kernel
theorem at_spec {C : Cx} {A : Around} {σ : AH} {E : EX} {Q : V → AH → Prop} {vr : V} {row : List Int} {k : Int} {bi : Nat} {b : Str} (c : Law C) (hA : A.handled = none) (hd : A.depth < recursionLimit) (hbi : bi < 3) (hb : b = bordOf bi)
    (orow : ObjAt C σ vr (.list (row.map .int))) (h1 : 1 ≤ row.length) (h6 : row.length ≤ 7) (hk1 : -4 ≤ k) (hk2 : k < 12) (hq : Q (.int (row.getD (placeP k row.length b).toNat 0)) σ) :
    WC C A (.ref 142) [vr, .int k, .str b] σ Q E := by
  refine WC_def (pn := [Str.ofString "row", Str.ofString "k", Str.ofString "border"]) (ln := [Str.ofString "step", Str.ofString "at", Str.ofString "turn"]) (gl := [(Str.ofString "len", Value.builtin "len"), (Str.ofString "range", Value.type "range"), (Str.ofString "abs", Value.builtin "abs")]) (dv := []) (ds := []) (c.K _ _ rfl) rfl (codeRec_of c.K (by kernel_rfl)) (by first | assumption | omega | exact Nat.le_of_ble_eq_true rfl) .nil rfl (fun x v h => c.glo x v ((show ∀ p ∈ ([(Str.ofString "len", Value.builtin "len"), (Str.ofString "range", Value.type "range"), (Str.ofString "abs", Value.builtin "abs")] : List (Str × Value)), p ∈ lawGlo by decide +kernel) (x, v) h)) ?_ (by decide +kernel) (by decide +kernel) (by decide +kernel) (by decide +kernel) ?_
  · intro s xs _ hl
    match xs, hl with
    | [x0, x1, x2], _ => exact BindsTo.of_eq rfl
  intro env henv
  replace c := c.wg [(Str.ofString "len", Value.builtin "len"), (Str.ofString "range", Value.type "range"), (Str.ofString "abs", Value.builtin "abs")]
  show WSs (C.wg [(Str.ofString "len", Value.builtin "len"), (Str.ofString "range", Value.type "range"), (Str.ofString "abs", Value.builtin "abs")]) _ _ _ [(Str.ofString "row", some (vr)), (Str.ofString "k", some (.int k)), (Str.ofString "border", some (.str b)), (Str.ofString "step", none), (Str.ofString "at", none), (Str.ofString "turn", none)] _ _ _
  have hA' : (A.deeper env).handled = none := hA
  have pr := place_range (k := k) (c := row.length) (b := b) (by omega)
  subst hb
  rcases five3 bi hbi with rfl | rfl | rfl
  · have e : placeP k row.length (bordOf 0) = max 0 (min ((row.length : Int) - 1) k) := rfl
    rw [e] at hq pr
    walk_at "ww"
    refine ite_b (fun hb => ?_) fun hb => ?_
    · have hb := of_decide_eq_true hb
      walk_at "ww"
      refine item_list orow (by decide) (by decide) (getD_int _ _ (by omega)) ?_
      walk_at "ww"
      rw [show max 0 (min ((row.length : Int) - 1) k) = 0 by omega] at hq
      exact hq
    have hb0 := of_decide_eq_false hb
    walk_at "ww"
    refine WE_call (by walk_at "mem") callable_builtin ?_
    walk_at "ww"
    refine WC_len orow (by simp; omega) ?_
    walk_at "ww"
    rw [List.length_map]
    refine ite_b (fun hb => ?_) fun hb => ?_
    · have hb := of_decide_eq_true hb
      walk_at "ww"
      refine item_neg (x := .int (row.getD (row.length - 1) 0)) orow (by decide) (by simp; omega) (by decide) (by rw [List.length_map, show (-1 + (row.length : Int)).toNat = row.length - 1 by omega]; exact getD_int _ _ (by omega)) ?_
      walk_at "ww"
      rw [show (max 0 (min ((row.length : Int) - 1) k)).toNat = row.length - 1 by omega] at hq
      exact hq
    · have hb := of_decide_eq_false hb
      walk_at "ww"
      refine item_list orow (by omega) (by omega) (getD_int _ _ (by omega)) ?_
      walk_at "ww"
      rw [show max 0 (min ((row.length : Int) - 1) k) = k by omega] at hq
      exact hq
  · walk_at "ww"
    refine WS_for (WItr_range hA' (by walk_at "mem") ?_)
    walk_at "ww"
    refine WE_call (by walk_at "mem") callable_builtin ?_
    walk_at "ww"
    refine WC_abs ?_
    walk_at "ww"
    have hk : (if k < 0 then -k else k) = (k.natAbs : Int) := by split <;> omega
    rw [hk]
    have hsz : (Builtin.Range.rangeSize 0 (k.natAbs : Int) 1).toNat = k.natAbs := by rw [rangeSize_one]; split <;> omega
    let W : Nat → Int × Int := fun i => if row.length = 1 then (1, 0) else mwalk row.length i
    have fin : (W k.natAbs).2 = placeP k row.length (bordOf 1) := by
      by_cases h : row.length = 1
      · simp only [W, if_pos h]
        rw [h]; rfl
      · simp only [W, if_neg h]
        have := okM_all ⟨row.length - 2, by omega⟩ ⟨(k + 4).toNat, by omega⟩
        simp only [okM, beq_iff_eq] at this
        rw [show ((k + 4).toNat : Int) - 4 = k by omega, show (2 : Int) + ((row.length - 2 : Nat) : Int) = row.length by omega] at this
        exact this.symm
    refine ⟨0, _, 1, rfl, by decide, by decide, by omega, by decide, fun i ρ' σ' => σ' = σ ∧ ∃ tv, ρ' = [(Str.ofString "row", some vr), (Str.ofString "k", some (.int k)), (Str.ofString "border", some (V.str (bordOf 1))), (Str.ofString "step", some (.int (W i).1)), (Str.ofString "at", some (.int (W i).2)), (Str.ofString "turn", tv)], ?_, ?_, ?_⟩
    · refine ⟨rfl, none, ?_⟩
      have : W 0 = (1, 0) := by simp only [W, mwalk]; split <;> rfl
      rw [this]
    · rintro i ρ' σ' hi ⟨rfl, tv, rfl⟩
      refine ⟨trivial, ?_⟩
      rw [hsz] at hi
      walk_at "ww"
      refine WE_call (by walk_at "mem") callable_builtin ?_
      walk_at "ww"
      refine WC_len orow (by simp; omega) ?_
      walk_at "ww"
      rw [List.length_map]
      refine ite_b (fun hb => ?_) fun hb => ?_
      · have h : row.length = 1 := by have : (row.length : Int) = 1 := by simpa using hb
                                      omega
        walk_at "ww"
        have hfin : (W i).2 = (W k.natAbs).2 := by simp only [W, if_pos h]
        rw [hfin, fin]
        refine item_list orow pr.1 (by omega) (getD_int _ _ (by omega)) ?_
        walk_at "ww"
        exact hq
      · have h : row.length ≠ 1 := by intro h; rw [h] at hb; revert hb; decide
        have hs : W (i + 1) = mstep row.length (W i) := by simp only [W, if_neg h, mwalk]
        generalize W i = x at *
        obtain ⟨stp, at'⟩ := x
        walk_at "ww"
        refine ite_b (fun hb => ?_) fun hb => ?_
        · have hb := of_decide_eq_true hb
          walk_at "ww"
          refine ⟨rfl, some (.int (0 + (i : Int) * 1)), ?_⟩
          rw [hs, mstep, if_pos (.inl hb)]
        · have hb1 := of_decide_eq_false hb
          walk_at "ww"
          refine WE_call (by walk_at "mem") callable_builtin ?_
          walk_at "ww"
          refine WC_len orow (by simp; omega) ?_
          walk_at "ww"
          rw [List.length_map]
          refine ite_b (fun hb => ?_) fun hb => ?_
          · have hb := of_decide_eq_true hb
            walk_at "ww"
            refine ⟨rfl, some (.int (0 + (i : Int) * 1)), ?_⟩
            rw [hs, mstep, if_pos (.inr hb)]
          · have hb2 := of_decide_eq_false hb
            walk_at "ww"
            refine ⟨rfl, some (.int (0 + (i : Int) * 1)), ?_⟩
            rw [hs, mstep, if_neg (by intro h; rcases h with h | h; exact hb1 h; exact hb2 h)]
    · rintro ρ' σ' ⟨rfl, tv, rfl⟩
      refine ⟨trivial, ?_⟩
      rw [hsz, fin]
      walk_at "ww"
      refine item_list orow pr.1 (by omega) (getD_int _ _ (by omega)) ?_
      walk_at "ww"
      exact hq
  · have e : placeP k row.length (bordOf 2) = k.fmod row.length := rfl
    rw [e] at hq pr
    have hn : (0 : Int) < row.length := by omega
    walk_at "ww"
    have fe : ∀ x : Int, x.fmod row.length = x % (row.length : Int) := fun x => Int.fmod_eq_emod_of_nonneg _ (by omega)
    rw [fe] at hq pr
    refine WS_while (fun m ρ' σ' => σ' = σ ∧ ∃ q : Int, m = (-q).toNat ∧ q % (row.length : Int) = k % (row.length : Int) ∧ q < 100 ∧ ρ' = [(Str.ofString "row", some vr), (Str.ofString "k", some (.int q)), (Str.ofString "border", some (V.str (bordOf 2))), (Str.ofString "step", none), (Str.ofString "at", none), (Str.ofString "turn", none)]) (-k).toNat ⟨rfl, k, rfl, rfl, by omega, rfl⟩ ?_
    rintro m ρ' σ' ⟨rfl, q, rfl, hq1, hq2, rfl⟩
    walk_at "ww"
    refine ite_b (fun hb => ?_) fun hb => ?_
    · have hb := of_decide_eq_true hb
      walk_at "ww"
      refine WE_call (by walk_at "mem") callable_builtin ?_
      walk_at "ww"
      refine WC_len orow (by simp; omega) ?_
      walk_at "ww"
      rw [List.length_map]
      exact ⟨(-(q + row.length)).toNat, by omega, rfl, q + row.length, rfl, by rw [Int.add_emod_right]; exact hq1, by omega, rfl⟩
    have hb := of_decide_eq_false hb
    walk_at "ww"
    refine WS_while (fun m ρ' σ' => σ' = _ ∧ ∃ q : Int, m = q.toNat ∧ q % (row.length : Int) = k % (row.length : Int) ∧ q < 100 ∧ 0 ≤ q ∧ ρ' = [(Str.ofString "row", some vr), (Str.ofString "k", some (.int q)), (Str.ofString "border", some (V.str (bordOf 2))), (Str.ofString "step", none), (Str.ofString "at", none), (Str.ofString "turn", none)]) q.toNat ⟨rfl, q, rfl, hq1, hq2, by omega, rfl⟩ ?_
    rintro m ρ' σ' ⟨rfl, q, rfl, hq1, hq2, hq0, rfl⟩
    walk_at "ww"
    refine WE_call (by walk_at "mem") callable_builtin ?_
    walk_at "ww"
    refine WC_len orow (by simp; omega) ?_
    walk_at "ww"
    rw [List.length_map]
    refine ite_b (fun hb => ?_) fun hb => ?_
    · have hb := of_decide_eq_true hb
      walk_at "ww"
      refine WE_call (by walk_at "mem") callable_builtin ?_
      walk_at "ww"
      refine WC_len orow (by simp; omega) ?_
      walk_at "ww"
      rw [List.length_map]
      exact ⟨(q - row.length).toNat, by omega, rfl, q - row.length, rfl, by rw [Int.sub_emod_right]; exact hq1, by omega, by omega, rfl⟩
    have hb := of_decide_eq_false hb
    rw [← hq1, Int.emod_eq_of_lt hq0 (by omega)] at hq
    walk_at "ww"
    refine item_list orow (by omega) (by omega) (getD_int _ _ (by omega)) ?_
    walk_at "ww"
    exact hq
def atP (b : Str) (r : List Int) (k : Int) : Int := r.getD (placeP k r.length b).toNat 0
theorem place_id {k c : Int} {b : Str} (h0 : 0 ≤ k) (h1 : k < c) : placeP k c b = k := by
  unfold placeP
  split
  · rw [Int.fmod_eq_emod_of_nonneg _ (by omega), Int.emod_eq_of_lt h0 h1]
  split
  · omega
  split
  · rename_i h; have : c = 1 := by simpa using h
    omega
  · rename_i h
    have h : c ≠ 1 := by simpa using h
    have e : k.fmod (2 * c - 2) = k := by rw [Int.fmod_eq_emod_of_nonneg _ (by omega), Int.emod_eq_of_lt h0 (by omega)]
    rw [e]; split <;> omega
theorem atP_id (b : Str) (r : List Int) {i : Nat} (h : i < r.length) : atP b r i = r.getD i 0 := by
  unfold atP; rw [place_id (by omega) (by omega)]; rfl
theorem fwd_nil (b : Str) : ∀ (sts : List Step) (e : List Int), fwd b sts (e, []) = (e, [])
  | [], _ => rfl
  | st :: sts, e => by
    show fwd b sts (fwdStep b (e, []) st) = _
    have : fwdStep b (e, []) st = (e, []) := by
      unfold fwdStep
      split
      · have : turnP b st st.sg [] e = [] := by unfold turnP; split <;> rfl
        show (e, turnP b st st.sg [] e) = _
        rw [this]
      · rfl
    rw [this]; exact fwd_nil b sts e
theorem turn_pos {b : Str} {st : Step} {sg : Int} {hs os : List Int} (h : os ≠ []) : turnP b st sg hs os = (List.range hs.length).map fun i => hs.getD i 0 + sg * (sumP b os i st.rows st.add).fdiv (2 ^ st.sh.toNat) := by unfold turnP; rw [if_neg h]
def hPlain (ki : Nat) (b : Str) (e o : List Int) (i : Nat) : Int :=
  if ki = 0 ∨ ki = 2 then o.getD i 0 - e.getD i 0
  else if ki = 1 then o.getD i 0 - (atP b e i + atP b e (i + 1)).fdiv 2
  else o.getD i 0 - (9 * (atP b e i + atP b e (i + 1)) - (atP b e (i - 1) + atP b e (i + 2)) + 8).fdiv 16
def lPlain (ki : Nat) (b : Str) (e h : List Int) (i : Nat) : Int :=
  if ki = 0 ∨ ki = 2 then e.getD i 0 + (atP b h i).fdiv 2
  else if ki = 4 then e.getD i 0 + (9 * (atP b h (i - 1) + atP b h i) - (atP b h (i - 2) + atP b h (i + 1)) + 16).fdiv 32
  else e.getD i 0 + (atP b h (i - 1) + atP b h i + 2).fdiv 4
def h2Plain (b : Str) (l h : List Int) (i : Nat) : Int := h.getD i 0 - (2 + atP b l (i + 1) - atP b l (i - 1)).fdiv 4
def tab (n : Nat) (f : Nat → Int) : List Int := (List.range n).map f
theorem tab_len {n : Nat} {f : Nat → Int} : (tab n f).length = n := by simp [tab]
theorem plain_eq {ki : Nat} (hi : ki < 5) (b : Str) (r : List Int) (hne : ods r ≠ []) :
    forwardP ki b r = (tab (evs r).length (lPlain ki b (evs r) (tab (ods r).length (hPlain ki b (evs r) (ods r)))),
      if ki = 2 then tab (ods r).length (h2Plain b (tab (evs r).length (lPlain ki b (evs r) (tab (ods r).length (hPlain ki b (evs r) (ods r))))) (tab (ods r).length (hPlain ki b (evs r) (ods r)))) else tab (ods r).length (hPlain ki b (evs r) (ods r))) := by
  have l1 := evs_len (r := r)
  have l2 := ods_len (r := r)
  have l3 : 1 ≤ (ods r).length := by cases h : ods r with | nil => exact absurd h hne | cons _ _ => simp
  unfold forwardP
  generalize evs r = e at *
  generalize ods r = o at *
  have he : e ≠ [] := by rintro rfl; simp at l1; omega
  have hle : o.length ≤ e.length := by omega
  have htab : ∀ f, tab o.length f ≠ [] := fun f h => by have := congrArg List.length h; rw [tab_len, List.length_nil] at this; omega
  have htab' : ∀ f, tab e.length f ≠ [] := fun f h => by have := congrArg List.length h; rw [tab_len, List.length_nil] at this; omega
  have z : ∀ x : Int, (0 : Int) + x = x := fun x => Int.zero_add x
  have sm : ∀ (os : List Int) (i : Nat) (rows : List (Int × Int)) (a : Int), sumP b os i rows a = rows.foldl (fun t r => t + r.2 * atP b os (i + r.1)) a := fun _ _ _ _ => rfl
  rcases five ki hi with rfl | rfl | rfl | rfl | rfl
  · have t1 : turnP b ⟨true, -1, [(0, 1)], 0, 0⟩ (-1) o e = tab o.length (hPlain 0 b e o) := by
      rw [turn_pos he]
      refine List.map_congr_left fun i hi => ?_
      have hi := List.mem_range.mp hi
      simp only [sm, List.foldl, hPlain]
      rw [Int.add_zero, atP_id b e (by omega)]
      simp [Int.fdiv_one]; omega
    have t2 : turnP b ⟨false, 1, [(0, 1)], 0, 1⟩ 1 e (tab o.length (hPlain 0 b e o)) = tab e.length (lPlain 0 b e (tab o.length (hPlain 0 b e o))) := by
      rw [turn_pos (htab _)]
      refine List.map_congr_left fun i hi => ?_
      simp [sm, List.foldl, lPlain]
    show fwdStep b (fwdStep b (e, o) ⟨true, -1, [(0, 1)], 0, 0⟩) ⟨false, 1, [(0, 1)], 0, 1⟩ = _
    show (turnP b ⟨false, 1, [(0, 1)], 0, 1⟩ 1 e (turnP b ⟨true, -1, [(0, 1)], 0, 0⟩ (-1) o e), turnP b ⟨true, -1, [(0, 1)], 0, 0⟩ (-1) o e) = _
    rw [t1, t2]; rfl
  · have t1 : turnP b ⟨true, -1, [(0, 1), (1, 1)], 0, 1⟩ (-1) o e = tab o.length (hPlain 1 b e o) := by
      rw [turn_pos he]
      refine List.map_congr_left fun i hi => ?_
      simp [sm, List.foldl, hPlain]; omega
    have t2 : turnP b ⟨false, 1, [(-1, 1), (0, 1)], 2, 2⟩ 1 e (tab o.length (hPlain 1 b e o)) = tab e.length (lPlain 1 b e (tab o.length (hPlain 1 b e o))) := by
      rw [turn_pos (htab _)]
      refine List.map_congr_left fun i hi => ?_
      generalize tab o.length (hPlain 1 b e o) = h
      have e1 : (2 + atP b h (i + -1) + atP b h i : Int) = atP b h (i - 1) + atP b h i + 2 := by rw [show (i : Int) + -1 = i - 1 by omega]; omega
      simp [sm, List.foldl, lPlain, e1]
    show (turnP b ⟨false, 1, [(-1, 1), (0, 1)], 2, 2⟩ 1 e (turnP b ⟨true, -1, [(0, 1), (1, 1)], 0, 1⟩ (-1) o e), turnP b ⟨true, -1, [(0, 1), (1, 1)], 0, 1⟩ (-1) o e) = _
    rw [t1, t2]; rfl
  · have t1 : turnP b ⟨true, -1, [(0, 1)], 0, 0⟩ (-1) o e = tab o.length (hPlain 2 b e o) := by
      rw [turn_pos he]
      refine List.map_congr_left fun i hi => ?_
      have hi := List.mem_range.mp hi
      simp only [sm, List.foldl, hPlain]
      rw [Int.add_zero, atP_id b e (by omega)]
      simp [Int.fdiv_one]; omega
    have t2 : turnP b ⟨false, 1, [(0, 1)], 0, 1⟩ 1 e (tab o.length (hPlain 2 b e o)) = tab e.length (lPlain 2 b e (tab o.length (hPlain 2 b e o))) := by
      rw [turn_pos (htab _)]
      refine List.map_congr_left fun i hi => ?_
      simp [sm, List.foldl, lPlain]
    have t3 : ∀ h l : List Int, l ≠ [] → turnP b ⟨true, -1, [(-1, -1), (1, 1)], 2, 2⟩ (-1) h l = tab h.length (h2Plain b l h) := by
      intro h l hl
      rw [turn_pos hl]
      refine List.map_congr_left fun i hi => ?_
      have e1 : (2 + -1 * atP b l (i + -1) + 1 * atP b l (i + 1) : Int) = 2 + atP b l (i + 1) - atP b l (i - 1) := by rw [show (i : Int) + -1 = i - 1 by omega]; omega
      simp only [sm, List.foldl, h2Plain, e1]
      rw [Int.neg_mul, Int.one_mul, ← Int.sub_eq_add_neg]; rfl
    show (turnP b ⟨false, 1, [(0, 1)], 0, 1⟩ 1 e (turnP b ⟨true, -1, [(0, 1)], 0, 0⟩ (-1) o e), turnP b ⟨true, -1, [(-1, -1), (1, 1)], 2, 2⟩ (-1) (turnP b ⟨true, -1, [(0, 1)], 0, 0⟩ (-1) o e) (turnP b ⟨false, 1, [(0, 1)], 0, 1⟩ 1 e (turnP b ⟨true, -1, [(0, 1)], 0, 0⟩ (-1) o e))) = _
    rw [t1, t2, t3 _ _ (htab' _), tab_len]; rfl
  · have t1 : turnP b ⟨true, -1, [(-1, -1), (0, 9), (1, 9), (2, -1)], 8, 4⟩ (-1) o e = tab o.length (hPlain 3 b e o) := by
      rw [turn_pos he]
      refine List.map_congr_left fun i hi => ?_
      have e1 : (8 + -1 * atP b e (i + -1) + 9 * atP b e (i + 0) + 9 * atP b e (i + 1) + -1 * atP b e (i + 2) : Int) = 9 * (atP b e i + atP b e (i + 1)) - (atP b e (i - 1) + atP b e (i + 2)) + 8 := by rw [show (i : Int) + -1 = i - 1 by omega, Int.add_zero]; omega
      simp only [sm, List.foldl, hPlain, e1]
      rw [Int.neg_mul, Int.one_mul, ← Int.sub_eq_add_neg]; rfl
    have t2 : turnP b ⟨false, 1, [(-1, 1), (0, 1)], 2, 2⟩ 1 e (tab o.length (hPlain 3 b e o)) = tab e.length (lPlain 3 b e (tab o.length (hPlain 3 b e o))) := by
      rw [turn_pos (htab _)]
      refine List.map_congr_left fun i hi => ?_
      generalize tab o.length (hPlain 3 b e o) = h
      have e1 : (2 + 1 * atP b h (i + -1) + 1 * atP b h (i + 0) : Int) = atP b h (i - 1) + atP b h i + 2 := by rw [show (i : Int) + -1 = i - 1 by omega, Int.add_zero]; omega
      simp only [sm, List.foldl, lPlain, e1]
      rw [Int.one_mul]; rfl
    show (turnP b ⟨false, 1, [(-1, 1), (0, 1)], 2, 2⟩ 1 e (turnP b ⟨true, -1, [(-1, -1), (0, 9), (1, 9), (2, -1)], 8, 4⟩ (-1) o e), turnP b ⟨true, -1, [(-1, -1), (0, 9), (1, 9), (2, -1)], 8, 4⟩ (-1) o e) = _
    rw [t1, t2]; rfl
  · have t1 : turnP b ⟨true, -1, [(-1, -1), (0, 9), (1, 9), (2, -1)], 8, 4⟩ (-1) o e = tab o.length (hPlain 4 b e o) := by
      rw [turn_pos he]
      refine List.map_congr_left fun i hi => ?_
      have e1 : (8 + -1 * atP b e (i + -1) + 9 * atP b e (i + 0) + 9 * atP b e (i + 1) + -1 * atP b e (i + 2) : Int) = 9 * (atP b e i + atP b e (i + 1)) - (atP b e (i - 1) + atP b e (i + 2)) + 8 := by rw [show (i : Int) + -1 = i - 1 by omega, Int.add_zero]; omega
      simp only [sm, List.foldl, hPlain, e1]
      rw [Int.neg_mul, Int.one_mul, ← Int.sub_eq_add_neg]; rfl
    have t2 : turnP b ⟨false, 1, [(-2, -1), (-1, 9), (0, 9), (1, -1)], 16, 5⟩ 1 e (tab o.length (hPlain 4 b e o)) = tab e.length (lPlain 4 b e (tab o.length (hPlain 4 b e o))) := by
      rw [turn_pos (htab _)]
      refine List.map_congr_left fun i hi => ?_
      generalize tab o.length (hPlain 4 b e o) = h
      have e1 : (16 + -1 * atP b h (i + -2) + 9 * atP b h (i + -1) + 9 * atP b h (i + 0) + -1 * atP b h (i + 1) : Int) = 9 * (atP b h (i - 1) + atP b h i) - (atP b h (i - 2) + atP b h (i + 1)) + 16 := by rw [show (i : Int) + -1 = i - 1 by omega, show (i : Int) + -2 = i - 2 by omega, Int.add_zero]; omega
      simp only [sm, List.foldl, lPlain, e1]
      rw [Int.one_mul]; rfl
    show (turnP b ⟨false, 1, [(-2, -1), (-1, 9), (0, 9), (1, -1)], 16, 5⟩ 1 e (turnP b ⟨true, -1, [(-1, -1), (0, 9), (1, 9), (2, -1)], 8, 4⟩ (-1) o e), turnP b ⟨true, -1, [(-1, -1), (0, 9), (1, 9), (2, -1)], 8, 4⟩ (-1) o e) = _
    rw [t1, t2]; rfl
def Ext (σ σ' : AH) : Prop := ∃ J, σ' = σ ++ J
theorem Ext.refl {σ : AH} : Ext σ σ := ⟨[], by simp⟩
theorem Ext.snoc {σ σ' : AH} {o : O} (h : Ext σ σ') : Ext σ (σ' ++ [o]) := by obtain ⟨J, rfl⟩ := h; exact ⟨J ++ [o], by rw [List.append_assoc]⟩
theorem Ext.obj {C : Cx} {σ σ' : AH} {v : V} {o : O} (h : Ext σ σ') (x : ObjAt C σ v o) : ObjAt C σ' v o := by obtain ⟨J, rfl⟩ := h; exact x.app
theorem rs20 (n : Nat) : (Builtin.Range.rangeSize 0 (n : Int) 2).toNat = (n + 1) / 2 := by
  unfold Builtin.Range.rangeSize
  rw [if_pos (by decide)]
  split <;> omega
theorem rs21 (n : Nat) : (Builtin.Range.rangeSize 1 (n : Int) 2).toNat = n / 2 := by
  unfold Builtin.Range.rangeSize
  rw [if_pos (by decide)]
  split <;> omega
theorem rs1 (n : Nat) : (Builtin.Range.rangeSize 0 (n : Int) 1).toNat = n := by rw [rangeSize_one]; split <;> omega
theorem kd_hs : ∀ i : Fin 5, ([PyData.str (Str.ofString "haar"), .str (Str.ofString "six")].any fun y => PyData.eqv y (.str (kindOf i.val))) = decide (i.val = 0 ∨ i.val = 2) := by decide +kernel
theorem kd_six : ∀ i : Fin 5, (kindOf i.val == Str.ofString "six") = decide (i.val = 2) := by decide +kernel
theorem kd_five : ∀ i : Fin 5, (kindOf i.val == Str.ofString "five") = decide (i.val = 1) := by decide +kernel
theorem kd_13 : ∀ i : Fin 5, (kindOf i.val == Str.ofString "thirteen") = decide (i.val = 4) := by decide +kernel
theorem plain_forward_spec {C : Cx} {A : Around} {σ : AH} {E : EX} {Q : V → AH → Prop} {vr : V} {row : List Int} {ki bi : Nat} {kd b : Str} (c : Law C) (hA : A.handled = none) (hd : A.depth + 2 < recursionLimit) (hu : A.units + 200 < cLine)
    (hki : ki < 5) (hk : kd = kindOf ki) (hbi : bi < 3) (hb : b = bordOf bi) (orow : ObjAt C σ vr (.list (row.map .int))) (lr : row.length ≤ 12) (lr0 : 1 ≤ row.length)
    (hq : ∀ v J v1 v2, ObjAt C (σ ++ J) v (.tuple [v1, v2]) → ObjAt C (σ ++ J) v1 (.list ((forwardP ki b row).1.map .int)) → ObjAt C (σ ++ J) v2 (.list ((forwardP ki b row).2.map .int)) → Q v (σ ++ J)) :
    WC C A (.ref 135) [vr, .str kd, .str b] σ Q E := by
  have fin : ∀ {σ' : AH} {v1 v2 : V} {l h : List Int}, Ext σ σ' → forwardP ki b row = (l, h) → ObjAt C σ' v1 (.list (l.map .int)) → ObjAt C σ' v2 (.list (h.map .int)) → Q (.ref σ'.length) (σ' ++ [.tuple [v1, v2]]) := by
    rintro σ' v1 v2 l h ⟨J, rfl⟩ e o1 o2
    have := hq (.ref (σ ++ J).length) (J ++ [.tuple [v1, v2]]) v1 v2
    rw [← List.append_assoc, e] at this
    exact this (.new rfl) o1.app o2.app
  refine WC_def (pn := [Str.ofString "row", Str.ofString "kind", Str.ofString "border"]) (ln := [Str.ofString "even", Str.ofString "odd", Str.ofString "high", Str.ofString "low", Str.ofString "i", Str.ofString "near", Str.ofString "far"]) (gl := [(Str.ofString "len", Value.builtin "len"), (Str.ofString "range", Value.type "range"), (Str.ofString "_at", Value.ref 142)]) (dv := []) (ds := []) (c.K _ _ rfl) rfl (codeRec_of c.K (by kernel_rfl)) (by first | assumption | omega | exact Nat.le_of_ble_eq_true rfl) .nil rfl (fun x v h => c.glo x v ((show ∀ p ∈ ([(Str.ofString "len", Value.builtin "len"), (Str.ofString "range", Value.type "range"), (Str.ofString "_at", Value.ref 142)] : List (Str × Value)), p ∈ lawGlo by decide +kernel) (x, v) h)) ?_ (by decide +kernel) (by decide +kernel) (by decide +kernel) (by decide +kernel) ?_
  · intro s xs _ hl
    match xs, hl with
    | [x0, x1, x2], _ => exact BindsTo.of_eq rfl
  intro env henv
  replace c := c.wg [(Str.ofString "len", Value.builtin "len"), (Str.ofString "range", Value.type "range"), (Str.ofString "_at", Value.ref 142)]
  show WSs (C.wg [(Str.ofString "len", Value.builtin "len"), (Str.ofString "range", Value.type "range"), (Str.ofString "_at", Value.ref 142)]) _ _ _ [(Str.ofString "row", some (vr)), (Str.ofString "kind", some (.str kd)), (Str.ofString "border", some (.str b)), (Str.ofString "even", none), (Str.ofString "odd", none), (Str.ofString "high", none), (Str.ofString "low", none), (Str.ofString "i", none), (Str.ofString "near", none), (Str.ofString "far", none)] _ _ _
  have hA' : (A.deeper env).handled = none := hA
  have hat : ∀ {l : List (Str × Value)} {σ' : AH} {E' : EX} {Q' : V → AH → Prop} {v : V} {r : List Int} {k : Int}, ObjAt C σ' v (.list (r.map .int)) → 1 ≤ r.length → r.length ≤ 7 → -4 ≤ k → k < 12 → Q' (.int (atP b r k)) σ' → WC (C.wg l) (A.deeper env) (.ref 142) [v, .int k, .str b] σ' Q' E' :=
    fun o h1 h2 h3 h4 h5 => at_spec (c.wg _) hA' (by show A.depth + 1 < _; omega) hbi hb o h1 h2 h3 h4 h5
  have le := evs_len (r := row)
  have lo := ods_len (r := row)
  walk_at "ww"
  refine WS_assign_comp (l2 := []) (capt := [(Str.ofString "row", some vr)]) henv (by show compOk _ _ _ [Str.ofString "row"] [] = true; decide +kernel) (by show [Str.ofString "row"].Nodup; decide +kernel) (by intro p hp; simp only [List.mem_cons, List.not_mem_nil, or_false] at hp; rcases hp with rfl <;> walk_at "mem") (by simp) ?_
  refine WItr_range hA' (by walk_at "mem") ?_
  walk_at "ww"
  refine WE_call (by walk_at "mem") callable_builtin ?_
  walk_at "ww"
  refine WC_len orow (by simp; omega) ?_
  walk_at "ww"
  rw [List.length_map]
  refine ⟨0, _, 2, rfl, by decide, by decide, by omega, by decide, CompGo_ints (fun i => row.getD (2 * i) 0) (by rw [rs20]; simp [sizeLine]; omega) trivial ?_ ?_⟩
  · rintro i pv hi hp cenv _
    rw [rs20] at hi
    obtain rfl : pv = V.int (0 + (i : Int) * 2) := hp.symm
    walk_at "ww"
    refine item_list orow (by omega) (by omega) (getD_int _ _ (by omega)) ?_
    refine ⟨congrArg V.int ?_, rfl⟩
    congr 1; omega
  rw [rs20]
  have ee : (List.range ((row.length + 1) / 2)).map (fun i => row.getD (2 * i) 0) = evs row := rfl
  rw [ee]
  walk_at "ww"
  refine WS_assign_comp (l2 := []) (capt := [(Str.ofString "row", some vr)]) henv (by show compOk _ _ _ [Str.ofString "row"] [] = true; decide +kernel) (by show [Str.ofString "row"].Nodup; decide +kernel) (by intro p hp; simp only [List.mem_cons, List.not_mem_nil, or_false] at hp; rcases hp with rfl <;> walk_at "mem") (by simp) ?_
  refine WItr_range hA' (by walk_at "mem") ?_
  walk_at "ww"
  refine WE_call (by walk_at "mem") callable_builtin ?_
  walk_at "ww"
  refine WC_len orow.app (by simp; omega) ?_
  walk_at "ww"
  rw [List.length_map]
  refine ⟨1, _, 2, rfl, by decide, by decide, by omega, by decide, CompGo_ints (fun i => row.getD (2 * i + 1) 0) (by rw [rs21]; simp [sizeLine]; omega) trivial ?_ ?_⟩
  · rintro i pv hi hp cenv _
    rw [rs21] at hi
    obtain rfl : pv = V.int (1 + (i : Int) * 2) := hp.symm
    walk_at "ww"
    refine item_list orow.app (by omega) (by omega) (getD_int _ _ (by omega)) ?_
    refine ⟨congrArg V.int ?_, rfl⟩
    congr 1; omega
  rw [rs21]
  have eo : (List.range (row.length / 2)).map (fun i => row.getD (2 * i + 1) 0) = ods row := rfl
  rw [eo]
  have oe : ObjAt C (σ ++ [O.list ((evs row).map V.int)] ++ [O.list ((ods row).map V.int)]) (.ref σ.length) (.list ((evs row).map V.int)) := ObjAt.app (.new rfl)
  have oo : ObjAt C (σ ++ [O.list ((evs row).map V.int)] ++ [O.list ((ods row).map V.int)]) (.ref (σ ++ [O.list ((evs row).map V.int)]).length) (.list ((ods row).map V.int)) := .new rfl
  have hx : Ext σ (σ ++ [O.list ((evs row).map V.int)] ++ [O.list ((ods row).map V.int)]) := Ext.snoc (Ext.snoc .refl)
  generalize σ ++ [O.list ((evs row).map V.int)] ++ [O.list ((ods row).map V.int)] = σ2 at *
  generalize V.ref (σ ++ [O.list ((evs row).map V.int)]).length = vo at *
  generalize V.ref σ.length = ve at *
  walk_at "ww"
  refine WE_call (by walk_at "mem") callable_builtin ?_
  walk_at "ww"
  refine WC_len oo (by simp; omega) ?_
  walk_at "ww"
  refine ite_b (fun hb => ?_) fun hb => ?_
  · have h0 : ods row = [] := by
      have : (ods row).length = 0 := by simpa using hb
      exact List.eq_nil_of_length_eq_zero this
    walk_at "ww"
    exact fin hx (by unfold forwardP; rw [h0]; exact fwd_nil _ _ _) oe oo
  have lo1 : 1 ≤ (ods row).length := by
    have : (ods row).length ≠ 0 := by simpa using hb
    omega
  have hne : ods row ≠ [] := by intro h; rw [h] at lo1; simp at lo1
  have pe := plain_eq hki b row hne
  walk_at "ww"
  refine in_tuple_dd .str (.tuple (.new rfl) (.cons .str (.cons .str .nil))) (by decide +kernel) (by rw [hk]; exact sh_kind ⟨ki, hki⟩) (by show A.units + _ + 65 < _; omega) ?_
  replace oe := oe.app (J := [O.tuple [V.str (Str.ofString "haar"), V.str (Str.ofString "six")]])
  replace oo := oo.app (J := [O.tuple [V.str (Str.ofString "haar"), V.str (Str.ofString "six")]])
  replace hx := hx.snoc (o := O.tuple [V.str (Str.ofString "haar"), V.str (Str.ofString "six")])
  generalize σ2 ++ [O.tuple [V.str (Str.ofString "haar"), V.str (Str.ofString "six")]] = σ3 at *
  walk_at "ww"
  refine ite_b (fun hb => ?_) fun hb => ?_
  · have hz : ki = 0 ∨ ki = 2 := by rw [hk, kd_hs ⟨ki, hki⟩] at hb; simpa using hb
    walk_at "ww"
    refine WS_assign_comp (l2 := []) (capt := [(Str.ofString "odd", some vo), (Str.ofString "even", some ve)]) henv (by show compOk _ _ _ [Str.ofString "odd", Str.ofString "even"] [] = true; decide +kernel) (by show [Str.ofString "odd", Str.ofString "even"].Nodup; decide +kernel) (by intro p hp; simp only [List.mem_cons, List.not_mem_nil, or_false] at hp; rcases hp with rfl | rfl <;> walk_at "mem") (by simp) ?_
    refine WItr_range hA' (by walk_at "mem") ?_
    walk_at "ww"
    refine WE_call (by walk_at "mem") callable_builtin ?_
    walk_at "ww"
    refine WC_len oo (by simp; omega) ?_
    walk_at "ww"
    rw [List.length_map]
    refine ⟨0, _, 1, rfl, by decide, by decide, by omega, by decide, CompGo_ints (hPlain ki b (evs row) (ods row)) (by rw [rs1]; simp [sizeLine]; omega) trivial ?_ ?_⟩
    · rintro i pv hi hp cenv _
      rw [rs1] at hi
      obtain rfl : pv = V.int (i : Int) := hp.symm.trans (congrArg V.int (by omega))
      walk_at "ww"
      refine item_list oo (by omega) (by omega) (getD_int _ _ (by omega)) ?_
      walk_at "ww"
      refine item_list oe (by omega) (by omega) (getD_int _ _ (by omega)) ?_
      walk_at "ww"
      refine ⟨congrArg V.int ?_, rfl⟩
      rw [hPlain, if_pos hz]; rfl
    rw [rs1]
    have th : (List.range (ods row).length).map (hPlain ki b (evs row) (ods row)) = tab (ods row).length (hPlain ki b (evs row) (ods row)) := rfl
    rw [th]
    have lh : (tab (ods row).length (hPlain ki b (evs row) (ods row))).length = (ods row).length := tab_len
    generalize tab (ods row).length (hPlain ki b (evs row) (ods row)) = hi at *
    have oh : ObjAt C (σ3 ++ [O.list (hi.map V.int)]) (.ref σ3.length) (.list (hi.map V.int)) := .new rfl
    replace oe := oe.app (J := [O.list (hi.map V.int)])
    replace hx := hx.snoc (o := O.list (hi.map V.int))
    generalize σ3 ++ [O.list (hi.map V.int)] = σ4 at *
    generalize V.ref σ3.length = vh at *
    walk_at "ww"
    refine WS_assign_comp (l2 := [(Str.ofString "_at", Value.ref 142)]) (capt := [(Str.ofString "even", some ve), (Str.ofString "high", some vh), (Str.ofString "border", some (V.str b))]) henv (by show compOk _ _ _ [Str.ofString "even", Str.ofString "high", Str.ofString "border"] [Str.ofString "_at"] = true; decide +kernel) (by show [Str.ofString "even", Str.ofString "high", Str.ofString "border"].Nodup; decide +kernel) (by intro p hp; simp only [List.mem_cons, List.not_mem_nil, or_false] at hp; rcases hp with rfl | rfl | rfl <;> walk_at "mem") (by intro p hp; simp only [List.mem_singleton] at hp; subst hp; walk_at "mem") ?_
    refine WItr_range hA' (by walk_at "mem") ?_
    walk_at "ww"
    refine WE_call (by walk_at "mem") callable_builtin ?_
    walk_at "ww"
    refine WC_len oe (by simp; omega) ?_
    walk_at "ww"
    rw [List.length_map]
    refine ⟨0, _, 1, rfl, by decide, by decide, by omega, by decide, CompGo_ints (lPlain ki b (evs row) hi) (by rw [rs1]; simp [sizeLine]; omega) trivial ?_ ?_⟩
    · rintro i pv hi' hp cenv _
      rw [rs1] at hi'
      obtain rfl : pv = V.int (i : Int) := hp.symm.trans (congrArg V.int (by omega))
      walk_at "ww"
      refine item_list oe (by omega) (by omega) (getD_int _ _ (by omega)) ?_
      walk_at "ww"
      refine WE_call (by walk_at "mem") (c.wg _).c142 ?_
      walk_at "ww"
      refine hat oh (by omega) (by omega) (by omega) (by omega) ?_
      walk_at "ww"
      refine shr_ii (by decide) ?_
      walk_at "ww"
      refine ⟨congrArg V.int ?_, rfl⟩
      rw [lPlain, if_pos hz]; rfl
    rw [rs1]
    have tl : (List.range (evs row).length).map (lPlain ki b (evs row) hi) = tab (evs row).length (lPlain ki b (evs row) hi) := rfl
    rw [tl]
    have ll : (tab (evs row).length (lPlain ki b (evs row) hi)).length = (evs row).length := tab_len
    generalize tab (evs row).length (lPlain ki b (evs row) hi) = lw at *
    have ol : ObjAt C (σ4 ++ [O.list (lw.map V.int)]) (.ref σ4.length) (.list (lw.map V.int)) := .new rfl
    replace oh := oh.app (J := [O.list (lw.map V.int)])
    replace hx := hx.snoc (o := O.list (lw.map V.int))
    generalize σ4 ++ [O.list (lw.map V.int)] = σ5 at *
    generalize V.ref σ4.length = vl at *
    walk_at "ww"
    refine ite_b (fun hb => ?_) fun hb => ?_
    · have h2 : ki = 2 := by rw [hk, kd_six ⟨ki, hki⟩] at hb; simpa using hb
      walk_at "ww"
      refine WS_assign_comp (l2 := [(Str.ofString "_at", Value.ref 142)]) (capt := [(Str.ofString "high", some vh), (Str.ofString "low", some vl), (Str.ofString "border", some (V.str b))]) henv (by show compOk _ _ _ [Str.ofString "high", Str.ofString "low", Str.ofString "border"] [Str.ofString "_at"] = true; decide +kernel) (by show [Str.ofString "high", Str.ofString "low", Str.ofString "border"].Nodup; decide +kernel) (by intro p hp; simp only [List.mem_cons, List.not_mem_nil, or_false] at hp; rcases hp with rfl | rfl | rfl <;> walk_at "mem") (by intro p hp; simp only [List.mem_singleton] at hp; subst hp; walk_at "mem") ?_
      refine WItr_range hA' (by walk_at "mem") ?_
      walk_at "ww"
      refine WE_call (by walk_at "mem") callable_builtin ?_
      walk_at "ww"
      refine WC_len oh (by simp; omega) ?_
      walk_at "ww"
      rw [List.length_map]
      refine ⟨0, _, 1, rfl, by decide, by decide, by omega, by decide, CompGo_ints (h2Plain b lw hi) (by rw [rs1]; simp [sizeLine]; omega) trivial ?_ ?_⟩
      · rintro i pv hi' hp cenv _
        rw [rs1] at hi'
        obtain rfl : pv = V.int (i : Int) := hp.symm.trans (congrArg V.int (by omega))
        walk_at "ww"
        refine item_list oh (by omega) (by omega) (getD_int _ _ (by omega)) ?_
        walk_at "ww"
        refine WE_call (by walk_at "mem") (c.wg _).c142 ?_
        walk_at "ww"
        refine hat ol (by omega) (by omega) (by omega) (by omega) ?_
        walk_at "ww"
        refine WE_call (by walk_at "mem") (c.wg _).c142 ?_
        walk_at "ww"
        refine hat ol (by omega) (by omega) (by omega) (by omega) ?_
        walk_at "ww"
        refine shr_ii (by decide) ?_
        walk_at "ww"
        exact ⟨rfl, rfl⟩
      rw [rs1]
      walk_at "ww"
      rw [lh]
      exact fin hx.snoc (by rw [pe, if_pos h2]; rfl) ol.app (.new rfl)
    · have h2 : ki ≠ 2 := by rw [hk, kd_six ⟨ki, hki⟩] at hb; simpa using hb
      walk_at "ww"
      exact fin hx (by rw [pe, if_neg h2]) ol oh
  have hz : ¬ (ki = 0 ∨ ki = 2) := by rw [hk, kd_hs ⟨ki, hki⟩] at hb; simpa using hb
  walk_at "ww"
  refine WSs_mid (fun fl ρ' σ' => fl = .next ∧ ∃ vh t0 t1 t2, Ext σ3 σ' ∧ ρ' = [(Str.ofString "row", some vr), (Str.ofString "kind", some (V.str kd)), (Str.ofString "border", some (V.str b)), (Str.ofString "even", some ve), (Str.ofString "odd", some vo), (Str.ofString "high", some vh), (Str.ofString "low", none), (Str.ofString "i", t0), (Str.ofString "near", t1), (Str.ofString "far", t2)] ∧ ObjAt C σ' vh (.list ((tab (ods row).length (hPlain ki b (evs row) (ods row))).map V.int))) ?_ ?_
  · refine ite_b (fun hb => ?_) fun hb => ?_
    · have h1 : ki = 1 := by rw [hk, kd_five ⟨ki, hki⟩] at hb; simpa using hb
      walk_at "ww"
      refine WS_assign_comp (l2 := [(Str.ofString "_at", Value.ref 142)]) (capt := [(Str.ofString "odd", some vo), (Str.ofString "even", some ve), (Str.ofString "border", some (V.str b))]) henv (by show compOk _ _ _ [Str.ofString "odd", Str.ofString "even", Str.ofString "border"] [Str.ofString "_at"] = true; decide +kernel) (by show [Str.ofString "odd", Str.ofString "even", Str.ofString "border"].Nodup; decide +kernel) (by intro p hp; simp only [List.mem_cons, List.not_mem_nil, or_false] at hp; rcases hp with rfl | rfl | rfl <;> walk_at "mem") (by intro p hp; simp only [List.mem_singleton] at hp; subst hp; walk_at "mem") ?_
      refine WItr_range hA' (by walk_at "mem") ?_
      walk_at "ww"
      refine WE_call (by walk_at "mem") callable_builtin ?_
      walk_at "ww"
      refine WC_len oo (by simp; omega) ?_
      walk_at "ww"
      rw [List.length_map]
      refine ⟨0, _, 1, rfl, by decide, by decide, by omega, by decide, CompGo_ints (hPlain ki b (evs row) (ods row)) (by rw [rs1]; simp [sizeLine]; omega) trivial ?_ ?_⟩
      · rintro i pv hi' hp cenv _
        rw [rs1] at hi'
        obtain rfl : pv = V.int (i : Int) := hp.symm.trans (congrArg V.int (by omega))
        walk_at "ww"
        refine item_list oo (by omega) (by omega) (getD_int _ _ (by omega)) ?_
        walk_at "ww"
        refine WE_call (by walk_at "mem") (c.wg _).c142 ?_
        walk_at "ww"
        refine hat oe (by omega) (by omega) (by omega) (by omega) ?_
        walk_at "ww"
        refine WE_call (by walk_at "mem") (c.wg _).c142 ?_
        walk_at "ww"
        refine hat oe (by omega) (by omega) (by omega) (by omega) ?_
        walk_at "ww"
        refine shr_ii (by decide) ?_
        walk_at "ww"
        refine ⟨congrArg V.int ?_, rfl⟩
        rw [hPlain, if_neg hz, if_pos h1]; rfl
      rw [rs1]
      walk_at "ww"
      exact ⟨rfl, _, _, _, _, Ext.snoc .refl, rfl, .new rfl⟩
    · have h1 : ki ≠ 1 := by rw [hk, kd_five ⟨ki, hki⟩] at hb; simpa using hb
      walk_at "ww"
      refine WS_for (WItr_range hA' (by walk_at "mem") ?_)
      walk_at "ww"
      refine WE_call (by walk_at "mem") callable_builtin ?_
      walk_at "ww"
      refine WC_len oo.app (by simp; omega) ?_
      walk_at "ww"
      rw [List.length_map]
      obtain ⟨f, hf⟩ : ∃ f, f = hPlain ki b (evs row) (ods row) := ⟨_, rfl⟩
      refine ⟨0, _, 1, rfl, by decide, by decide, by omega, by decide, fun i ρ' σ' => σ' = σ3 ++ [.list (((List.range i).map f).map .int)] ∧ ∃ t0 t1 t2, ρ' = [(Str.ofString "row", some vr), (Str.ofString "kind", some (V.str kd)), (Str.ofString "border", some (V.str b)), (Str.ofString "even", some ve), (Str.ofString "odd", some vo), (Str.ofString "high", some (V.ref σ3.length)), (Str.ofString "low", none), (Str.ofString "i", t0), (Str.ofString "near", t1), (Str.ofString "far", t2)], ?_, ?_, ?_⟩
      · exact ⟨rfl, _, _, _, rfl⟩
      · rintro i ρ' σ' hi ⟨rfl, t0, t1, t2, rfl⟩
        rw [rs1] at hi
        refine ⟨trivial, ?_⟩
        have e0 : (0 : Int) + (i : Int) * 1 = i := by omega
        show WAs _ _ _ _ (V.int (0 + (i : Int) * 1)) _ _ _ _
        rw [e0]
        walk_at "ww"
        refine WE_call (by walk_at "mem") c.c142 ?_
        walk_at "ww"
        refine hat oe.app (by omega) (by omega) (by omega) (by omega) ?_
        walk_at "ww"
        refine WE_call (by walk_at "mem") c.c142 ?_
        walk_at "ww"
        refine hat oe.app (by omega) (by omega) (by omega) (by omega) ?_
        walk_at "ww"
        refine WE_call (by walk_at "mem") c.c142 ?_
        walk_at "ww"
        refine hat oe.app (by omega) (by omega) (by omega) (by omega) ?_
        walk_at "ww"
        refine WE_call (by walk_at "mem") c.c142 ?_
        walk_at "ww"
        refine hat oe.app (by omega) (by omega) (by omega) (by omega) ?_
        walk_at "ww"
        refine WE_meth ?_
        walk_at "ww"
        have hL : (σ3 ++ [O.list (((List.range i).map f).map V.int)])[σ3.length]? = some (O.list (((List.range i).map f).map V.int)) := by simp
        refine WM_append hL ⟨callable_builtin, ?_⟩
        walk_at "ww"
        refine item_list oo.app (by omega) (by omega) (getD_int _ _ (by omega)) ?_
        walk_at "ww"
        refine mul_ii (mul_small (by decide) (by decide)) ?_
        walk_at "ww"
        refine shr_ii (by decide) ?_
        walk_at "ww"
        refine WC_append hL (by simp [sizeLine]; omega) ?_
        walk_at "ww"
        refine ⟨?_, _, _, _, rfl⟩
        have hv : (ods row).getD ((i : Int).toNat) 0 - (9 * (atP b (evs row) i + atP b (evs row) (i + 1)) - (atP b (evs row) (i - 1) + atP b (evs row) (i + 2)) + 8).fdiv (2 ^ Int.toNat 4) = f i := by
          rw [hf, hPlain, if_neg hz, if_neg h1]; rfl
        rw [hv, List.range_succ]
        simp
      · rintro ρ' σ' ⟨rfl, t0, t1, t2, rfl⟩
        refine ⟨trivial, ?_⟩
        rw [rs1, hf]
        walk_at "ww"
        exact ⟨rfl, _, _, _, _, Ext.snoc .refl, rfl, .new rfl⟩
  rintro fl ρ' σ4 ⟨rfl, vh, t0, t1, t2, hx4, rfl, oh⟩
  replace oe := hx4.obj oe
  replace oo := hx4.obj oo
  replace hx : Ext σ σ4 := by obtain ⟨J, rfl⟩ := hx; obtain ⟨J', rfl⟩ := hx4; exact ⟨J ++ J', by rw [List.append_assoc]⟩
  have lh : (tab (ods row).length (hPlain ki b (evs row) (ods row))).length = (ods row).length := tab_len
  generalize tab (ods row).length (hPlain ki b (evs row) (ods row)) = hi at *
  walk_at "ww"
  refine WS_for (WItr_range hA' (by walk_at "mem") ?_)
  walk_at "ww"
  refine WE_call (by walk_at "mem") callable_builtin ?_
  walk_at "ww"
  refine WC_len oe.app (by simp; omega) ?_
  walk_at "ww"
  rw [List.length_map]
  obtain ⟨f, hf⟩ : ∃ f, f = lPlain ki b (evs row) hi := ⟨_, rfl⟩
  refine ⟨0, _, 1, rfl, by decide, by decide, by omega, by decide, fun i ρ' σ' => σ' = σ4 ++ [.list (((List.range i).map f).map .int)] ∧ ∃ t0 t1 t2, ρ' = [(Str.ofString "row", some vr), (Str.ofString "kind", some (V.str kd)), (Str.ofString "border", some (V.str b)), (Str.ofString "even", some ve), (Str.ofString "odd", some vo), (Str.ofString "high", some vh), (Str.ofString "low", some (V.ref σ4.length)), (Str.ofString "i", t0), (Str.ofString "near", t1), (Str.ofString "far", t2)], ?_, ?_, ?_⟩
  · exact ⟨rfl, _, _, _, rfl⟩
  · rintro i ρ' σ' hi' ⟨rfl, t0, t1, t2, rfl⟩
    rw [rs1] at hi'
    refine ⟨trivial, ?_⟩
    have e0 : (0 : Int) + (i : Int) * 1 = i := by omega
    show WAs _ _ _ _ (V.int (0 + (i : Int) * 1)) _ _ _ _
    rw [e0]
    have hL : (σ4 ++ [O.list (((List.range i).map f).map V.int)])[σ4.length]? = some (O.list (((List.range i).map f).map V.int)) := by simp
    walk_at "ww"
    refine WE_call (by walk_at "mem") c.c142 ?_
    walk_at "ww"
    refine hat oh.app (by omega) (by omega) (by omega) (by omega) ?_
    walk_at "ww"
    refine WE_call (by walk_at "mem") c.c142 ?_
    walk_at "ww"
    refine hat oh.app (by omega) (by omega) (by omega) (by omega) ?_
    walk_at "ww"
    refine ite_b (fun hb => ?_) fun hb => ?_
    · have h4 : ki = 4 := by rw [hk, kd_13 ⟨ki, hki⟩] at hb; simpa using hb
      walk_at "ww"
      refine WE_call (by walk_at "mem") c.c142 ?_
      walk_at "ww"
      refine hat oh.app (by omega) (by omega) (by omega) (by omega) ?_
      walk_at "ww"
      refine WE_call (by walk_at "mem") c.c142 ?_
      walk_at "ww"
      refine hat oh.app (by omega) (by omega) (by omega) (by omega) ?_
      walk_at "ww"
      refine WE_meth ?_
      walk_at "ww"
      refine WM_append hL ⟨callable_builtin, ?_⟩
      walk_at "ww"
      refine item_list oe.app (by omega) (by omega) (getD_int _ _ (by omega)) ?_
      walk_at "ww"
      refine mul_ii (mul_small (by decide) (by decide)) ?_
      walk_at "ww"
      refine shr_ii (by decide) ?_
      walk_at "ww"
      refine WC_append hL (by simp [sizeLine]; omega) ?_
      walk_at "ww"
      refine ⟨?_, _, _, _, rfl⟩
      have hv : (evs row).getD ((i : Int).toNat) 0 + (9 * (atP b hi (i - 1) + atP b hi i) - (atP b hi (i - 2) + atP b hi (i + 1)) + 16).fdiv (2 ^ Int.toNat 5) = f i := by
        rw [hf, lPlain, if_neg hz, if_pos h4]; rfl
      rw [hv, List.range_succ]
      simp
    · have h4 : ki ≠ 4 := by rw [hk, kd_13 ⟨ki, hki⟩] at hb; simpa using hb
      walk_at "ww"
      refine WE_meth ?_
      walk_at "ww"
      refine WM_append hL ⟨callable_builtin, ?_⟩
      walk_at "ww"
      refine item_list oe.app (by omega) (by omega) (getD_int _ _ (by omega)) ?_
      walk_at "ww"
      refine shr_ii (by decide) ?_
      walk_at "ww"
      refine WC_append hL (by simp [sizeLine]; omega) ?_
      walk_at "ww"
      refine ⟨?_, _, _, _, rfl⟩
      have hv : (evs row).getD ((i : Int).toNat) 0 + (atP b hi (i - 1) + atP b hi i + 2).fdiv (2 ^ Int.toNat 2) = f i := by
        rw [hf, lPlain, if_neg hz, if_neg h4]; rfl
      rw [hv, List.range_succ]
      simp
  rintro ρ' σ' ⟨rfl, t0, t1, t2, rfl⟩
  refine ⟨trivial, ?_⟩
  rw [rs1, hf]
  walk_at "ww"
  exact fin hx.snoc (by rw [pe, if_neg (fun h => hz (.inr h))]; rfl) (.new rfl) oh.app
theorem getD_rep0 (c i : Nat) : (List.replicate c (0 : Int)).getD i 0 = 0 := by
  simp only [List.getD, List.getElem?_replicate]; split <;> rfl
theorem sum_rep0 (b : Str) (c i : Nat) : ∀ (rows : List (Int × Int)) (a : Int), sumP b (List.replicate c 0) i rows a = a
  | [], a => rfl
  | r :: rows, a => by
    show sumP b (List.replicate c 0) i rows (a + r.2 * (List.replicate c (0 : Int)).getD _ 0) = a
    rw [getD_rep0, Int.mul_zero, Int.add_zero]; exact sum_rep0 b c i rows a
def flatOk (st : Step) : Bool := decide (st.add.fdiv (2 ^ st.sh.toNat) = 0)
theorem flat_all : ∀ i : Fin 5, ((stepsOf i.val).all flatOk) = true := by decide +kernel
theorem turn_flat (b : Str) (st : Step) (sg : Int) (a c : Nat) (h : flatOk st = true) : turnP b st sg (List.replicate a 0) (List.replicate c 0) = List.replicate a 0 := by
  unfold turnP
  split
  · rfl
  · rw [List.length_replicate]
    refine List.eq_replicate_iff.mpr ⟨by simp, fun x hx => ?_⟩
    obtain ⟨i, _, rfl⟩ := List.mem_map.mp hx
    have h : st.add.fdiv (2 ^ st.sh.toNat) = 0 := of_decide_eq_true h
    rw [sum_rep0, getD_rep0, h]; simp
theorem fwd_flat (b : Str) (x y : Nat) : ∀ sts : List Step, sts.all flatOk = true → fwd b sts (List.replicate x 0, List.replicate y 0) = (List.replicate x 0, List.replicate y 0)
  | [], _ => rfl
  | st :: sts, h => by
    rw [List.all_cons, Bool.and_eq_true] at h
    show fwd b sts (fwdStep b (List.replicate x 0, List.replicate y 0) st) = _
    have : fwdStep b (List.replicate x 0, List.replicate y 0) st = (List.replicate x 0, List.replicate y 0) := by
      unfold fwdStep
      split
      · show (_, turnP b st st.sg (List.replicate y 0) (List.replicate x 0)) = _
        rw [turn_flat _ _ _ _ _ h.1]
      · show (turnP b st st.sg (List.replicate x 0) (List.replicate y 0), _) = _
        rw [turn_flat _ _ _ _ _ h.1]
    rw [this]; exact fwd_flat b x y sts h.2
theorem forw_flat {i : Nat} (hi : i < 5) (b : Str) (n : Nat) (m : Int) : forwardP i b (List.replicate n m) = (List.replicate ((n + 1) / 2) m, List.replicate (n / 2) 0) := by
  have e : List.replicate n m = (List.replicate n 0).map (· + m) := by simp
  have z : forwardP i b (List.replicate n 0) = (List.replicate ((n + 1) / 2) 0, List.replicate (n / 2) 0) := by
    unfold forwardP
    have e1 : evs (List.replicate n 0) = List.replicate ((n + 1) / 2) 0 := List.eq_replicate_iff.mpr ⟨by rw [evs_len, List.length_replicate], fun x hx => by obtain ⟨k, _, rfl⟩ := List.mem_map.mp hx; exact getD_rep0 _ _⟩
    have e2 : ods (List.replicate n 0) = List.replicate (n / 2) 0 := List.eq_replicate_iff.mpr ⟨by rw [ods_len, List.length_replicate], fun x hx => by obtain ⟨k, _, rfl⟩ := List.mem_map.mp hx; exact getD_rep0 _ _⟩
    rw [e1, e2]; exact fwd_flat _ _ _ _ (flat_all ⟨i, hi⟩)
  rw [e, forw_up hi, z]; simp
theorem ne_pair_false {a b c d : Int} (h1 : a = c) (h2 : b = d) : (!PyData.eqv (.tuple [.int a, .int b]) (.tuple [.int c, .int d])) = false := by
  subst h1; subst h2; simp [PyData.eqv, PyData.eqvAll]
theorem eqv_pair (xs ys : List Int) : PyData.eqv (.tuple [.list (xs.map PyData.int), .list (ys.map PyData.int)]) (.tuple [.list (xs.map PyData.int), .list (ys.map PyData.int)]) = true := by simp [PyData.eqv, PyData.eqvAll, eqv_ints]
theorem rep_int (n : Nat) (m : Int) : List.replicate n (V.int m) = (List.replicate n m).map V.int := by simp
theorem law_main {C : Cx} (c : Law C) {a : Addr} {ns : List Int} (hg : (a, O.list (ns.map .int)) ∈ C.gob) (hl : ns.length ≤ 63) (_ht : ∀ x ∈ topObjs, x ∈ C.gob) : WC C callerA (.ref 154) [.k (.ref a)] [] (fun v _ => v = .bool true) (fun _ _ => False) := by
  refine WC_def (pn := [Str.ofString "script"]) (ln := [Str.ofString "row", Str.ofString "kind", Str.ofString "border", Str.ofString "low", Str.ofString "high", Str.ofString "flat"]) (gl := [(Str.ofString "len", Value.builtin "len"), (Str.ofString "range", Value.type "range"), (Str.ofString "forward", Value.ref 123), (Str.ofString "backward", Value.ref 130), (Str.ofString "plain_forward", Value.ref 135), (Str.ofString "STEPS", Value.ref 35), (Str.ofString "_law_cell", Value.ref 149)]) (dv := []) (ds := []) (c.K _ _ rfl) rfl (codeRec_of c.K (by kernel_rfl)) (by first | assumption | omega | exact Nat.le_of_ble_eq_true rfl) .nil rfl (fun x v h => c.glo x v ((show ∀ p ∈ ([(Str.ofString "len", Value.builtin "len"), (Str.ofString "range", Value.type "range"), (Str.ofString "forward", Value.ref 123), (Str.ofString "backward", Value.ref 130), (Str.ofString "plain_forward", Value.ref 135), (Str.ofString "STEPS", Value.ref 35), (Str.ofString "_law_cell", Value.ref 149)] : List (Str × Value)), p ∈ lawGlo by decide +kernel) (x, v) h)) ?_ (by decide +kernel) (by decide +kernel) (by decide +kernel) (by decide +kernel) ?_
  · intro s xs _ hl
    match xs, hl with
    | [x0], _ => exact BindsTo.of_eq rfl
  intro env henv
  replace c := c.wg [(Str.ofString "len", Value.builtin "len"), (Str.ofString "range", Value.type "range"), (Str.ofString "forward", Value.ref 123), (Str.ofString "backward", Value.ref 130), (Str.ofString "plain_forward", Value.ref 135), (Str.ofString "STEPS", Value.ref 35), (Str.ofString "_law_cell", Value.ref 149)]
  show WSs (C.wg [(Str.ofString "len", Value.builtin "len"), (Str.ofString "range", Value.type "range"), (Str.ofString "forward", Value.ref 123), (Str.ofString "backward", Value.ref 130), (Str.ofString "plain_forward", Value.ref 135), (Str.ofString "STEPS", Value.ref 35), (Str.ofString "_law_cell", Value.ref 149)]) _ _ _ [(Str.ofString "script", some (.k (.ref a))), (Str.ofString "row", none), (Str.ofString "kind", none), (Str.ofString "border", none), (Str.ofString "low", none), (Str.ofString "high", none), (Str.ofString "flat", none)] _ _ _
  walk_at "ww"
  refine WS_assign_comp (l2 := [(Str.ofString "_law_cell", Value.ref 149)]) (capt := [(Str.ofString "script", some (.k (.ref a)))]) henv (by show compOk _ _ _ [Str.ofString "script"] [Str.ofString "_law_cell"] = true; decide +kernel) (by show [Str.ofString "script"].Nodup; decide +kernel) (by intro p hp; simp only [List.mem_singleton] at hp; subst hp; walk_at "mem") (by intro p hp; simp only [List.mem_singleton] at hp; subst hp; walk_at "mem") ?_
  refine WItr_range rfl (by walk_at "mem") ?_
  walk_at "ww"
  refine WE_call (by walk_at "mem") c.c149 ?_
  walk_at "ww"
  refine cell_spec c (Nat.le_of_ble_eq_true rfl) hg hl (by decide) ?_
  walk_at "ww"
  have fm : ∀ (n m : Int), 0 < m → 0 ≤ n.fmod m ∧ n.fmod m < m := fun n m h => ⟨Int.fmod_nonneg_of_pos _ h, Int.fmod_lt_of_pos _ h⟩
  obtain ⟨N, hN, hN0, hN1⟩ : ∃ N : Nat, 1 + (ns.getD (Int.toNat 0) 0).fmod 12 = (N : Int) ∧ 1 ≤ N ∧ N ≤ 12 := by
    obtain ⟨h0, h1⟩ := fm (ns.getD (Int.toNat 0) 0) 12 (by decide)
    exact ⟨(1 + (ns.getD (Int.toNat 0) 0).fmod 12).toNat, by omega, by omega, by omega⟩
  rw [hN]
  refine ⟨0, _, 1, rfl, by decide, by decide, by omega, by decide, CompGo_ints (fun i => (ns.getD (1 + i) 0).fmod 2001 - 1000) (by rw [rs1]; simp [sizeLine]; omega) trivial ?_ ?_⟩
  · rintro i pv hi hp cenv _
    rw [rs1] at hi
    obtain rfl : pv = V.int (i : Int) := hp.symm.trans (congrArg V.int (by omega))
    walk_at "ww"
    refine WE_call (by walk_at "mem") (c.wg _).c149 ?_
    walk_at "ww"
    refine cell_spec (c.wg _) (Nat.le_of_ble_eq_true rfl) hg hl (by omega) ?_
    walk_at "ww"
    refine ⟨congrArg V.int ?_, rfl⟩
    rw [show (1 + (i : Int)).toNat = 1 + i by omega]
  rw [rs1]
  have lr : ((List.range N).map fun i => (ns.getD (1 + i) 0).fmod 2001 - 1000).length = N := by simp
  generalize ((List.range N).map fun i => (ns.getD (1 + i) 0).fmod 2001 - 1000) = r at *
  have orow : ObjAt C ([] ++ [O.list (r.map V.int)]) (.ref ([] : AH).length) (.list (r.map V.int)) := .new rfl
  generalize ([] : AH) ++ [O.list (r.map V.int)] = σ0 at *
  generalize V.ref ([] : AH).length = vr at *
  walk_at "ww"
  refine WE_call (by walk_at "mem") c.c149 ?_
  walk_at "ww"
  refine cell_spec c (Nat.le_of_ble_eq_true rfl) hg hl (by decide) ?_
  walk_at "ww"
  obtain ⟨y0, hy0, hy5⟩ : ∃ y : Nat, (ns.getD (Int.toNat 13) 0).fmod 5 = (y : Int) ∧ y < 5 := by
    obtain ⟨h0, h1⟩ := fm (ns.getD (Int.toNat 13) 0) 5 (by decide)
    exact ⟨((ns.getD (Int.toNat 13) 0).fmod 5).toNat, by omega, by omega⟩
  have hm0 : ([V.str (Str.ofString "haar"), V.str (Str.ofString "five"), V.str (Str.ofString "six"), V.str (Str.ofString "nine"), V.str (Str.ofString "thirteen")] : List V)[(y0 : Int).toNat]? = some (.str (kindOf y0)) := by
    rcases five y0 hy5 with rfl | rfl | rfl | rfl | rfl <;> rfl
  rw [hy0]
  refine ⟨_, _, rfl, by omega, by omega, hm0, ?_⟩
  walk_at "ww"
  refine WE_call (by walk_at "mem") c.c149 ?_
  walk_at "ww"
  refine cell_spec c (Nat.le_of_ble_eq_true rfl) hg hl (by decide) ?_
  walk_at "ww"
  obtain ⟨y1, hy1, hy3⟩ : ∃ y : Nat, (ns.getD (Int.toNat 14) 0).fmod 3 = (y : Int) ∧ y < 3 := by
    obtain ⟨h0, h1⟩ := fm (ns.getD (Int.toNat 14) 0) 3 (by decide)
    exact ⟨((ns.getD (Int.toNat 14) 0).fmod 3).toNat, by omega, by omega⟩
  have hm1 : ([V.str (Str.ofString "edge"), V.str (Str.ofString "mirror"), V.str (Str.ofString "ring")] : List V)[(y1 : Int).toNat]? = some (.str (bordOf y1)) := by
    rcases five3 y1 hy3 with rfl | rfl | rfl <;> rfl
  rw [hy1]
  refine ⟨_, _, rfl, by omega, by omega, hm1, ?_⟩
  walk_at "ww"
  refine WE_call (by walk_at "mem") c.c123 ?_
  walk_at "ww"
  refine forward_spec (row := r) (ki := y0) (bi := y1) c rfl (Nat.le_of_ble_eq_true rfl) (Nat.le_of_ble_eq_true rfl) hy5 rfl hy3 rfl orow (by omega) ?_
  intro v J v1 v2 o o1 o2
  refine WAs_tuple rfl o ?_
  have hlen := fwd_len (b := bordOf y1) (sts := stepsOf y0) (eo := (evs r, ods r))
  rw [evs_len, ods_len] at hlen
  have bf := back_forw y0 (bordOf y1) r
  have hlen : (forwardP y0 (bordOf y1) r).1.length = (r.length + 1) / 2 ∧ (forwardP y0 (bordOf y1) r).2.length = r.length / 2 := hlen
  obtain ⟨eo, heo⟩ : ∃ eo, eo = forwardP y0 (bordOf y1) r := ⟨_, rfl⟩
  rw [← heo] at hlen bf o1 o2
  replace orow := orow.app (J := J)
  generalize σ0 ++ J = σ1 at *
  walk_at "ww"
  walk_at "len"
  walk_at "len"
  walk_at "len"
  walk_at "len"
  refine ne_dd (.tuple (.app (.new rfl)) (.cons .int (.cons .int .nil))) (.tuple (.new rfl) (.cons .int (.cons .int .nil))) rfl rfl (Nat.le_of_ble_eq_true rfl) ?_
  rw [ne_pair_false]
  rotate_left
  · simp only [List.length_map, hlen.1]
    rw [Int.fdiv_eq_ediv_of_nonneg _ (by decide)]; omega
  · simp only [List.length_map, hlen.2]
    rw [Int.fdiv_eq_ediv_of_nonneg _ (by decide)]; omega
  walk_at "ww"
  refine WE_call (by walk_at "mem") c.c130 ?_
  walk_at "ww"
  refine backward_spec (lo := eo.1) (hi := eo.2) (ki := y0) (bi := y1) c rfl (Nat.le_of_ble_eq_true rfl) (Nat.le_of_ble_eq_true rfl) hy5 rfl hy3 rfl (by walk_at "ob") (by walk_at "ob") (by omega) (by omega) ?_
  intro w J3 ow
  rw [bf] at ow
  walk_at "ww"
  refine ne_dd (Rd.lst ow) (Rd.lst (xs := r) (by walk_at "ob")) (shaped_ints _) (shaped_ints _) (Nat.le_of_ble_eq_true rfl) ?_
  rw [show (!PyData.eqv (.list (r.map PyData.int)) (.list (r.map PyData.int))) = false by simp [PyData.eqv, eqv_ints]]
  walk_at "ww"
  refine WE_call (by walk_at "mem") callable_builtin ?_
  walk_at "ww"
  refine WE_glob (by walk_at "mem") ?_
  walk_at "ww"
  refine kind_item c hy5 ?_
  walk_at "ww"
  obtain ⟨svs, hsl, hsn, hstp⟩ := steps_at c hy5
  have hs3 : (stepsOf y0).length ≤ 3 := by rcases five y0 hy5 with rfl | rfl | rfl | rfl | rfl <;> decide
  refine WC_len hsl.glob (by omega) ?_
  walk_at "ww"
  refine WE_call (by walk_at "mem") c.c149 ?_
  walk_at "ww"
  refine cell_spec c (Nat.le_of_ble_eq_true rfl) hg hl (by decide) ?_
  walk_at "ww"
  rw [hy0]
  have hm2 : ([V.int 2, V.int 2, V.int 3, V.int 2, V.int 2] : List V)[(y0 : Int).toNat]? = some (.int (stepsOf y0).length) := by
    rcases five y0 hy5 with rfl | rfl | rfl | rfl | rfl <;> rfl
  refine ⟨_, _, rfl, by omega, by omega, hm2, ?_⟩
  walk_at "ww"
  rw [hsn]
  refine ite_b (fun hb => absurd hb (by simp)) fun _ => ?_
  walk_at "ww"
  refine WE_call (by walk_at "mem") c.c123 ?_
  walk_at "ww"
  refine item_list (show ObjAt _ _ vr (.list (r.map V.int)) by walk_at "ob") (by decide) (by decide) (getD_int _ _ (by rw [lr]; exact hN0)) ?_
  walk_at "ww"
  walk_at "len"
  obtain ⟨m, hm⟩ : ∃ m, m = r.getD (Int.toNat 0) 0 := ⟨_, rfl⟩
  rw [← hm]
  refine mul_li (xs := [V.int m]) (by simp) (by first | (simp; done) | (simp; omega)) (by first | (simp; done) | (simp; omega)) (by first | (simp; done) | (simp; omega)) ?_
  rw [rep_one, rep_int]
  simp only [List.length_map, Int.toNat_natCast, hlen.1, hlen.2, lr]
  walk_at "ww"
  refine forward_spec (row := List.replicate N m) (ki := y0) (bi := y1) c rfl (Nat.le_of_ble_eq_true rfl) (Nat.le_of_ble_eq_true rfl) hy5 rfl hy3 rfl (.new rfl) (by simp; omega) ?_
  intro u J4 u1 u2 p p1 p2
  rw [forw_flat hy5] at p1 p2
  walk_at "ww"
  refine item_list (show ObjAt _ _ vr (.list (r.map V.int)) by walk_at "ob") (by decide) (by decide) (getD_int _ _ (by rw [lr]; exact hN0)) ?_
  rw [← hm]
  walk_at "ww"
  walk_at "len"
  refine mul_li (xs := [V.int m]) (by simp) (by first | (simp; done) | (simp; omega)) (by first | (simp; done) | (simp; omega)) (by first | (simp; done) | (simp; omega)) ?_
  rw [rep_one, rep_int]
  simp only [List.length_map, Int.toNat_natCast, hlen.1, hlen.2, lr]
  walk_at "ww"
  walk_at "len"
  refine mul_li (xs := [V.int 0]) (by simp) (by first | (simp; done) | (simp; omega)) (by first | (simp; done) | (simp; omega)) (by first | (simp; done) | (simp; omega)) ?_
  rw [rep_one, rep_int]
  simp only [List.length_map, Int.toNat_natCast, hlen.1, hlen.2, lr]
  walk_at "ww"
  refine ne_dd (da := .tuple [.list ((List.replicate ((N + 1) / 2) m).map PyData.int), .list ((List.replicate (N / 2) 0).map PyData.int)]) (db := .tuple [.list ((List.replicate ((N + 1) / 2) m).map PyData.int), .list ((List.replicate (N / 2) 0).map PyData.int)])
    (.tuple (by walk_at "ob") (.cons (Rd.lst (by walk_at "ob")) (.cons (Rd.lst (by walk_at "ob")) .nil)))
    (.tuple (.new rfl) (.cons (Rd.lst (.app (.app (.app (.new rfl))))) (.cons (Rd.lst (.app (.new rfl))) .nil))) (shaped_pair _ _) (shaped_pair _ _) (Nat.le_of_ble_eq_true rfl) ?_
  rw [eqv_pair]
  walk_at "ww"
  refine WE_call (by walk_at "mem") c.c135 ?_
  walk_at "ww"
  refine plain_forward_spec (row := r) (ki := y0) (bi := y1) c rfl (Nat.le_of_ble_eq_true rfl) (Nat.le_of_ble_eq_true rfl) hy5 rfl hy3 rfl (by walk_at "ob") (by omega) (by omega) ?_
  intro q J5 q1 q2 z z1 z2
  rw [← heo] at z1 z2
  walk_at "ww"
  refine eq_dd (da := .tuple [.list (eo.1.map PyData.int), .list (eo.2.map PyData.int)]) (db := .tuple [.list (eo.1.map PyData.int), .list (eo.2.map PyData.int)])
    (.tuple (by walk_at "ob") (.cons (Rd.lst (by walk_at "ob")) (.cons (Rd.lst (by walk_at "ob")) .nil)))
    (.tuple (.new rfl) (.cons (Rd.lst (by walk_at "ob")) (.cons (Rd.lst (by walk_at "ob")) .nil))) (shaped_pair _ _) (shaped_pair _ _) (Nat.le_of_ble_eq_true rfl) ?_
  rw [eqv_pair]
  walk_at "ww"
  rfl
end Mine
open PySem PySem.W PyProof.Rows Mine
theorem PySem.Challenge.cw_ui0502_13_holds : PySem.Challenge.rw_ui0502_13.Holds := by
  refine Mine.hd ?_
  k_fill
  intro w s₀ s₁ mg mb G Y fa o pm cd doc dV kV ho hd' hcd hD hmg hg args vals as hpre hlay hrd hwl hlo
  have KX := kIn_of Y
  refine Ground.open G ?_
  intro T B D TE TW
  have hfa : fa = 154 := by
    have h1 := mg_of (n := Str.ofString "law") KX T.g (v := .ref 154) (by kernel_rfl)
    have h2 : mg (Str.ofString "law") = some (.ref fa) := hmg
    rw [h1] at h2
    injection h2 with h2
    injection h2 with h2
    exact h2.symm
  subst hfa
  clear hd' hcd hD hmg ho
  wrow_args hpre hlay hrd hwl hlo
  rename_i ns _ _ _ _ _ _ _ a vs _ hL _ _ _ hI _ hlen _
  let C : Cx := { prog := PySem.Challenge.rw_ui0502_13.row.prog, w := w, G := s₁.heap, gob := (a, .list (ns.map .int)) :: topObjs, glo := [], mg := mg, mb := mb }
  have glb : ∀ x v, nsIn (hd.heap_39 w.params) mainGlobals x = some none → bootBuiltins x = some v → x ≠ Str.ofString "__name__" → mg x = some v ∨ (mg x = none ∧ mb x = some v) :=
    fun x v e1 e2 e3 => .inr ⟨mg_none_of KX T.g e1, (T.builtins x e3).trans e2⟩
  have c : Law C := by
    refine ⟨KX, fun x hx => List.mem_cons_of_mem _ hx, ?_⟩
    intro x v hx
    simp only [lawGlo, List.mem_cons, List.not_mem_nil, or_false] at hx
    rcases hx with e | e | e | e | e | e | e | e | e | e | e | e | e | e | e | e | e | e | e <;> cases e
    · exact glb _ _ (by kernel_rfl) (by boot_by_name) (by decide)
    · exact glb _ _ (by kernel_rfl) (by boot_by_name) (by decide)
    · exact glb _ _ (by kernel_rfl) (by boot_by_name) (by decide)
    · exact glb _ _ (by kernel_rfl) (by boot_by_name) (by decide)
    · exact glb _ _ (by kernel_rfl) (by boot_by_name) (by decide)
    · exact glb _ _ (by kernel_rfl) (by boot_by_name) (by decide)
    · exact glb _ _ (by kernel_rfl) (by boot_by_name) (by decide)
    · exact .inl (mg_of KX T.g (by kernel_rfl))
    · exact .inl (mg_of KX T.g (by kernel_rfl))
    · exact .inl (mg_of KX T.g (by kernel_rfl))
    · exact .inl (mg_of KX T.g (by kernel_rfl))
    · exact .inl (mg_of KX T.g (by kernel_rfl))
    · exact .inl (mg_of KX T.g (by kernel_rfl))
    · exact .inl (mg_of KX T.g (by kernel_rfl))
    · exact .inl (mg_of KX T.g (by kernel_rfl))
    · exact .inl (mg_of KX T.g (by kernel_rfl))
    · exact .inl (mg_of KX T.g (by kernel_rfl))
    · exact .inl (mg_of KX T.g (by kernel_rfl))
    · exact .inl (mg_of KX T.g (by kernel_rfl))
  have ok : C.Ok := by
    refine ⟨?_, T.g, T.b, fun x v hx => (nomatch hx), T.nolimit⟩
    · intro b o hb
      rcases List.mem_cons.mp hb with e | hb'
      · cases e
        exact ⟨vs.toArray, hL, by simpa using RVs.ints hI⟩
      · exact topObjs_ok KX b o hb'
  exact bridge PySem.Challenge.rw_ui0502_13 (C := C) rfl rfl rfl ok hg (law_main c (.head _) (by omega) (fun x hx => List.mem_cons_of_mem _ hx))

