import PyProof.Rows.All
import Wide.All
import OpenK.AllK
import Wide.FinOn
import KE.KTryMore
import PyProof.StrLawsTight
import PyProof.StrLawsChain
import PyProof.Rows.StrCut
import KE.KStrWords
import KE.KIntText
import KE.KUnpack
import PyProof.Rows.RuleIs
import PySem.Challenge.RW_ui0502_10
set_option Elab.async false
set_option maxRecDepth 100000
set_option maxHeartbeats 8000000
-- part Aw0
set_option autoImplicit false
set_option linter.unusedVariables false
namespace Mine
open PySem

theorem size_upd (h : Heap) (a : Addr) (f : Obj → Obj) : (h.update a f).objs.size = h.objs.size := (Heap.SameBut.update h a f).1
theorem size_psh (h : Heap) (o : Obj) : (h.push o).objs.size = h.objs.size + 1 := by simp [Heap.push]
theorem runs_sz {M : Model} {Γ : Ctx} {p : Pos} {t : Sem Fin} {fs : List Frame} {s s' : Shared} {e : End} (h : Runs M Γ p t fs s e s') : s.heap.objs.size ≤ s'.heap.objs.size := by
  induction h <;> (try simp only [Shared.setGen, size_upd, size_psh] at *) <;> omega
theorem wakes_sz {M : Model} {Γ : Ctx} {p : Pos} {g : Nat} {r : Resume} {s s' : Shared} {res : GenResult} (h : Wakes M Γ p g r s res s') : s.heap.objs.size ≤ s'.heap.objs.size := by
  unfold Wakes at h
  split at h
  · exact h.elim
  · split at h
    · obtain ⟨e₁, s₁, hr, _, _, rfl⟩ := h; exact (runs_sz hr : (s.setGen g .running).heap.objs.size ≤ s₁.heap.objs.size)
    · rw [h.2]; exact Nat.le_refl _
    · rw [h.2]; exact Nat.le_refl _
  · obtain ⟨e₁, s₁, hr, _, _, rfl⟩ := h; exact (runs_sz hr : (s.setGen g .running).heap.objs.size ≤ s₁.heap.objs.size)
  · rw [h.2]; exact Nat.le_refl _
  · rw [h.2]; exact Nat.le_refl _
theorem wp_sz {α : Type} (M : Model) (Γ : Ctx) (n : Nat) (t : Sem α) : ∀ (Q : α → Pos → Shared → Prop) (E : Value → Pos → Shared → Prop) (p : Pos) (s : Shared), n ≤ s.heap.objs.size → Sem.wp M Γ t Q E p s →
    Sem.wp M Γ t (fun a p' s' => n ≤ s'.heap.objs.size ∧ Q a p' s') (fun e p' s' => n ≤ s'.heap.objs.size ∧ E e p' s') p s := by
  induction t with
  | pure a => intro Q E p s hn h; exact ⟨hn, h⟩
  | raise e => intro Q E p s hn h; exact ⟨hn, h⟩
  | unsupported _ => intro Q E p s _ h; exact h
  | finish _ => intro Q E p s _ h; exact h
  | rule _ k ih => intro Q E p s hn h; exact ih () Q E p s hn h
  | «at» p' k ih => intro Q E p s hn h; exact ih () Q E p' s hn h
  | load a _ k ih => intro Q E p s hn h; obtain ⟨o, ho, h⟩ := h; exact ⟨o, ho, ih o Q E p s hn h⟩
  | update a _ f k ih => intro Q E p s hn h; exact ⟨h.1, ih () Q E p _ (by simp only [size_upd]; exact hn) h.2⟩
  | loadIfAlive a k ih => intro Q E p s hn h; exact ih _ Q E p s hn h
  | point _ k ih => intro Q E p s hn h; exact ih () Q E p s hn h
  | register _ _ => intro Q E p s _ h; exact h
  | alloc o k ih => intro Q E p s hn h; exact ih _ Q E p _ (by simp only [size_psh]; omega) h
  | fresh k ih => intro Q E p s hn h; exact ih _ Q E p _ hn h
  | ask k ih => intro Q E p s hn h; exact ih _ Q E p s hn h
  | choose src m k ih => intro Q E p s hn h; exact ⟨h.1, ih _ Q E p _ hn h.2⟩
  | os q _ k ih => intro Q E p s hn h; exact ih _ Q E p _ hn h
  | call c hd _ _ k ih => intro Q E p s hn h; obtain ⟨r, s', hr, h⟩ := h; exact ⟨r, s', hr, ih r Q E p s' (Nat.le_trans hn (runs_sz hr)) h⟩
  | handled own k ih => intro Q E p s hn h; exact ih _ Q E p s hn h
  | genState g k ih => intro Q E p s hn h; obtain ⟨st, hs, h⟩ := h; exact ⟨st, hs, ih _ Q E p s hn h⟩
  | newGen c k ih => intro Q E p s hn h; exact ih _ Q E p _ hn h
  | resume g r _ k ih => intro Q E p s hn h; obtain ⟨res, s', hw, h⟩ := h; exact ⟨res, s', hw, ih res Q E p s' (Nat.le_trans hn (wakes_sz hw)) h⟩
  | yield _ _ _ _ => intro Q E p s _ h; exact h
  | stack k ih => intro Q E p s hn h; exact ih _ Q E p s hn h
  | fork _ _ => intro Q E p s _ h; exact h
  | thread k ih => intro Q E p s hn h; exact ih _ Q E p s hn h
  | await _ _ _ _ _ => intro Q E p s _ h; exact h
/-- the heap never shrinks -/
theorem wpAny_sz {α : Type} {M : Model} {A : Around} {s : Shared} {t : Sem α} {Q : α → Shared → Prop} {E : Value → Shared → Prop}
    (h : wpAny M A t (fun a s' => s.heap.objs.size ≤ s'.heap.objs.size → Q a s') E s) : wpAny M A t Q E s :=
  have h2 : wpAny M A t (fun a s' => s.heap.objs.size ≤ s'.heap.objs.size ∧ (s.heap.objs.size ≤ s'.heap.objs.size → Q a s')) (fun e s' => s.heap.objs.size ≤ s'.heap.objs.size ∧ E e s') s :=
    fun Γ p hΓ => wp_sz M Γ s.heap.objs.size t _ _ p s (Nat.le_refl _) (h Γ p hΓ)
  wpAny_mono h2 (fun _ _ x => x.2 x.1) (fun _ _ x => x.2)
end Mine

-- part Aw1
set_option autoImplicit false
namespace Mine
open PySem

inductive V where
  | none
  | bool (b : Bool)
  | int (i : Int)
  | str (s : Str)
  | bytes (b : Array UInt8)
  | ref (i : Nat)
  | k (v : Value)

/-- a key's part -/
inductive Atom where
  | s (x : Str)
  | i (n : Int)
  deriving DecidableEq
inductive O where
  | list (xs : List V)
  | tuple (xs : List V)
  | inst (C : Addr) (d : Nat)
  | ns (es : List (Str × V))
  | tdict (es : List (List Atom × Nat × V))

abbrev AH := List O
abbrev Loc := List (Str × Option V)

def RV (ad : List Addr) : V → Value → Prop
  | .none, x => x = .none
  | .bool b, x => x = .bool b
  | .int i, x => ∃ t, x = .int i t
  | .str s, x => ∃ t, x = .str s t
  | .bytes b, x => ∃ t, x = .bytes b t
  | .ref i, x => ∃ a, ad[i]? = some a ∧ x = .ref a
  | .k v, x => x = v

inductive RVs (ad : List Addr) : List V → List Value → Prop
  | nil : RVs ad [] []
  | cons {v : V} {x : Value} {vs : List V} {xs : List Value} : RV ad v x → RVs ad vs xs → RVs ad (v :: vs) (x :: xs)

inductive REs (P : Params) (ad : List Addr) : List (Str × V) → List DictEntry → Prop
  | nil : REs P ad [] []
  | cons {k : Str} {v : V} {t : Tok} {x : Value} {es : List (Str × V)} {ds : List DictEntry} : RV ad v x → REs P ad es ds → REs P ad ((k, v) :: es) (⟨PyData.keyHash P k, .str k t, x⟩ :: ds)

def atomHash (P : Params) : Atom → Int
  | .s x => PyData.keyHash P x
  | .i n => hashInt n
def tkHash (P : Params) (ks : List Atom) : Int := reduceHash (Builtin.Tuple.tupleHashOf (ks.map (atomHash P)))
inductive RTs (P : Params) (ad : List Addr) : List (List Atom × Nat × V) → List DictEntry → Prop
  | nil : RTs P ad [] []
  | cons {ks : List Atom} {j : Nat} {a : Addr} {v : V} {x : Value} {es : List (List Atom × Nat × V)} {ds : List DictEntry} : ad[j]? = some a → RV ad v x → RTs P ad es ds → RTs P ad ((ks, j, v) :: es) (⟨tkHash P ks, .ref a, x⟩ :: ds)

def RO (P : Params) (ad : List Addr) : O → Obj → Prop
  | .list xs, o => ∃ vs n, o = ⟨.type "list", none, .seq vs n, #[]⟩ ∧ RVs ad xs vs.toList
  | .tuple xs, o => ∃ vs n, o = ⟨.type "tuple", none, .seq vs n, #[]⟩ ∧ RVs ad xs vs.toList
  | .inst C d, o => ∃ a, ad[d]? = some a ∧ o = ⟨.ref C, some a, .plain, #[]⟩
  | .ns es, o => ∃ ds n, o = ⟨.type "dict", none, .dict ds n, #[]⟩ ∧ REs P ad es ds.toList
  | .tdict es, o => ∃ ds n, o = ⟨.type "dict", none, .dict ds n, #[]⟩ ∧ RTs P ad es ds.toList

theorem RV.mono {ad nw : List Addr} {v : V} {x : Value} (h : RV ad v x) : RV (ad ++ nw) v x := by
  cases v <;> try exact h
  obtain ⟨a, h1, h2⟩ := h
  refine ⟨a, ?_, h2⟩
  rw [List.getElem?_append_left]
  · exact h1
  · exact (List.getElem?_eq_some_iff.mp h1).1
theorem RVs.mono {ad nw : List Addr} {v : List V} {x : List Value} (h : RVs ad v x) : RVs (ad ++ nw) v x := by
  induction h with
  | nil => exact .nil
  | cons a _ ih => exact .cons a.mono ih
theorem REs.mono {P : Params} {ad nw : List Addr} {v : List (Str × V)} {x : List DictEntry} (h : REs P ad v x) : REs P (ad ++ nw) v x := by
  induction h with
  | nil => exact .nil
  | cons a _ ih => exact .cons a.mono ih
theorem RTs.mono {P : Params} {ad nw : List Addr} {v : List (List Atom × Nat × V)} {x : List DictEntry} (h : RTs P ad v x) : RTs P (ad ++ nw) v x := by
  induction h with
  | nil => exact .nil
  | cons e a _ ih => exact .cons (by rw [List.getElem?_append_left (List.getElem?_eq_some_iff.mp e).1]; exact e) a.mono ih
theorem RO.mono {P : Params} {ad nw : List Addr} {o : O} {x : Obj} (h : RO P ad o x) : RO P (ad ++ nw) o x := by
  cases o with
  | list xs => obtain ⟨vs, n, e, r⟩ := h; exact ⟨vs, n, e, r.mono⟩
  | tuple xs => obtain ⟨vs, n, e, r⟩ := h; exact ⟨vs, n, e, r.mono⟩
  | inst C d =>
    obtain ⟨a, h1, h2⟩ := h
    refine ⟨a, ?_, h2⟩
    rw [List.getElem?_append_left]
    · exact h1
    · exact (List.getElem?_eq_some_iff.mp h1).1
  | ns es => obtain ⟨vs, n, e, r⟩ := h; exact ⟨vs, n, e, r.mono⟩
  | tdict es => obtain ⟨vs, n, e, r⟩ := h; exact ⟨vs, n, e, r.mono⟩
theorem RO.notFreed {P : Params} {ad : List Addr} {o : O} {x : Obj} (h : RO P ad o x) : x.isFreed = false := by
  cases o with
  | list xs => obtain ⟨vs, n, e, r⟩ := h; subst e; rfl
  | tuple xs => obtain ⟨vs, n, e, r⟩ := h; subst e; rfl
  | inst C d => obtain ⟨a, h1, h2⟩ := h; subst h2; rfl
  | ns es => obtain ⟨vs, n, e, r⟩ := h; subst e; rfl
  | tdict es => obtain ⟨vs, n, e, r⟩ := h; subst e; rfl
theorem RVs.length {ad : List Addr} {v : List V} {x : List Value} (h : RVs ad v x) : v.length = x.length := by
  induction h with
  | nil => rfl
  | cons _ _ ih => simp [ih]
theorem RVs.get {ad : List Addr} {v : List V} {x : List Value} (h : RVs ad v x) : ∀ {i : Nat} {a : V}, v[i]? = some a → ∃ u, x[i]? = some u ∧ RV ad a u := by
  induction h with
  | nil => intro i a h; simp at h
  | cons r _ ih =>
    intro i a h
    cases i with
    | zero => simp at h; subst h; exact ⟨_, rfl, r⟩
    | succ i => simp at h; obtain ⟨u, h1, h2⟩ := ih h; exact ⟨u, by simpa using h1, h2⟩

structure Cx where
  prog : Program
  w : World
  G : Heap
  gob : List (Addr × O)
  glo : List (Str × Value)
  mg : Str → Option Value
  mb : Str → Option Value

abbrev Cx.wg (C : Cx) (l : List (Str × Value)) : Cx := { C with glo := l }
def nmOk (x : Str) : Bool := !(x == ("__debug__" : Str)) && !(x == ("__classdict__" : Str))
theorem nmOk_d {x : Str} (h : nmOk x = true) : (x == ("__debug__" : Str)) = false := by unfold nmOk at h; simp at h ⊢; exact h.1
theorem nmOk_c {x : Str} (h : nmOk x = true) : (x == ("__classdict__" : Str)) = false := by unfold nmOk at h; simp at h ⊢; exact h.2
/-- an object of the base, as read -/
def GO (P : Params) (h : Heap) (a : Addr) : O → Prop
  | .list xs => ∃ vs, h.IsList a vs ∧ RVs [] xs vs.toList
  | .tuple xs => ∃ vs, h.IsTuple a vs ∧ RVs [] xs vs.toList
  | o => ∃ ob, h.get? a = some ob ∧ RO P [] o ob
theorem GO.keeps {P : Params} {h h' : Heap} {a : Addr} {o : O} (x : GO P h a o) (k : ∀ b o, h.get? b = some o → h'.get? b = some o) : GO P h' a o := by
  cases o with
  | list xs => obtain ⟨vs, ⟨o, ho, r⟩, r2⟩ := x; exact ⟨vs, ⟨o, k _ _ ho, r⟩, r2⟩
  | tuple xs => obtain ⟨vs, ⟨o, ho, r⟩, r2⟩ := x; exact ⟨vs, ⟨o, k _ _ ho, r⟩, r2⟩
  | inst C d => obtain ⟨ob, h1, h2⟩ := x; exact ⟨ob, k _ _ h1, h2⟩
  | ns es => obtain ⟨ob, h1, h2⟩ := x; exact ⟨ob, k _ _ h1, h2⟩
  | tdict es => obtain ⟨ob, h1, h2⟩ := x; exact ⟨ob, k _ _ h1, h2⟩
structure Cx.Ok (C : Cx) : Prop where
  gob : ∀ a o, (a, o) ∈ C.gob → GO C.w.params C.G a o
  g : C.G.Ns mainGlobals C.mg
  b : C.G.Ns builtinsNs C.mb
  glo : ∀ x v, (x, v) ∈ C.glo → C.mg x = some v ∨ (C.mg x = none ∧ C.mb x = some v)
  lim : C.G.NoLimit

structure HR (C : Cx) (ad : List Addr) (σ : AH) (h : Heap) : Prop where
  ok : C.Ok
  keep : ∀ b o, C.G.get? b = some o → h.get? b = some o
  len : ad.length = σ.length
  nd : ad.Nodup
  off : ∀ a ∈ ad, C.G.get? a = none
  low : ∀ a ∈ ad, a ≠ sysModules
  obj : ∀ (i : Nat) (o : O) (a : Addr), σ[i]? = some o → ad[i]? = some a → ∃ ob, h.get? a = some ob ∧ RO C.w.params ad o ob

def fa (env : Env) : List Addr := env.locals :: env.cells.map (·.2)

structure ER (C : Cx) (env : Env) (ρ : Loc) (ad : List Addr) (h : Heap) : Prop where
  kind : env.scope.kind = .function
  glob : env.globals = mainGlobals
  blt : env.builtins = builtinsNs
  nd : (ρ.map (·.1)).Nodup
  kd : ∀ x v, (x, v) ∈ ρ → env.kindOf x = some .local ∨ ((env.kindOf x = some .cell ∨ env.kindOf x = some .free) ∧ (env.cells.lookup x).isSome = true)
  m : ∃ m, h.Ns env.locals m ∧ ∀ x v, (x, some v) ∈ ρ → env.kindOf x = some .local → ∃ u, m x = some u ∧ RV ad v u
  cell : ∀ x c, env.cells.lookup x = some c → ∃ o w, h.get? c = some o ∧ o.data = .cell w ∧ (∀ v, (x, some v) ∈ ρ → env.kindOf x ≠ some .local → ∃ u, w = some u ∧ RV ad v u)
  cinj : ∀ x y c, env.cells.lookup x = some c → env.cells.lookup y = some c → x = y
  cl : ∀ x c, env.cells.lookup x = some c → c ≠ env.locals
  off : ∀ a ∈ fa env, C.G.get? a = none ∧ a ∉ ad
  lt : ∀ a ∈ fa env, a < h.objs.size
  nm : ∀ x v, (x, v) ∈ ρ → nmOk x = true
  gk : ∀ x v, (x, v) ∈ C.glo → env.kindOf x = some .globalImplicit ∧ nmOk x = true

structure Nx (C : Cx) (ch : List Addr) (ad : List Addr) (s : Shared) (ad' : List Addr) (σ' : AH) (s' : Shared) : Prop where
  eq : ∃ h tk, s' = { s with heap := h, toks := tk }
  pre : ∃ nw, ad' = ad ++ nw ∧ ∀ a ∈ nw, s.heap.objs.size ≤ a
  size : s.heap.objs.size ≤ s'.heap.objs.size
  same : ∀ b o, s.heap.get? b = some o → b ∉ ad → b ∉ ch → s'.heap.get? b = some o
  hr : HR C ad' σ' s'.heap

theorem mem_cells {env : Env} {x : Str} {c : Addr} (h : env.cells.lookup x = some c) : c ∈ fa env := by
  unfold fa
  refine List.mem_cons_of_mem _ ?_
  generalize env.cells = l at h
  induction l with
  | nil => simp at h
  | cons p r ih =>
    obtain ⟨y, d⟩ := p
    simp only [List.lookup_cons] at h
    split at h
    · cases h; simp
    · simp only [List.map_cons, List.mem_cons]; exact .inr (ih h)

theorem Nx.refl {C : Cx} {ch ad : List Addr} {σ : AH} {s : Shared} (h : HR C ad σ s.heap) : Nx C ch ad s ad σ s :=
  ⟨⟨s.heap, s.toks, rfl⟩, ⟨[], by simp, by simp⟩, Nat.le_refl _, fun _ _ e _ _ => e, h⟩
theorem Nx.tok {C : Cx} {ch ad : List Addr} {σ : AH} {s : Shared} (t : Nat) (h : HR C ad σ s.heap) : Nx C ch ad s ad σ { s with toks := t } :=
  ⟨⟨s.heap, t, rfl⟩, ⟨[], by simp, by simp⟩, Nat.le_refl _, fun _ _ e _ _ => e, h⟩
theorem Nx.trans {C : Cx} {ch ad ad1 ad2 : List Addr} {σ1 σ2 : AH} {s s1 s2 : Shared} (a : Nx C ch ad s ad1 σ1 s1) (b : Nx C ch ad1 s1 ad2 σ2 s2) : Nx C ch ad s ad2 σ2 s2 := by
  obtain ⟨h1, t1, e1⟩ := a.eq
  obtain ⟨h2, t2, e2⟩ := b.eq
  obtain ⟨n1, p1, q1⟩ := a.pre
  obtain ⟨n2, p2, q2⟩ := b.pre
  refine ⟨⟨h2, t2, by rw [e2, e1]⟩, ⟨n1 ++ n2, by rw [p2, p1, List.append_assoc], ?_⟩, Nat.le_trans a.size b.size, ?_, b.hr⟩
  · intro x hx
    rcases List.mem_append.mp hx with hx | hx
    · exact q1 x hx
    · exact Nat.le_trans a.size (q2 x hx)
  · intro x o e n c
    refine b.same x o (a.same x o e n c) ?_ c
    rw [p1]
    intro hx
    rcases List.mem_append.mp hx with hx | hx
    · exact n hx
    · exact absurd (Heap.lt_size e) (Nat.not_lt.mpr (q1 x hx))
theorem Nx.weak {C : Cx} {ch ad ad1 : List Addr} {σ1 : AH} {s s1 : Shared} (a : Nx C [] ad s ad1 σ1 s1) : Nx C ch ad s ad1 σ1 s1 :=
  ⟨a.eq, a.pre, a.size, fun b o e n _ => a.same b o e n (by simp), a.hr⟩
theorem Nx.rv {C : Cx} {ch ad ad1 : List Addr} {σ1 : AH} {s s1 : Shared} (a : Nx C ch ad s ad1 σ1 s1) {v : V} {x : Value} (h : RV ad v x) : RV ad1 v x := by
  obtain ⟨n1, p1, q1⟩ := a.pre; rw [p1]; exact h.mono
theorem Nx.rvs {C : Cx} {ch ad ad1 : List Addr} {σ1 : AH} {s s1 : Shared} (a : Nx C ch ad s ad1 σ1 s1) {v : List V} {x : List Value} (h : RVs ad v x) : RVs ad1 v x := by
  obtain ⟨n1, p1, q1⟩ := a.pre; rw [p1]; exact h.mono

theorem ER.next {C : Cx} {env : Env} {ρ : Loc} {ad ad1 : List Addr} {σ1 : AH} {s s1 : Shared} (r : ER C env ρ ad s.heap) (a : Nx C [] ad s ad1 σ1 s1) : ER C env ρ ad1 s1.heap := by
  have keep : ∀ b ∈ fa env, ∀ o, s.heap.get? b = some o → s1.heap.get? b = some o := fun b hb o e => a.same b o e (r.off b hb).2 (by simp)
  refine ⟨r.kind, r.glob, r.blt, r.nd, r.kd, ?_, ?_, r.cinj, r.cl, ?_, fun b hb => Nat.lt_of_lt_of_le (r.lt b hb) a.size, r.nm, r.gk⟩
  · obtain ⟨m, hm, h⟩ := r.m
    refine ⟨m, hm.at' fun o e => keep _ (by simp [fa]) o e, fun x v hx hk => ?_⟩
    obtain ⟨u, h1, h2⟩ := h x v hx hk
    exact ⟨u, h1, a.rv h2⟩
  · intro x c hc
    obtain ⟨o, w, h1, h2, h3⟩ := r.cell x c hc
    refine ⟨o, w, keep c (mem_cells hc) o h1, h2, fun v hv hk => ?_⟩
    obtain ⟨u, e, hu⟩ := h3 v hv hk
    exact ⟨u, e, a.rv hu⟩
  · intro b hb
    refine ⟨(r.off b hb).1, ?_⟩
    obtain ⟨n1, p1, q1⟩ := a.pre
    rw [p1]
    intro hx
    rcases List.mem_append.mp hx with hx | hx
    · exact (r.off b hb).2 hx
    · exact absurd (r.lt b hb) (Nat.not_lt.mpr (q1 b hx))

end Mine

-- part Aw2
set_option autoImplicit false
set_option linter.unusedVariables false
namespace Mine
open PySem PyProof.Rows

inductive Fl where
  | next
  | brk
  | cont
  | ret (v : V)
def RF (ad : List Addr) : Fl → Flow → Prop
  | .next, f => f = .next
  | .brk, f => f = .brk
  | .cont, f => f = .cont
  | .ret v, f => ∃ u, f = .ret u ∧ RV ad v u

/- the syntax looked at, cheaply -/
def isCompE : Expr → Bool
  | .ListComp .. => true
  | .SetComp .. => true
  | .DictComp .. => true
  | _ => false
theorem swaps_not {e : Expr} {t : Option Expr} {l : Nat} {env : Env} (h : isCompE e = false) : swapsWith e t l env = pure false := by
  cases e <;> first | rfl | cases h
def isSetE : Expr → Bool
  | .Set .. => true
  | _ => false
theorem folded_not {e : Expr} {env : Env} (h : isSetE e = false) : ∀ x, foldedSetIterable e env x = pure x := by
  intro x
  cases e <;> first | rfl | cases h
theorem marks_not {op : CmpOp} {e : Expr} (h : isSetE e = false) : behindInMarks op e = false := by
  cases e <;> first | rfl | cases h
def starE : Expr → Bool
  | .Starred .. => true
  | _ => false
theorem star_not {e : Expr} {es : List Expr} {env : Env} (h : starE e = false) : starEach (e :: es) env = (false, eval e env) :: starEach es env := by
  cases e <;> first | rfl | cases h
theorem assign_not {e : Expr} {es : List Expr} {env : Env} (h : starE e = false) : assignEach (e :: es) env = (false, assign e env) :: assignEach es env := by
  cases e <;> first | rfl | cases h
def plainTest : Expr → Bool
  | .UnaryOp .Not _ _ => false
  | .BoolOp .. => false
  | .IfExp .. => false
  | .Compare .. => false
  | _ => true
theorem test_plain {e : Expr} {env : Env} (h : plainTest e = true) : ∀ whole, isTrue e env whole = (do let v ← whole; standAt e.pos; holding [v] (truthy v)) := by
  intro w
  cases e with
  | UnaryOp op x p => cases op <;> first | rfl | cases h
  | _ => first | rfl | cases h

abbrev EX := Value → Shared → Prop
def PE (C : Cx) (ad : List Addr) (s : Shared) (Q : V → AH → Prop) : Value → Shared → Prop :=
  fun u s' => ∃ ad' σ' v, Nx C [] ad s ad' σ' s' ∧ RV ad' v u ∧ Q v σ'
def PB (C : Cx) (ad : List Addr) (s : Shared) (Q : Bool → AH → Prop) : Bool → Shared → Prop :=
  fun u s' => ∃ ad' σ', Nx C [] ad s ad' σ' s' ∧ Q u σ'
def PL (C : Cx) (ad : List Addr) (s : Shared) (Q : List V → AH → Prop) : List Value → Shared → Prop :=
  fun u s' => ∃ ad' σ' v, Nx C [] ad s ad' σ' s' ∧ RVs ad' v u ∧ Q v σ'
def PS (C : Cx) (env : Env) (ad : List Addr) (s : Shared) (Q : Fl → Loc → AH → Prop) : Flow → Shared → Prop :=
  fun f s' => ∃ ad' σ' ρ' fl, Nx C (fa env) ad s ad' σ' s' ∧ ER C env ρ' ad' s'.heap ∧ RF ad' fl f ∧ Q fl ρ' σ'

structure WE (C : Cx) (A : Around) (env : Env) (e : Expr) (ρ : Loc) (σ : AH) (Q : V → AH → Prop) (E : EX) : Prop where
  run : ∀ ad s, HR C ad σ s.heap → ER C env ρ ad s.heap → wpAny (model C.prog C.w) A (eval e env) (PE C ad s Q) E s
structure WB (C : Cx) (A : Around) (env : Env) (e : Expr) (ρ : Loc) (σ : AH) (Q : Bool → AH → Prop) (E : EX) : Prop where
  run : ∀ ad s, HR C ad σ s.heap → ER C env ρ ad s.heap → wpAny (model C.prog C.w) A (isTrue e env (eval e env)) (PB C ad s Q) E s
structure WL (C : Cx) (A : Around) (env : Env) (es : List Expr) (ρ : Loc) (σ : AH) (Q : List V → AH → Prop) (E : EX) : Prop where
  run : ∀ ad s pos, HR C ad σ s.heap → ER C env ρ ad s.heap → wpAny (model C.prog C.w) A (spliced (backTo pos (starEach es env))) (PL C ad s Q) E s
structure WS (C : Cx) (A : Around) (env : Env) (st : Stmt) (ρ : Loc) (σ : AH) (Q : Fl → Loc → AH → Prop) (E : EX) : Prop where
  run : ∀ ad s, HR C ad σ s.heap → ER C env ρ ad s.heap → wpAny (model C.prog C.w) A (exec st env) (PS C env ad s Q) E s
structure WSs (C : Cx) (A : Around) (env : Env) (st : List Stmt) (ρ : Loc) (σ : AH) (Q : Fl → Loc → AH → Prop) (E : EX) : Prop where
  run : ∀ ad s, HR C ad σ s.heap → ER C env ρ ad s.heap → wpAny (model C.prog C.w) A (execs st env) (PS C env ad s Q) E s
structure WOp2 (C : Cx) (A : Around) (t : Value → Value → Sem Value) (a b : V) (σ : AH) (Q : V → AH → Prop) (E : EX) : Prop where
  run : ∀ ad s x y, HR C ad σ s.heap → RV ad a x → RV ad b y → wpAny (model C.prog C.w) A (t x y) (PE C ad s Q) E s
structure WOp1 (C : Cx) (A : Around) (t : Value → Sem Value) (a : V) (σ : AH) (Q : V → AH → Prop) (E : EX) : Prop where
  run : ∀ ad s x, HR C ad σ s.heap → RV ad a x → wpAny (model C.prog C.w) A (t x) (PE C ad s Q) E s
structure WTr (C : Cx) (A : Around) (a : V) (σ : AH) (Q : Bool → AH → Prop) (E : EX) : Prop where
  run : ∀ ad s x, HR C ad σ s.heap → RV ad a x → wpAny (model C.prog C.w) A (truthy x) (PB C ad s Q) E s
structure WC (C : Cx) (A : Around) (f : Value) (args : List V) (σ : AH) (Q : V → AH → Prop) (E : EX) : Prop where
  run : ∀ ad s xs, HR C ad σ s.heap → RVs ad args xs → wpAny (model C.prog C.w) A (call f xs) (PE C ad s Q) E s

section
variable {C : Cx} {A : Around} {env : Env} {ρ : Loc} {σ : AH} {E : EX}

theorem PE.trans {ad ad1 : List Addr} {s s1 s' : Shared} {σ1 : AH} {Q : V → AH → Prop} {u : Value} (n : Nx C [] ad s ad1 σ1 s1) (p : PE C ad1 s1 Q u s') : PE C ad s Q u s' := by
  obtain ⟨ad', σ', v, a, b, c⟩ := p
  exact ⟨ad', σ', v, n.trans a, b, c⟩
theorem PB.trans {ad ad1 : List Addr} {s s1 s' : Shared} {σ1 : AH} {Q : Bool → AH → Prop} {u : Bool} (n : Nx C [] ad s ad1 σ1 s1) (p : PB C ad1 s1 Q u s') : PB C ad s Q u s' := by
  obtain ⟨ad', σ', a, c⟩ := p
  exact ⟨ad', σ', n.trans a, c⟩
theorem PL.trans {ad ad1 : List Addr} {s s1 s' : Shared} {σ1 : AH} {Q : List V → AH → Prop} {u : List Value} (n : Nx C [] ad s ad1 σ1 s1) (p : PL C ad1 s1 Q u s') : PL C ad s Q u s' := by
  obtain ⟨ad', σ', v, a, b, c⟩ := p
  exact ⟨ad', σ', v, n.trans a, b, c⟩
theorem PS.trans {ad ad1 : List Addr} {s s1 s' : Shared} {σ1 : AH} {Q : Fl → Loc → AH → Prop} {u : Flow} (n : Nx C (fa env) ad s ad1 σ1 s1) (p : PS C env ad1 s1 Q u s') : PS C env ad s Q u s' := by
  obtain ⟨ad', σ', ρ', fl, a, b, c⟩ := p
  exact ⟨ad', σ', ρ', fl, n.trans a, b, c⟩

theorem WE.mono {e : Expr} {Q Q' : V → AH → Prop} (h : WE C A env e ρ σ Q E) (hq : ∀ v σ', Q v σ' → Q' v σ') : WE C A env e ρ σ Q' E := .mk fun ad s hr er =>
  wpAny_mono (h.run ad s hr er) (fun _ _ ⟨a, b, c, d, e, f⟩ => ⟨a, b, c, d, e, hq _ _ f⟩) fun _ _ x => x
theorem WC.mono {f : Value} {args : List V} {Q Q' : V → AH → Prop} (h : WC C A f args σ Q E) (hq : ∀ v σ', Q v σ' → Q' v σ') : WC C A f args σ Q' E := .mk fun ad s xs hr er =>
  wpAny_mono (h.run ad s xs hr er) (fun _ _ ⟨a, b, c, d, e, f⟩ => ⟨a, b, c, d, e, hq _ _ f⟩) fun _ _ x => x
theorem WS.mono {e : Stmt} {Q Q' : Fl → Loc → AH → Prop} (h : WS C A env e ρ σ Q E) (hq : ∀ f ρ' σ', Q f ρ' σ' → Q' f ρ' σ') : WS C A env e ρ σ Q' E := .mk fun ad s hr er =>
  wpAny_mono (h.run ad s hr er) (fun _ _ ⟨a, b, c, d, e, f, g, i⟩ => ⟨a, b, c, d, e, f, g, hq _ _ _ i⟩) fun _ _ x => x
theorem WSs.mono {e : List Stmt} {Q Q' : Fl → Loc → AH → Prop} (h : WSs C A env e ρ σ Q E) (hq : ∀ f ρ' σ', Q f ρ' σ' → Q' f ρ' σ') : WSs C A env e ρ σ Q' E := .mk fun ad s hr er =>
  wpAny_mono (h.run ad s hr er) (fun _ _ ⟨a, b, c, d, e, f, g, i⟩ => ⟨a, b, c, d, e, f, g, hq _ _ _ i⟩) fun _ _ x => x

/- expressions -/
theorem WE_int {i : Int} {k : Nat} {pos : Pos} {Q : V → AH → Prop} (h : Q (.int i) σ) : WE C A env (.Constant (.int i) k pos) ρ σ Q E := .mk <|
  fun ad s hr _ => wpAny_Constant_int ⟨ad, σ, .int i, Nx.tok _ hr, ⟨_, rfl⟩, h⟩
theorem WE_str {i : Str} {k : Nat} {pos : Pos} {Q : V → AH → Prop} (h : Q (.str i) σ) : WE C A env (.Constant (.str i) k pos) ρ σ Q E := .mk <|
  fun ad s hr _ => wpAny_Constant_str ⟨ad, σ, .str i, Nx.tok _ hr, ⟨_, rfl⟩, h⟩
theorem WE_none {k : Nat} {pos : Pos} {Q : V → AH → Prop} (h : Q .none σ) : WE C A env (.Constant .none k pos) ρ σ Q E := .mk <|
  fun ad s hr _ => wpAny_Constant_none ⟨ad, σ, .none, Nx.refl hr, rfl, h⟩
theorem WE_bool {b : Bool} {k : Nat} {pos : Pos} {Q : V → AH → Prop} (h : Q (.bool b) σ) : WE C A env (.Constant (.bool b) k pos) ρ σ Q E := .mk <|
  fun ad s hr _ => wpAny_Constant_bool ⟨ad, σ, .bool b, Nx.refl hr, rfl, h⟩

theorem WE_BinOp {l r : Expr} {op : Operator} {pos : Pos} {Q : V → AH → Prop}
    (h : WE C A env l ρ σ (fun a σ1 => WE C A env r ρ σ1 (fun b σ2 => WOp2 C A (binaryOp op) a b σ2 Q E) E) E) : WE C A env (.BinOp l op r pos) ρ σ Q E := by
  refine ⟨?_⟩
  intro ad s hr er
  refine wpAny_BinOp (wpAny_mono (h.run ad s hr er) ?_ fun _ _ x => x)
  rintro a s1 ⟨ad1, σ1, va, n1, r1, h1⟩
  refine wpAny_mono (h1.run ad1 s1 n1.hr (er.next n1)) ?_ fun _ _ x => x
  rintro b s2 ⟨ad2, σ2, vb, n2, r2, h2⟩
  exact wpAny_mono (h2.run ad2 s2 a b n2.hr (n2.rv r1) r2) (fun u s' p => PE.trans (n1.trans n2) p) fun _ _ x => x
theorem WE_UnaryOp {x : Expr} {op : UnaryOp} {pos : Pos} {Q : V → AH → Prop}
    (h : WE C A env x ρ σ (fun a σ1 => WOp1 C A (unaryOp op) a σ1 Q E) E) : WE C A env (.UnaryOp op x pos) ρ σ Q E := by
  refine ⟨?_⟩
  intro ad s hr er
  refine wpAny_UnaryOp (wpAny_mono (h.run ad s hr er) ?_ fun _ _ x => x)
  rintro a s1 ⟨ad1, σ1, va, n1, r1, h1⟩
  exact wpAny_mono (h1.run ad1 s1 a n1.hr r1) (fun u s' p => PE.trans n1 p) fun _ _ x => x
theorem WE_Compare1 {l r : Expr} {op : CmpOp} {pos : Pos} {Q : V → AH → Prop}
    (h : WE C A env l ρ σ (fun a σ1 => WE C A env r ρ σ1 (fun b σ2 => WOp2 C A (compareOp op) a b σ2 Q E) E) E)
    (hm : isSetE r = false := by rfl) : WE C A env (.Compare l [op] [r] pos) ρ σ Q E := by
  refine ⟨?_⟩
  intro ad s hr er
  refine wpAny_Compare1 (wpAny_mono (h.run ad s hr er) ?_ fun _ _ x => x) (marks_not hm)
  rintro a s1 ⟨ad1, σ1, va, n1, r1, h1⟩
  refine wpAny_mono (h1.run ad1 s1 n1.hr (er.next n1)) ?_ fun _ _ x => x
  rintro b s2 ⟨ad2, σ2, vb, n2, r2, h2⟩
  exact wpAny_mono (h2.run ad2 s2 a b n2.hr (n2.rv r1) r2) (fun u s' p => PE.trans (n1.trans n2) p) fun _ _ x => x
theorem WB_Compare1 {l r : Expr} {op : CmpOp} {pos : Pos} {Q : Bool → AH → Prop}
    (h : WE C A env l ρ σ (fun a σ1 => WE C A env r ρ σ1 (fun b σ2 => WOp2 C A (compareOp op) a b σ2 (fun c σ3 => WTr C A c σ3 Q E) E) E) E)
    (hm : isSetE r = false := by rfl) : WB C A env (.Compare l [op] [r] pos) ρ σ Q E := by
  refine ⟨?_⟩
  intro ad s hr er
  refine wpAny_isTrue_Compare1 (wpAny_mono (h.run ad s hr er) ?_ fun _ _ x => x) (marks_not hm)
  rintro a s1 ⟨ad1, σ1, va, n1, r1, h1⟩
  refine wpAny_mono (h1.run ad1 s1 n1.hr (er.next n1)) ?_ fun _ _ x => x
  rintro b s2 ⟨ad2, σ2, vb, n2, r2, h2⟩
  refine wpAny_mono (h2.run ad2 s2 a b n2.hr (n2.rv r1) r2) ?_ fun _ _ x => x
  rintro c s3 ⟨ad3, σ3, vc, n3, r3, h3⟩
  exact wpAny_mono (h3.run ad3 s3 c n3.hr r3) (fun u s' p => PB.trans ((n1.trans n2).trans n3) p) fun _ _ x => x
theorem WTr_bool {b : Bool} {Q : Bool → AH → Prop} (h : Q b σ) : WTr C A (.bool b) σ Q E := by
  refine ⟨?_⟩
  rintro ad s x hr rfl
  exact wpAny_truthy_bool ⟨ad, σ, Nx.refl hr, h⟩
theorem WB_plain {e : Expr} {Q : Bool → AH → Prop} (h : WE C A env e ρ σ (fun v σ1 => WTr C A v σ1 Q E) E)
    (hp : plainTest e = true := by rfl) : WB C A env e ρ σ Q E := by
  refine ⟨?_⟩
  intro ad s hr er
  rw [test_plain hp]
  refine wpAny_bind (wpAny_mono (h.run ad s hr er) ?_ fun _ _ x => x)
  rintro a s1 ⟨ad1, σ1, va, n1, r1, h1⟩
  exact wpAny_bind (wpAny_standAt (wpAny_holding (wpAny_mono (h1.run ad1 s1 a n1.hr r1) (fun u s' p => PB.trans n1 p) fun _ _ x => x)))
theorem WB_Not {x : Expr} {pos : Pos} {Q : Bool → AH → Prop} (h : WB C A env x ρ σ (fun b σ1 => Q (!b) σ1) E) : WB C A env (.UnaryOp .Not x pos) ρ σ Q E := by
  refine ⟨?_⟩
  intro ad s hr er
  refine isTrue_not (wpAny_mono (h.run ad s hr er) ?_ fun _ _ x => x)
  rintro b s1 ⟨ad1, σ1, n1, h1⟩
  exact ⟨ad1, σ1, n1, h1⟩
theorem WB_and_nil {pos : Pos} {Q : Bool → AH → Prop} (h : Q true σ) : WB C A env (.BoolOp .And [] pos) ρ σ Q E := .mk fun ad _ hr _ => isTrue_and_nil ⟨ad, σ, Nx.refl hr, h⟩
theorem WB_or_nil {pos : Pos} {Q : Bool → AH → Prop} (h : Q false σ) : WB C A env (.BoolOp .Or [] pos) ρ σ Q E := .mk fun ad _ hr _ => isTrue_or_nil ⟨ad, σ, Nx.refl hr, h⟩
theorem isTrue_BoolOp_whole {op : BoolOp} {vs : List Expr} {pos : Pos} (x y : Sem Value) : isTrue (.BoolOp op vs pos) env x = isTrue (.BoolOp op vs pos) env y := rfl
theorem WB_and {x : Expr} {rest : List Expr} {pos : Pos} {Q : Bool → AH → Prop} (h : WB C A env x ρ σ (fun b σ1 => if b then WB C A env (.BoolOp .And rest pos) ρ σ1 Q E else Q false σ1) E) :
    WB C A env (.BoolOp .And (x :: rest) pos) ρ σ Q E := by
  refine ⟨?_⟩
  intro ad s hr er
  refine isTrue_and (wpAny_mono (h.run ad s hr er) ?_ fun _ _ x => x)
  rintro b s1 ⟨ad1, σ1, n1, h1⟩
  cases b with
  | false => exact ⟨ad1, σ1, n1, h1⟩
  | true => rw [isTrue_BoolOp_whole _ (eval (.BoolOp .And rest pos) env)]; exact wpAny_mono (h1.run ad1 s1 n1.hr (er.next n1)) (fun u s' p => PB.trans n1 p) fun _ _ x => x
theorem WB_or {x : Expr} {rest : List Expr} {pos : Pos} {Q : Bool → AH → Prop} (h : WB C A env x ρ σ (fun b σ1 => if b then Q true σ1 else WB C A env (.BoolOp .Or rest pos) ρ σ1 Q E) E) :
    WB C A env (.BoolOp .Or (x :: rest) pos) ρ σ Q E := by
  refine ⟨?_⟩
  intro ad s hr er
  refine isTrue_or (wpAny_mono (h.run ad s hr er) ?_ fun _ _ x => x)
  rintro b s1 ⟨ad1, σ1, n1, h1⟩
  cases b with
  | true => exact ⟨ad1, σ1, n1, h1⟩
  | false => rw [isTrue_BoolOp_whole _ (eval (.BoolOp .Or rest pos) env)]; exact wpAny_mono (h1.run ad1 s1 n1.hr (er.next n1)) (fun u s' p => PB.trans n1 p) fun _ _ x => x
theorem WE_IfExp {test body orelse : Expr} {pos : Pos} {Q : V → AH → Prop} (h : WB C A env test ρ σ (fun b σ1 => if b then WE C A env body ρ σ1 Q E else WE C A env orelse ρ σ1 Q E) E) :
    WE C A env (.IfExp test body orelse pos) ρ σ Q E := by
  refine ⟨?_⟩
  intro ad s hr er
  refine wpAny_IfExp (wpAny_mono (h.run ad s hr er) ?_ fun _ _ x => x)
  rintro b s1 ⟨ad1, σ1, n1, h1⟩
  cases b with
  | true => exact wpAny_mono (h1.run ad1 s1 n1.hr (er.next n1)) (fun u s' p => PE.trans n1 p) fun _ _ x => x
  | false => exact wpAny_mono (h1.run ad1 s1 n1.hr (er.next n1)) (fun u s' p => PE.trans n1 p) fun _ _ x => x
/- lists of expressions -/
theorem WL_nil {Q : List V → AH → Prop} (h : Q [] σ) : WL C A env [] ρ σ Q E := .mk fun ad _ _ hr _ => Calls.spliced_nil ⟨ad, σ, [], Nx.refl hr, .nil, h⟩
theorem WL_cons {e : Expr} {es : List Expr} {Q : List V → AH → Prop} (h : WE C A env e ρ σ (fun v σ1 => WL C A env es ρ σ1 (fun vs σ2 => Q (v :: vs) σ2) E) E)
    (he : starE e = false := by rfl) : WL C A env (e :: es) ρ σ Q E := by
  refine ⟨?_⟩
  intro ad s pos hr er
  rw [star_not he]
  refine Calls.spliced_cons (wpAny_mono (h.run ad s hr er) ?_ fun _ _ x => x)
  rintro a s1 ⟨ad1, σ1, va, n1, r1, h1⟩
  refine wpAny_mono (h1.run ad1 s1 pos n1.hr (er.next n1)) ?_ fun _ _ x => x
  rintro b s2 ⟨ad2, σ2, vb, n2, r2, h2⟩
  exact ⟨ad2, σ2, va :: vb, n1.trans n2, .cons (n2.rv r1) r2, h2⟩

/- names -/
theorem WE_name {x : Str} {pos : Pos} {v : V} {Q : V → AH → Prop} (hx : (x, some v) ∈ ρ) (h : Q v σ) :
    WE C A env (.Name x pos) ρ σ Q E := by
  refine ⟨?_⟩
  intro ad s hr er
  have hn := nmOk_c (er.nm x _ hx)
  refine wpAny_Name ?_ (nmOk_d (er.nm x _ hx))
  rcases er.kd x _ hx with hk | ⟨hk, hc⟩
  · obtain ⟨m, hm, h1⟩ := er.m
    obtain ⟨u, hu, rv⟩ := h1 x v hx hk
    exact wpAny_loadName_local er.kind hk hm hu ⟨ad, σ, v, Nx.refl hr, rv, h⟩
  · obtain ⟨c, hc⟩ := Option.isSome_iff_exists.mp hc
    obtain ⟨o, w, ho, hw, hv⟩ := er.cell x c hc
    obtain ⟨u, e, rv⟩ := hv v hx (by rcases hk with hk | hk <;> rw [hk] <;> simp)
    subst e
    rcases hk with hk | hk
    · exact wpAny_loadName_cell er.kind hk hc ⟨o, ho, hw⟩ ⟨ad, σ, v, Nx.refl hr, rv, h⟩
    · exact wpAny_loadName_free er.kind hk hc ⟨o, ho, hw⟩ ⟨ad, σ, v, Nx.refl hr, rv, h⟩ hn
theorem WE_glob {C : Cx} {l : List (Str × Value)} {x : Str} {pos : Pos} {v : Value} {Q : V → AH → Prop} (hx : (x, v) ∈ l) (h : Q (.k v) σ) :
    WE (C.wg l) A env (.Name x pos) ρ σ Q E := by
  refine ⟨?_⟩
  intro ad s hr er
  obtain ⟨hk, hn⟩ := er.gk x v hx
  refine Calls.Name_function_global er.kind hk ?_ (nmOk_d hn)
  have fin : PE (C.wg l) ad s Q v s := ⟨ad, σ, .k v, Nx.refl hr, rfl, h⟩
  rcases hr.ok.glo x v hx with e | ⟨e1, e2⟩
  · exact Calls.loadGlobal_global (by rw [er.glob]; exact hr.ok.g.keeps hr.keep) e fin
  · exact Calls.loadGlobal_builtin (by rw [er.glob]; exact hr.ok.g.keeps hr.keep) e1 (by rw [er.blt]; exact hr.ok.b.keeps hr.keep) e2 fin

/- statements -/
theorem PS.ofE {ad : List Addr} {s s1 : Shared} {ad1 : List Addr} {σ1 : AH} {Q : Fl → Loc → AH → Prop} {fl : Fl} {f : Flow} (er : ER C env ρ ad s.heap) (n : Nx C [] ad s ad1 σ1 s1) (hf : RF ad1 fl f) (h : Q fl ρ σ1) : PS C env ad s Q f s1 :=
  ⟨ad1, σ1, ρ, fl, n.weak, er.next n, hf, h⟩
theorem WSs_nil {Q : Fl → Loc → AH → Prop} (h : Q .next ρ σ) : WSs C A env [] ρ σ Q E := .mk fun ad s hr er => wpAny_execs_nil ⟨ad, σ, ρ, .next, Nx.refl hr, er, rfl, h⟩
structure Thn (C : Cx) (A : Around) (env : Env) (rest : List Stmt) (Q : Fl → Loc → AH → Prop) (E : EX) (fl : Fl) (ρ : Loc) (σ : AH) : Prop where
  run : match fl with
    | .next => WSs C A env rest ρ σ Q E
    | f => Q f ρ σ
theorem Thn_next {rest : List Stmt} {Q : Fl → Loc → AH → Prop} (h : WSs C A env rest ρ σ Q E) : Thn C A env rest Q E .next ρ σ := ⟨h⟩
theorem Thn_ret {rest : List Stmt} {Q : Fl → Loc → AH → Prop} {v : V} (h : Q (.ret v) ρ σ) : Thn C A env rest Q E (.ret v) ρ σ := ⟨h⟩
theorem Thn_brk {rest : List Stmt} {Q : Fl → Loc → AH → Prop} (h : Q .brk ρ σ) : Thn C A env rest Q E .brk ρ σ := ⟨h⟩
theorem Thn_cont {rest : List Stmt} {Q : Fl → Loc → AH → Prop} (h : Q .cont ρ σ) : Thn C A env rest Q E .cont ρ σ := ⟨h⟩
theorem WSs_cons {st : Stmt} {rest : List Stmt} {Q : Fl → Loc → AH → Prop} (h : WS C A env st ρ σ (Thn C A env rest Q E) E) : WSs C A env (st :: rest) ρ σ Q E := by
  refine ⟨?_⟩
  intro ad s hr er
  refine wpAny_execs_cons (wpAny_mono (h.run ad s hr er) ?_ fun _ _ x => x)
  rintro f s1 ⟨ad1, σ1, ρ1, fl, n1, e1, r1, ⟨h1⟩⟩
  cases fl with
  | next => cases r1; exact wpAny_mono (h1.run ad1 s1 n1.hr e1) (fun u s' p => PS.trans n1 p) fun _ _ x => x
  | brk => cases r1; exact ⟨ad1, σ1, ρ1, .brk, n1, e1, rfl, h1⟩
  | cont => cases r1; exact ⟨ad1, σ1, ρ1, .cont, n1, e1, rfl, h1⟩
  | ret v => obtain ⟨u, rfl, ru⟩ := r1; exact ⟨ad1, σ1, ρ1, .ret v, n1, e1, ⟨u, rfl, ru⟩, h1⟩
theorem WS_pass {pos : Pos} {Q : Fl → Loc → AH → Prop} (h : Q .next ρ σ) : WS C A env (.Pass pos) ρ σ Q E := .mk fun ad s hr er => wpAny_Pass ⟨ad, σ, ρ, .next, Nx.refl hr, er, rfl, h⟩
theorem WS_return {e : Expr} {pos : Pos} {Q : Fl → Loc → AH → Prop} (h : WE C A env e ρ σ (fun v σ1 => Q (.ret v) ρ σ1) E) : WS C A env (.Return (some e) pos) ρ σ Q E := by
  refine ⟨?_⟩
  intro ad s hr er
  refine wpAny_Return_some (wpAny_mono (h.run ad s hr er) ?_ fun _ _ x => x)
  rintro a s1 ⟨ad1, σ1, va, n1, r1, h1⟩
  exact PS.ofE er n1 (fl := .ret va) ⟨a, rfl, r1⟩ h1
theorem WS_if {test : Expr} {body orelse : List Stmt} {pos : Pos} {Q : Fl → Loc → AH → Prop} (h : WB C A env test ρ σ (fun b σ1 => if b then WSs C A env body ρ σ1 Q E else WSs C A env orelse ρ σ1 Q E) E) : WS C A env (.If test body orelse pos) ρ σ Q E := by
  refine ⟨?_⟩
  intro ad s hr er
  refine wpAny_If (wpAny_mono (h.run ad s hr er) ?_ fun _ _ x => x)
  rintro b s1 ⟨ad1, σ1, n1, h1⟩
  cases b with
  | true => exact wpAny_mono (h1.run ad1 s1 n1.hr (er.next n1)) (fun u s' p => PS.trans n1.weak p) fun _ _ x => x
  | false => exact wpAny_mono (h1.run ad1 s1 n1.hr (er.next n1)) (fun u s' p => PS.trans n1.weak p) fun _ _ x => x

inductive Up (x : Str) (v : Option V) : Loc → Loc → Prop
  | head {w : Option V} {r : Loc} : Up x v ((x, w) :: r) ((x, v) :: r)
  | tail {p : Str × Option V} {r r' : Loc} : Up x v r r' → Up x v (p :: r) (p :: r')
theorem Up.names {x : Str} {v : Option V} {r r' : Loc} (h : Up x v r r') : r'.map (·.1) = r.map (·.1) := by
  induction h with
  | head => rfl
  | tail _ ih => simp [ih]
theorem Up.mem {x : Str} {v : Option V} {r r' : Loc} (h : Up x v r r') : ∃ w, (x, w) ∈ r := by
  induction h with
  | head => exact ⟨_, .head _⟩
  | tail _ ih => obtain ⟨w, h⟩ := ih; exact ⟨w, .tail _ h⟩
theorem Up.new {x : Str} {v : Option V} {r r' : Loc} (h : Up x v r r') (nd : (r.map (·.1)).Nodup) : ∀ y w, (y, w) ∈ r' → (y = x ∧ w = v) ∨ (y ≠ x ∧ (y, w) ∈ r) := by
  induction h with
  | @head w0 r =>
    intro y w hm
    rcases List.mem_cons.mp hm with e | hm2
    · cases e; exact .inl ⟨rfl, rfl⟩
    · refine .inr ⟨?_, List.mem_cons_of_mem _ hm2⟩
      intro e
      subst e
      simp only [List.map_cons, List.nodup_cons] at nd
      exact nd.1 (List.mem_map.mpr ⟨(y, w), hm2, rfl⟩)
  | @tail p r r' u ih =>
    intro y w hm
    simp only [List.map_cons, List.nodup_cons] at nd
    rcases List.mem_cons.mp hm with e | hm
    · cases e
      refine .inr ⟨?_, .head _⟩
      rintro rfl
      obtain ⟨w', h'⟩ := u.mem
      exact nd.1 (List.mem_map.mpr ⟨_, h', rfl⟩)
    · rcases ih nd.2 y w hm with h1 | h1
      · exact .inl h1
      · exact .inr ⟨h1.1, .tail _ h1.2⟩

theorem exUp {x : Str} {v : Option V} {ρ ρ' : Loc} {P : Loc → Prop} (h : Up x v ρ ρ') (k : P ρ') : ∃ ρ', Up x v ρ ρ' ∧ P ρ' := ⟨_, h, k⟩
/-- a store of a name -/
theorem store_name {x : Str} {v : V} {ρ' : Loc} {u : Value} {ad : List Addr} {s : Shared} {R : Unit → Shared → Prop} (hr : HR C ad σ s.heap) (er : ER C env ρ ad s.heap) (up : Up x (some v) ρ ρ') (rv : RV ad v u)
    (h : ∀ s', Nx C (fa env) ad s ad σ s' → ER C env ρ' ad s'.heap → R () s') : wpAny (model C.prog C.w) A (storeName env x u) R E s := by
  obtain ⟨w0, hw0⟩ := up.mem
  have hoff : ∀ b ∈ fa env, b ∉ ad ∧ C.G.get? b = none := fun b hb => ⟨(er.off b hb).2, (er.off b hb).1⟩
  have fin : ∀ a h' tk, a ∈ fa env → Heap.SameBut a s.heap h' → HR C ad σ h' ∧ (Nx C (fa env) ad s ad σ { s with heap := h', toks := tk }) := by
    intro a h' tk ha hs
    have hr' : HR C ad σ h' := by
      refine ⟨hr.ok, fun b o e => (hs.2 b ?_).trans (hr.keep b o e), hr.len, hr.nd, hr.off, hr.low, fun i o b h1 h2 => ?_⟩
      · rintro rfl; rw [(hoff b ha).2] at e; cases e
      · obtain ⟨ob, h3, h4⟩ := hr.obj i o b h1 h2
        refine ⟨ob, (hs.2 b ?_).trans h3, h4⟩
        rintro rfl; exact (hoff b ha).1 (List.mem_of_getElem? h2)
    refine ⟨hr', ⟨h', tk, rfl⟩, ⟨[], by simp, by simp⟩, Nat.le_of_eq hs.1.symm, fun b o e _ hc => ?_, hr'⟩
    exact (hs.2 b (fun e' => hc (e' ▸ ha))).trans e
  rcases er.kd x _ hw0 with hk | ⟨hk, hc⟩
  · obtain ⟨m, hm, h1⟩ := er.m
    refine wpAny_storeName_local hk hm (fun h' hn hs => ?_) (by rw [er.kind]; rfl)
    obtain ⟨hr', nx⟩ := fin env.locals h' (s.toks + 1) (by simp [fa]) hs
    refine h _ nx ⟨er.kind, er.glob, er.blt, by rw [up.names]; exact er.nd, fun y w hy => ?_, ⟨_, hn, fun y w hy hyk => ?_⟩, fun y c hc => ?_, er.cinj, er.cl, er.off, fun b hb => by rw [hs.1]; exact er.lt b hb, fun y w hy => ?_, er.gk⟩
    · rcases up.new er.nd y w hy with ⟨rfl, rfl⟩ | ⟨_, hy⟩
      · exact er.kd y _ hw0
      · exact er.kd y w hy
    · rcases up.new er.nd y _ hy with ⟨rfl, e⟩ | ⟨hne, hy⟩
      · cases e; exact ⟨u, by simp, rv⟩
      · simp only [if_neg hne]; exact h1 y w hy hyk
    · obtain ⟨o, w, ho, hw, hv⟩ := er.cell y c hc
      refine ⟨o, w, (hs.2 c (er.cl y c hc)).trans ho, hw, fun v' hv' hk' => ?_⟩
      rcases up.new er.nd y _ hv' with ⟨rfl, e⟩ | ⟨hne, hy⟩
      · exact absurd hk hk'
      · exact hv v' hy hk'
    · rcases up.new er.nd y w hy with ⟨rfl, rfl⟩ | ⟨_, hy⟩
      · exact er.nm y _ hw0
      · exact er.nm y w hy
  · obtain ⟨c, hc⟩ := Option.isSome_iff_exists.mp hc
    obtain ⟨o, w, ho, hw, hv⟩ := er.cell x c hc
    have step : ∀ h', (∃ o', h'.get? c = some o' ∧ o'.data = .cell (some u)) → Heap.SameBut c s.heap h' → R () { s with heap := h' } := by
      rintro h' ⟨o', ho', hd'⟩ hs
      obtain ⟨hr', nx⟩ := fin c h' s.toks (mem_cells hc) hs
      refine h _ nx ⟨er.kind, er.glob, er.blt, by rw [up.names]; exact er.nd, fun y w hy => ?_, ?_, fun y d hd => ?_, er.cinj, er.cl, er.off, fun b hb => by rw [hs.1]; exact er.lt b hb, fun y w hy => ?_, er.gk⟩
      · rcases up.new er.nd y w hy with ⟨rfl, rfl⟩ | ⟨_, hy⟩
        · exact er.kd y _ hw0
        · exact er.kd y w hy
      · obtain ⟨m, hm, h1⟩ := er.m
        refine ⟨m, hm.sameBut hs (Ne.symm (er.cl x c hc)), fun y w hy hyk => ?_⟩
        rcases up.new er.nd y _ hy with ⟨rfl, e⟩ | ⟨hne, hy⟩
        · rcases hk with hk | hk <;> rw [hyk] at hk <;> cases hk
        · exact h1 y w hy hyk
      · by_cases hyx : y = x
        · subst hyx
          rw [hc] at hd; cases hd
          refine ⟨o', _, ho', hd', fun v' hv' _ => ?_⟩
          rcases up.new er.nd y _ hv' with ⟨_, e⟩ | ⟨hne, _⟩
          · cases e; exact ⟨u, rfl, rv⟩
          · exact absurd rfl hne
        · have hdc : d ≠ c := by rintro rfl; exact hyx (er.cinj y x d hd hc)
          obtain ⟨oy, wy, hoy, hwy, hvy⟩ := er.cell y d hd
          refine ⟨oy, wy, (hs.2 d hdc).trans hoy, hwy, fun v' hv' hk' => ?_⟩
          rcases up.new er.nd y _ hv' with ⟨rfl, _⟩ | ⟨_, hy⟩
          · exact absurd rfl hyx
          · exact hvy v' hy hk'
      · rcases up.new er.nd y w hy with ⟨rfl, rfl⟩ | ⟨_, hy⟩
        · exact er.nm y _ hw0
        · exact er.nm y w hy
    rcases hk with hk | hk
    · exact wpAny_storeName_cell er.kind hk hc ⟨o, ho, hw⟩ fun h' hv' hs => step h' hv' hs
    · unfold storeName
      simp only [hk, er.kind]
      exact wpAny_bind (wpAny_cellOf hc (wpAny_cellSet ⟨o, ho, hw⟩ fun h' hv' hs => step h' hv' hs))
theorem WS_assign {x : Str} {p pos : Pos} {e : Expr} {Q : Fl → Loc → AH → Prop} (h : WE C A env e ρ σ (fun v σ1 => ∃ ρ', Up x (some v) ρ ρ' ∧ Q .next ρ' σ1) E)
    (hs : isCompE e = false := by rfl) : WS C A env (.Assign [.Name x p] e pos) ρ σ Q E := by
  refine ⟨?_⟩
  intro ad s hr er
  refine wpAny_Assign_Name (wpAny_mono (h.run ad s hr er) ?_ fun _ _ x => x) (swaps_not hs)
  rintro a s1 ⟨ad1, σ1, va, n1, r1, ρ', up, h1⟩
  exact store_name n1.hr (er.next n1) up r1 fun s' n2 e2 => ⟨ad1, σ1, ρ', .next, n1.weak.trans n2, e2, rfl, h1⟩
end
end Mine

-- part Aw3
set_option autoImplicit false
set_option linter.unusedVariables false
namespace Mine
open PySem PyProof.Rows

abbrev mkFd (name qual : Str) (params : Arguments) (body : List Stmt) (scope : Scope) (dV kV doc pm : Value) (an : Option Addr) (cdv ct : Value) : FuncData :=
  { name, qualname := qual, params, body := .stmts body, scope, globals := mainGlobals, closure := [], defaults := dV, kwdefaults := kV, doc, pyModule := pm, annotations := an, code := cdv, closureTuple := ct, builtins := builtinsNs }

/-- the frame of a def's call -/
def dEnv (qual : Str) (scope : Scope) (L a : Addr) (cd : Value) : Env :=
  { scope := scope, locals := L, globals := mainGlobals, cells := cellsFrom (L + 1) scope.names [], qual := qual ++ ".<locals>.", func := some a, code := cd, frame := some L, builtins := builtinsNs }

section
variable {kindOf : Str → Option NameKind}
theorem bindL_not {x : Str} : ∀ (binds : List (Str × Value)) (m : Str → Option Value), x ∉ binds.map (·.1) → bindL kindOf binds m x = m x
  | [], _, _ => rfl
  | (n, v) :: r, m, h => by
    simp only [List.map_cons, List.mem_cons, not_or] at h
    unfold bindL
    rw [bindL_not r _ h.2]
    split
    · simp [h.1]
    · rfl
theorem bindL_mem {x : Str} {u : Value} (hk : kindOf x = some .local) : ∀ (binds : List (Str × Value)) (m : Str → Option Value), (binds.map (·.1)).Nodup → (x, u) ∈ binds → bindL kindOf binds m x = some u
  | [], _, _, h => by cases h
  | (n, v) :: r, m, nd, h => by
    simp only [List.map_cons, List.nodup_cons] at nd
    unfold bindL
    rcases List.mem_cons.mp h with e | h
    · cases e
      rw [bindL_not r _ nd.1]
      simp [hk]
    · exact bindL_mem hk r _ nd.2 h
theorem bindC_not {x : Str} : ∀ (binds : List (Str × Value)) (m : Str → Option Value), x ∉ binds.map (·.1) → bindC kindOf binds m x = m x
  | [], _, _ => rfl
  | (n, v) :: r, m, h => by
    simp only [List.map_cons, List.mem_cons, not_or] at h
    unfold bindC
    rw [bindC_not r _ h.2]
    split
    · rfl
    · simp [h.1]
theorem bindC_mem {x : Str} {u : Value} (hk : kindOf x ≠ some .local) : ∀ (binds : List (Str × Value)) (m : Str → Option Value), (binds.map (·.1)).Nodup → (x, u) ∈ binds → bindC kindOf binds m x = some u
  | [], _, _, h => by cases h
  | (n, v) :: r, m, nd, h => by
    simp only [List.map_cons, List.nodup_cons] at nd
    unfold bindC
    rcases List.mem_cons.mp h with e | h
    · cases e
      rw [bindC_not r _ nd.1]
      simp [hk]
    · exact bindC_mem hk r _ nd.2 h
end

theorem lookup_mem {α β : Type} [BEq α] [LawfulBEq α] {x : α} {c : β} : ∀ {l : List (α × β)}, l.lookup x = some c → (x, c) ∈ l
  | [], h => by simp at h
  | (y, d) :: r, h => by
    simp only [List.lookup_cons] at h
    split at h
    · rename_i e; have := eq_of_beq e; subst this; cases h; exact .head _
    · exact .tail _ (lookup_mem h)
theorem mem_lookup {α β : Type} [BEq α] [LawfulBEq α] {x : α} {c : β} : ∀ {l : List (α × β)}, (l.map (·.1)).Nodup → (x, c) ∈ l → l.lookup x = some c
  | [], _, h => by cases h
  | (y, d) :: r, nd, h => by
    simp only [List.map_cons, List.nodup_cons] at nd
    rcases List.mem_cons.mp h with e | h'
    · cases e; simp
    · have hne : (x == y) = false := by
        cases hb : x == y with
        | false => rfl
        | true => have e := eq_of_beq hb; rw [← e] at nd; exact absurd (List.mem_map.mpr ⟨_, h', rfl⟩) nd.1
      simp only [List.lookup_cons, hne]
      exact mem_lookup nd.2 h'
theorem lookup_isSome {α β : Type} [BEq α] [LawfulBEq α] {x : α} : ∀ {l : List (α × β)}, (l.lookup x).isSome = true ↔ x ∈ l.map (·.1)
  | [] => by simp
  | (y, d) :: r => by
    simp only [List.lookup_cons, List.map_cons, List.mem_cons]
    cases hb : x == y with
    | true => have := eq_of_beq hb; simp [this]
    | false =>
      have hne : x ≠ y := by intro e; subst e; simp at hb
      simp only [hne, false_or]
      exact lookup_isSome
theorem apart_inj {l : List (Str × Addr)} (h : l.Pairwise fun x y => x.2 ≠ y.2) : ∀ {x y : Str} {c : Addr}, (x, c) ∈ l → (y, c) ∈ l → x = y := by
  induction h with
  | nil => intro x y c h; cases h
  | cons h1 _ ih =>
    intro x y c h2 h3
    rcases List.mem_cons.mp h2 with e | h4 <;> rcases List.mem_cons.mp h3 with e' | h5
    · rw [← e] at e'; cases e'; rfl
    · subst e; exact absurd rfl (h1 (y, c) h5)
    · subst e'; exact absurd rfl (h1 (x, c) h4)
    · exact ih h4 h5

theorem HR.lt {C : Cx} {ad : List Addr} {σ : AH} {h : Heap} (hr : HR C ad σ h) {a : Addr} (ha : a ∈ ad) : a < h.objs.size := by
  obtain ⟨i, hi⟩ := List.getElem?_of_mem ha
  have hi' := (List.getElem?_eq_some_iff.mp hi).1
  have : i < σ.length := by rw [← hr.len]; exact hi'
  obtain ⟨ob, h1, _⟩ := hr.obj i σ[i] a (by simp [this]) hi
  exact Heap.lt_size h1
theorem HR.fresh {C : Cx} {ad : List Addr} {σ : AH} {h : Heap} (hr : HR C ad σ h) {a : Addr} (ha : h.objs.size ≤ a) : C.G.get? a = none ∧ a ∉ ad := by
  constructor
  · cases e : C.G.get? a with
    | none => rfl
    | some o => exact absurd (Heap.lt_size (hr.keep a o e)) (Nat.not_lt.mpr ha)
  · intro hm; exact absurd (hr.lt hm) (Nat.not_lt.mpr ha)
theorem HR.freshLow {C : Cx} {ad : List Addr} {σ : AH} {h : Heap} (hr : HR C ad σ h) {a : Addr} (ha : h.objs.size ≤ a) : a ≠ sysModules := by
  have hl : sysModules < h.objs.size := let ⟨_, hn, _⟩ := hr.ok.lim.keeps hr.keep; Nat.lt_trans (by decide) hn.lt
  rintro rfl
  exact absurd hl (Nat.not_lt.mpr ha)
theorem HR.keeps {C : Cx} {ad : List Addr} {σ : AH} {h h' : Heap} (hr : HR C ad σ h) (k : ∀ b o, h.get? b = some o → h'.get? b = some o) : HR C ad σ h' :=
  ⟨hr.ok, fun b o e => k b o (hr.keep b o e), hr.len, hr.nd, hr.off, hr.low, fun i o a h1 h2 => let ⟨ob, h3, h4⟩ := hr.obj i o a h1 h2; ⟨ob, k _ _ h3, h4⟩⟩

def retV : Fl → V
  | .ret v => v
  | _ => .none

/-- the raise of a def's body, led through its frame's end -/
def EL (C : Cx) (A : Around) (env : Env) (E : EX) : EX := fun e s' => wpAny (model C.prog C.w) (A.deeper env) (leaving env e) (fun _ s'' => E e s'') E s'

theorem zip_mem {pn : List Str} {vs : List V} {xs : List Value} {ad : List Addr} (rv : RVs ad vs xs) : ∀ {x : Str} {v : V}, (x, some v) ∈ pn.zip (vs.map some) → ∃ u, (x, u) ∈ pn.zip xs ∧ RV ad v u := by
  induction rv generalizing pn with
  | nil => intro x v h; simp at h
  | cons r _ ih =>
    intro x v h
    cases pn with
    | nil => simp at h
    | cons p pn =>
      simp only [List.map_cons, List.zip_cons_cons, List.mem_cons] at h
      rcases h with e | h
      · cases e; exact ⟨_, .head _, r⟩
      · obtain ⟨u, h1, h2⟩ := ih h; exact ⟨u, .tail _ h1, h2⟩
theorem zip_names {pn : List Str} {β : Type} {xs : List β} (h : pn.length = xs.length) : (pn.zip xs).map (·.1) = pn := by
  induction pn generalizing xs with
  | nil => simp
  | cons p pn ih => cases xs with
    | nil => simp at h
    | cons x xs => simp only [List.length_cons, Nat.add_right_cancel_iff] at h; simp [ih h]

section
variable {C : Cx} {A : Around} {σ : AH} {E : EX}
theorem HR.wg {l : List (Str × Value)} {ad : List Addr} {h : Heap} (hr : HR C ad σ h) (hl : ∀ x v, (x, v) ∈ l → C.mg x = some v ∨ (C.mg x = none ∧ C.mb x = some v)) : HR (C.wg l) ad σ h :=
  ⟨⟨hr.ok.gob, hr.ok.g, hr.ok.b, hl, hr.ok.lim⟩, hr.keep, hr.len, hr.nd, hr.off, hr.low, hr.obj⟩
theorem HR.gw {l : List (Str × Value)} {ad : List Addr} {h : Heap} (hr : HR (C.wg l) ad σ h) (ok : C.Ok) : HR C ad σ h := ⟨ok, hr.keep, hr.len, hr.nd, hr.off, hr.low, hr.obj⟩
/-- what is known of an env's names -/
def Kn (env : Env) (ns : List (Str × NameKind)) : Prop := ∀ x k, ns.lookup x = some k → env.kindOf x = some k
structure WCc (C : Cx) (A : Around) (f : Value) (vs : List V) (σ : AH) (Q : V → AH → Prop) (E : EX) : Prop where
  run : ∀ ad s xs, HR C ad σ s.heap → RVs ad vs xs → codeAny (model C.prog C.w) A (.call f ⟨xs, []⟩) (fun r s' => match r with | .ok (.ret v) => PE C ad s Q v s' | .ok _ => False | .error e => E e s') s
theorem WCc.toWC {f : Value} {vs : List V} {Q : V → AH → Prop} (h : WCc C A f vs σ Q E) : WC C A f vs σ Q E := ⟨fun ad s xs hr rv => wpAny_call (h.run ad s xs hr rv)⟩
/-- a def entered -/
theorem def_entry {f : Addr} {o : Obj} {name qual : Str} {params : Arguments} {body : List Stmt} {scope : Scope} {dV kV doc pm cdv ct : Value} {an : Option Addr} {pn ln : List Str} {gl : List (Str × Value)} {vs dv : List V} {ds : List Value}
    (ho : C.G.get? f = some o) (hd : o.data = .func (mkFd name qual params body scope dV kV doc pm an cdv ct)) (hcd : C.G.CodeRec cdv qual) (hroom : A.depth < recursionLimit)
    (hds : RVs [] dv ds) (hlen : pn.length = vs.length + dv.length) (hgl : ∀ x v, (x, v) ∈ gl → C.mg x = some v ∨ (C.mg x = none ∧ C.mb x = some v))
    (hbind : ∀ (s : Shared) (xs : List Value), (∀ b o, C.G.get? b = some o → s.heap.get? b = some o) → xs.length = vs.length → BindsTo s (mkFd name qual params body scope dV kV doc pm an cdv ct) ⟨xs, []⟩ (pn.zip (xs ++ ds)))
    (hnd : (pn ++ ln).Nodup) (hcn : ((cellsFrom 0 scope.names []).map (·.1)).Nodup)
    (hkd : ((pn ++ ln).all fun x => nmOk x && (scope.names.lookup x == some .local || (scope.names.lookup x == some .cell && ((cellsFrom 0 scope.names []).lookup x).isSome))) = true)
    (hgk : (gl.all fun p => nmOk p.1 && scope.names.lookup p.1 == some .globalImplicit) = true)
    {ad : List Addr} {s : Shared} {xs : List Value} {R : Result → Shared → Prop} (hr : HR C ad σ s.heap) (rv : RVs ad vs xs)
    (h : ∀ env s1, Kn env scope.names → env.frame = some env.locals → (∀ b o, s.heap.get? b = some o → s1.heap.get? b = some o) → s.heap.objs.size ≤ s1.heap.objs.size → (∃ h1 tk, s1 = { s with heap := h1, toks := tk }) → (∀ a ∈ fa env, s.heap.objs.size ≤ a) →
      HR (C.wg gl) ad σ s1.heap → ER (C.wg gl) env (pn.zip ((vs ++ dv).map some) ++ ln.map fun x => (x, none)) ad s1.heap →
      wpAny (model C.prog C.w) (A.deeper env) (execs body env) (fun f s' => R (.ok (.ret (match f with | .ret v => v | _ => .none))) s') (fun e s' => wpAny (model C.prog C.w) (A.deeper env) (leaving env e) (fun _ s'' => R (.error e) s'') (fun e' s'' => R (.error e') s'') s') s1)
    (hco : scope.isCoroutine = false := by rfl) (hgen : scope.isGenerator = false := by rfl) (hk : scope.kind = .function := by rfl) : codeAny (model C.prog C.w) A (.call (.ref f) ⟨xs, []⟩) R s := by
  have hxl : xs.length = vs.length := rv.length.symm
  refine (codeAny_call_function (body := body) hroom (hr.keep f o ho) hd hco hgen rfl (hcd.keeps hr.keep) (hbind s xs hr.keep hxl _ _ _ _ ?_))
  have hbn : ((pn.zip (xs ++ ds)).map (·.1)) = pn := zip_names (by rw [List.length_append, hxl, hlen, hds.length])
  have rvall : RVs ad (vs ++ dv) (xs ++ ds) := by
    have h0 : RVs ad dv ds := by have := hds.mono (nw := ad); simpa using this
    clear hbind h hlen hxl hbn
    induction rv with
    | nil => exact h0
    | cons a _ ih => exact .cons a ih
  have hpn : pn.Nodup := (List.nodup_append.mp hnd).1
  have hkd0 : ∀ x ∈ pn ++ ln, nmOk x = true ∧ (scope.names.lookup x = some .local ∨ (scope.names.lookup x = some .cell ∧ ((cellsFrom 0 scope.names []).lookup x).isSome = true)) := by
    intro x hx
    have := List.all_eq_true.mp hkd x hx
    simpa using this
  have hkd' := fun x hx => (hkd0 x hx).2
  have hcl : ∀ x n, ((cellsFrom 0 scope.names []).lookup x).isSome = true → ((cellsFrom n scope.names []).lookup x).isSome = true := by
    intro x n hx
    rw [lookup_isSome] at hx ⊢
    rw [cellsFrom_names scope.names n 0 [] [] rfl]; exact hx
  refine wpAny_newFunctionEnv_cells hk (fun y hy => ?_) fun env he s1 x => ?_
  · have : y.1 ∈ pn := by rw [← hbn]; exact List.mem_map.mpr ⟨y, hy, rfl⟩
    rcases hkd' y.1 (List.mem_append_left _ this) with e | ⟨e, e'⟩
    · exact .inl e
    · exact .inr ⟨e, hcl _ _ e'⟩
  obtain rfl : env = dEnv qual scope s.heap.objs.size f cdv := he
  have keep := x.toInCall.keep
  obtain ⟨h1, tk, e1⟩ := x.toInCall.same
  have hr1 : HR (C.wg gl) ad σ s1.heap := (hr.keeps keep).wg hgl
  have hsz : s.heap.objs.size ≤ s1.heap.objs.size := Nat.le_of_lt x.toInCall.ns.lt
  have hcn' : ((cellsFrom (s.heap.objs.size + 1) scope.names []).map (·.1)).Nodup := by
    rw [cellsFrom_names scope.names _ 0 [] [] rfl]; exact hcn
  have hfa : ∀ a ∈ fa (dEnv qual scope s.heap.objs.size f cdv), s.heap.objs.size ≤ a := by
    intro a ha
    rcases List.mem_cons.mp ha with e | ha
    · subst e; exact Nat.le_refl _
    · obtain ⟨⟨n, c⟩, hp, rfl⟩ := List.mem_map.mp ha
      exact Nat.le_of_lt (x.above n c hp)
  have er1 : ER (C.wg gl) (dEnv qual scope s.heap.objs.size f cdv) (pn.zip ((vs ++ dv).map some) ++ ln.map fun x => (x, none)) ad s1.heap := by
    have hzn : (pn.zip ((vs ++ dv).map some)).map (·.1) = pn := zip_names (by rw [List.length_map, List.length_append, hlen])
    refine ⟨hk, rfl, rfl, ?_, ?_, ⟨_, x.toInCall.ns, ?_⟩, ?_, ?_, ?_, ?_, ?_, ?_, ?_⟩
    · rw [List.map_append, hzn, List.map_map]
      have : (ln.map ((fun p : Str × Option V => p.1) ∘ fun x => (x, none))) = ln := List.map_id _
      rw [this]; exact hnd
    · intro y v hy
      have hm : y ∈ pn ++ ln := by
        rcases List.mem_append.mp hy with hy | hy
        · exact List.mem_append_left _ (by rw [← hzn]; exact List.mem_map.mpr ⟨_, hy, rfl⟩)
        · obtain ⟨z, hz, e⟩ := List.mem_map.mp hy; cases e; exact List.mem_append_right _ hz
      rcases hkd' y hm with e | ⟨e, e'⟩
      · exact .inl e
      · exact .inr ⟨.inl e, hcl _ _ e'⟩
    · intro y v hy hyk
      have hy' : (y, some v) ∈ pn.zip ((vs ++ dv).map some) := by
        rcases List.mem_append.mp hy with hy | hy
        · exact hy
        · obtain ⟨z, hz, e⟩ := List.mem_map.mp hy; cases e
      obtain ⟨u, hu, ru⟩ := zip_mem rvall hy'
      exact ⟨u, bindL_mem hyk _ _ (by rw [hbn]; exact hpn) hu, ru⟩
    · intro y c hc
      obtain ⟨oc, hoc, hdc⟩ := x.cell y c hc
      refine ⟨oc, _, hoc, hdc, fun v hv hvk => ?_⟩
      have hy' : (y, some v) ∈ pn.zip ((vs ++ dv).map some) := by
        rcases List.mem_append.mp hv with hy | hy
        · exact hy
        · obtain ⟨z, hz, e⟩ := List.mem_map.mp hy; cases e
      obtain ⟨u, hu, ru⟩ := zip_mem rvall hy'
      exact ⟨u, bindC_mem hvk _ _ (by rw [hbn]; exact hpn) hu, ru⟩
    · intro y z c hy hz
      exact apart_inj x.apart (lookup_mem hy) (lookup_mem hz)
    · intro y c hc e
      have := x.above y c (lookup_mem hc)
      rw [e] at this
      exact Nat.lt_irrefl _ this
    · intro a ha; exact hr.fresh (hfa a ha)
    · intro a ha
      rcases List.mem_cons.mp ha with e | ha
      · subst e; exact x.toInCall.ns.lt
      · obtain ⟨⟨n, c⟩, hp, rfl⟩ := List.mem_map.mp ha
        obtain ⟨oc, hoc, _⟩ := x.cell n c (mem_lookup hcn' hp)
        exact Heap.lt_size hoc
    · intro y v hy
      have hm : y ∈ pn ++ ln := by
        rcases List.mem_append.mp hy with hy | hy
        · exact List.mem_append_left _ (by rw [← hzn]; exact List.mem_map.mpr ⟨_, hy, rfl⟩)
        · obtain ⟨z, hz, e⟩ := List.mem_map.mp hy; cases e; exact List.mem_append_right _ hz
      exact (hkd0 y hm).1
    · intro y v hy
      have := List.all_eq_true.mp hgk (y, v) hy
      simp only [Bool.and_eq_true, beq_iff_eq] at this
      exact ⟨this.2, this.1⟩
  refine ⟨(hr.ok.lim.keeps hr.keep).keeps keep, codeAny_func ?_⟩
  exact h (dEnv qual scope s.heap.objs.size f cdv) s1 (fun _ _ e => e) rfl keep hsz ⟨h1, tk, e1⟩ hfa hr1 er1
theorem WCc_defF {f : Addr} {o : Obj} {name qual : Str} {params : Arguments} {body : List Stmt} {scope : Scope} {dV kV doc pm cdv ct : Value} {an : Option Addr} {pn ln : List Str} {gl : List (Str × Value)} {vs dv : List V} {ds : List Value} {Q : V → AH → Prop}
    (ho : C.G.get? f = some o) (hd : o.data = .func (mkFd name qual params body scope dV kV doc pm an cdv ct)) (hcd : C.G.CodeRec cdv qual) (hroom : A.depth < recursionLimit)
    (hds : RVs [] dv ds) (hlen : pn.length = vs.length + dv.length) (hgl : ∀ x v, (x, v) ∈ gl → C.mg x = some v ∨ (C.mg x = none ∧ C.mb x = some v))
    (hbind : ∀ (s : Shared) (xs : List Value), (∀ b o, C.G.get? b = some o → s.heap.get? b = some o) → xs.length = vs.length → BindsTo s (mkFd name qual params body scope dV kV doc pm an cdv ct) ⟨xs, []⟩ (pn.zip (xs ++ ds)))
    (hnd : (pn ++ ln).Nodup) (hcn : ((cellsFrom 0 scope.names []).map (·.1)).Nodup)
    (hkd : ((pn ++ ln).all fun x => nmOk x && (scope.names.lookup x == some .local || (scope.names.lookup x == some .cell && ((cellsFrom 0 scope.names []).lookup x).isSome))) = true)
    (hgk : (gl.all fun p => nmOk p.1 && scope.names.lookup p.1 == some .globalImplicit) = true)
    (h : ∀ env, Kn env scope.names → env.frame = some env.locals → WSs (C.wg gl) (A.deeper env) env body (pn.zip ((vs ++ dv).map some) ++ ln.map fun x => (x, none)) σ (fun fl _ σ' => Q (retV fl) σ') (EL C A env E))
    (hco : scope.isCoroutine = false := by rfl) (hgen : scope.isGenerator = false := by rfl) (hk : scope.kind = .function := by rfl) : WCc C A (.ref f) vs σ Q E := by
  refine ⟨?_⟩
  intro ad s xs hr rv
  refine def_entry ho hd hcd hroom hds hlen hgl hbind hnd hcn hkd hgk hr rv (fun env s1 hkn hfr keep hsz e1 hfa hr1 er1 => ?_) hco hgen hk
  obtain ⟨h1, tk, e1⟩ := e1
  refine wpAny_mono ((h env hkn hfr).run ad s1 hr1 er1) ?_ fun _ _ z => z
  rintro fl s2 ⟨ad2, σ2, ρ2, f2, n2, e2, r2, h2⟩
  obtain ⟨nw, ep, hnw⟩ := n2.pre
  obtain ⟨h3, tk3, e3⟩ := n2.eq
  have nx : Nx C [] ad s ad2 σ2 s2 := ⟨⟨h3, tk3, by rw [e3, e1]⟩, ⟨nw, ep, fun a ha => Nat.le_trans hsz (hnw a ha)⟩, Nat.le_trans hsz n2.size,
    fun b o e nb _ => n2.same b o (keep b o e) nb fun hb => absurd (Heap.lt_size e) (Nat.not_lt.mpr (hfa b hb)), n2.hr.gw hr.ok⟩
  cases f2 with
  | next => cases r2; exact ⟨ad2, σ2, .none, nx, rfl, h2⟩
  | brk => cases r2; exact ⟨ad2, σ2, .none, nx, rfl, h2⟩
  | cont => cases r2; exact ⟨ad2, σ2, .none, nx, rfl, h2⟩
  | ret v => obtain ⟨u, rfl, ru⟩ := r2; exact ⟨ad2, σ2, v, nx, ru, h2⟩
theorem WCc_def {f : Addr} {o : Obj} {name qual : Str} {params : Arguments} {body : List Stmt} {scope : Scope} {dV kV doc pm cdv ct : Value} {an : Option Addr} {pn ln : List Str} {gl : List (Str × Value)} {vs dv : List V} {ds : List Value} {Q : V → AH → Prop}
    (ho : C.G.get? f = some o) (hd : o.data = .func (mkFd name qual params body scope dV kV doc pm an cdv ct)) (hcd : C.G.CodeRec cdv qual) (hroom : A.depth < recursionLimit)
    (hds : RVs [] dv ds) (hlen : pn.length = vs.length + dv.length) (hgl : ∀ x v, (x, v) ∈ gl → C.mg x = some v ∨ (C.mg x = none ∧ C.mb x = some v))
    (hbind : ∀ (s : Shared) (xs : List Value), (∀ b o, C.G.get? b = some o → s.heap.get? b = some o) → xs.length = vs.length → BindsTo s (mkFd name qual params body scope dV kV doc pm an cdv ct) ⟨xs, []⟩ (pn.zip (xs ++ ds)))
    (hnd : (pn ++ ln).Nodup) (hcn : ((cellsFrom 0 scope.names []).map (·.1)).Nodup)
    (hkd : ((pn ++ ln).all fun x => nmOk x && (scope.names.lookup x == some .local || (scope.names.lookup x == some .cell && ((cellsFrom 0 scope.names []).lookup x).isSome))) = true)
    (hgk : (gl.all fun p => nmOk p.1 && scope.names.lookup p.1 == some .globalImplicit) = true)
    (h : ∀ env, Kn env scope.names → WSs (C.wg gl) (A.deeper env) env body (pn.zip ((vs ++ dv).map some) ++ ln.map fun x => (x, none)) σ (fun fl _ σ' => Q (retV fl) σ') (EL C A env E))
    (hco : scope.isCoroutine = false := by rfl) (hgen : scope.isGenerator = false := by rfl) (hk : scope.kind = .function := by rfl) : WCc C A (.ref f) vs σ Q E :=
  WCc_defF ho hd hcd hroom hds hlen hgl hbind hnd hcn hkd hgk (fun env hkn _ => h env hkn) hco hgen hk
theorem WC_def {f : Addr} {o : Obj} {name qual : Str} {params : Arguments} {body : List Stmt} {scope : Scope} {dV kV doc pm cdv ct : Value} {an : Option Addr} {pn ln : List Str} {gl : List (Str × Value)} {vs dv : List V} {ds : List Value} {Q : V → AH → Prop}
    (ho : C.G.get? f = some o) (hd : o.data = .func (mkFd name qual params body scope dV kV doc pm an cdv ct)) (hcd : C.G.CodeRec cdv qual) (hroom : A.depth < recursionLimit)
    (hds : RVs [] dv ds) (hlen : pn.length = vs.length + dv.length) (hgl : ∀ x v, (x, v) ∈ gl → C.mg x = some v ∨ (C.mg x = none ∧ C.mb x = some v))
    (hbind : ∀ (s : Shared) (xs : List Value), (∀ b o, C.G.get? b = some o → s.heap.get? b = some o) → xs.length = vs.length → BindsTo s (mkFd name qual params body scope dV kV doc pm an cdv ct) ⟨xs, []⟩ (pn.zip (xs ++ ds)))
    (hnd : (pn ++ ln).Nodup) (hcn : ((cellsFrom 0 scope.names []).map (·.1)).Nodup)
    (hkd : ((pn ++ ln).all fun x => nmOk x && (scope.names.lookup x == some .local || (scope.names.lookup x == some .cell && ((cellsFrom 0 scope.names []).lookup x).isSome))) = true)
    (hgk : (gl.all fun p => nmOk p.1 && scope.names.lookup p.1 == some .globalImplicit) = true)
    (h : ∀ env, Kn env scope.names → WSs (C.wg gl) (A.deeper env) env body (pn.zip ((vs ++ dv).map some) ++ ln.map fun x => (x, none)) σ (fun fl _ σ' => Q (retV fl) σ') (EL C A env E))
    (hco : scope.isCoroutine = false := by rfl) (hgen : scope.isGenerator = false := by rfl) (hk : scope.kind = .function := by rfl) : WC C A (.ref f) vs σ Q E :=
  (WCc_def ho hd hcd hroom hds hlen hgl hbind hnd hcn hkd hgk h hco hgen hk).toWC
end
end Mine

-- part Aw4
set_option autoImplicit false
set_option linter.unusedVariables false
namespace Mine
open PySem PyProof.Rows

/-- an iterator at I that hands out P 0 .. P (n - 1), as long as the abstract heap keeps Cd -/
structure Wk (C : Cx) (A : Around) (ad0 : List Addr) (I : Addr) (n : Nat) (P : Nat → V) (Cd : AH → Prop) (St : Nat → Heap → Prop) : Prop where
  own : ∀ i h h', St i h → h'.get? I = h.get? I → St i h'
  ex : ∀ i h, St i h → ∃ o, h.get? I = some o
  item : ∀ i ad σ (s : Shared) (Q : Option Value → Shared → Prop) (E : EX), i < n → (∃ nw, ad = ad0 ++ nw) → HR C ad σ s.heap → Cd σ → St i s.heap →
    (∀ u h' tk, RV ad (P i) u → St (i + 1) h' → Heap.SameBut I s.heap h' → Q (some u) { s with heap := h', toks := tk }) → wpAny (model C.prog C.w) A (pyNext (.ref I)) Q E s
  done : ∀ ad σ (s : Shared) (Q : Option Value → Shared → Prop) (E : EX), (∃ nw, ad = ad0 ++ nw) → HR C ad σ s.heap → Cd σ → St n s.heap →
    (∀ h' tk, (∀ b o, b ≠ I → s.heap.get? b = some o → h'.get? b = some o) → Q none { s with heap := h', toks := tk }) → wpAny (model C.prog C.w) A (pyNext (.ref I)) Q E s
  self : ∀ i (s : Shared) (Q : Value → Shared → Prop) (E : EX), St i s.heap → Q (.ref I) s → wpAny (model C.prog C.w) A (pyIter (.ref I)) Q E s
  tup : ∀ i (s : Shared) (t : Expr) (u : Value) (Q : Unit → Shared → Prop) (E : EX), St i s.heap → Q () s → wpAny (model C.prog C.w) A (letOwnedTupleGo t (.ref I) u) Q E s

/-- a value that may be walked -/
structure Itb (C : Cx) (A : Around) (v : V) (σ : AH) (n : Nat) (P : Nat → V) (Cd : AH → Prop) (E : EX) : Prop where
  run : ∀ ad (s : Shared) x, HR C ad σ s.heap → RV ad v x → wpAny (model C.prog C.w) A (pyIter x)
    (fun it s1 => ∃ I St, it = .ref I ∧ Wk C A ad I n P Cd St ∧ St 0 s1.heap ∧ s.heap.objs.size ≤ I ∧ Nx C [] ad s ad σ s1) E s

structure LoopPost (Inv : Loc → AH → Prop) (Q : Fl → Loc → AH → Prop) (fl : Fl) (ρ : Loc) (σ : AH) : Prop where
  run : match fl with
    | .next => Inv ρ σ
    | .cont => Inv ρ σ
    | .brk => Q .next ρ σ
    | .ret v => Q (.ret v) ρ σ
theorem LoopPost_next {Inv : Loc → AH → Prop} {Q : Fl → Loc → AH → Prop} {ρ : Loc} {σ : AH} (h : Inv ρ σ) : LoopPost Inv Q .next ρ σ := ⟨h⟩
theorem LoopPost_cont {Inv : Loc → AH → Prop} {Q : Fl → Loc → AH → Prop} {ρ : Loc} {σ : AH} (h : Inv ρ σ) : LoopPost Inv Q .cont ρ σ := ⟨h⟩
theorem LoopPost_brk {Inv : Loc → AH → Prop} {Q : Fl → Loc → AH → Prop} {ρ : Loc} {σ : AH} (h : Q .next ρ σ) : LoopPost Inv Q .brk ρ σ := ⟨h⟩
theorem LoopPost_ret {Inv : Loc → AH → Prop} {Q : Fl → Loc → AH → Prop} {ρ : Loc} {σ : AH} {v : V} (h : Q (.ret v) ρ σ) : LoopPost Inv Q (.ret v) ρ σ := ⟨h⟩

/-- a raise within a loop -/
def ELoop (C : Cx) (A : Around) (env : Env) (E : EX) : EX := notedBy (model C.prog C.w) A env fun e s' => cameBackBy (model C.prog C.w) A env E e s'

/-- storing a value to a target -/
structure WAs (C : Cx) (A : Around) (env : Env) (t : Expr) (v : V) (ρ : Loc) (σ : AH) (Q : Loc → AH → Prop) (E : EX) : Prop where
  run : ∀ ad (s : Shared) u, HR C ad σ s.heap → ER C env ρ ad s.heap → RV ad v u →
    wpAny (model C.prog C.w) A (assign t env u) (fun _ s' => ∃ ad' σ' ρ', Nx C (fa env) ad s ad' σ' s' ∧ ER C env ρ' ad' s'.heap ∧ Q ρ' σ') E s

section
variable {C : Cx} {A : Around} {env : Env} {ρ : Loc} {σ : AH} {E : EX}
theorem WAs_name {x : Str} {p : Pos} {v : V} {Q : Loc → AH → Prop} {ρ' : Loc} (up : Up x (some v) ρ ρ') (h : Q ρ' σ) : WAs C A env (.Name x p) v ρ σ Q E := by
  refine ⟨?_⟩
  intro ad s u hr er rv
  exact wpAny_assign_Name (store_name hr er up rv fun s' n e => ⟨ad, σ, ρ', n, e, h⟩)

theorem HR.same {ad : List Addr} {h h' : Heap} (hr : HR C ad σ h) (k : ∀ b o, C.G.get? b = some o ∨ b ∈ ad → h.get? b = some o → h'.get? b = some o) : HR C ad σ h' :=
  ⟨hr.ok, fun b o e => k b o (.inl e) (hr.keep b o e), hr.len, hr.nd, hr.off, hr.low, fun i o a h1 h2 => let ⟨ob, h3, h4⟩ := hr.obj i o a h1 h2; ⟨ob, k _ _ (.inr (List.mem_of_getElem? h2)) h3, h4⟩⟩

/-- a step that changes but the iterator and grows -/
theorem Nx.iter {ad : List Addr} {s : Shared} {h' : Heap} {tk : Nat} {I : Addr} (hr : HR C ad σ s.heap) (hI : I ∉ ad) (hG : C.G.get? I = none) (hz : s.heap.objs.size ≤ h'.objs.size) (k : ∀ b o, b ≠ I → s.heap.get? b = some o → h'.get? b = some o) :
    Nx C [I] ad s ad σ { s with heap := h', toks := tk } := by
  have ne : ∀ b o, C.G.get? b = some o ∨ b ∈ ad → b ≠ I := by
    rintro b o (e | e) rfl
    · rw [hG] at e; cases e
    · exact hI e
  exact ⟨⟨h', tk, rfl⟩, ⟨[], by simp, by simp⟩, hz, fun b o e _ hc => k b o (by simpa using hc) e, hr.same fun b o h1 h2 => k b o (ne b o h1) h2⟩
theorem ER.iter {ad : List Addr} {s : Shared} {s' : Shared} {I : Addr} (er : ER C env ρ ad s.heap) (n : Nx C [I] ad s ad σ s') (hI : I ∉ fa env) : ER C env ρ ad s'.heap := by
  have keep : ∀ b ∈ fa env, ∀ o, s.heap.get? b = some o → s'.heap.get? b = some o := fun b hb o e => n.same b o e (er.off b hb).2 (by simp; rintro rfl; exact hI hb)
  refine ⟨er.kind, er.glob, er.blt, er.nd, er.kd, ?_, ?_, er.cinj, er.cl, er.off, fun b hb => Nat.lt_of_lt_of_le (er.lt b hb) n.size, er.nm, er.gk⟩
  · obtain ⟨m, hm, h⟩ := er.m
    exact ⟨m, hm.at' fun o e => keep _ (by simp [fa]) o e, h⟩
  · intro x c hc
    obtain ⟨o, w, h1, h2, h3⟩ := er.cell x c hc
    exact ⟨o, w, keep c (mem_cells hc) o h1, h2, h3⟩
/-- from a step that may change an iterator to one seen from ahead of its making -/
theorem Nx.drop {ch ad ad1 : List Addr} {σ1 : AH} {s0 s s1 : Shared} {I : Addr} {σ0 : AH} (n0 : Nx C [] ad s0 ad σ0 s) (hI : s0.heap.objs.size ≤ I) (n : Nx C (I :: ch) ad s ad1 σ1 s1) : Nx C ch ad s0 ad1 σ1 s1 := by
  obtain ⟨h1, t1, e1⟩ := n0.eq
  obtain ⟨h2, t2, e2⟩ := n.eq
  obtain ⟨nw, p, q⟩ := n.pre
  refine ⟨⟨h2, t2, by rw [e2, e1]⟩, ⟨nw, p, fun a ha => Nat.le_trans n0.size (q a ha)⟩, Nat.le_trans n0.size n.size, fun b o e hb hc => ?_, n.hr⟩
  refine n.same b o (n0.same b o e hb (by simp)) hb ?_
  simp only [List.mem_cons, not_or]
  exact ⟨fun e' => absurd (Heap.lt_size e) (Nat.not_lt.mpr (e' ▸ hI)), hc⟩
theorem Nx.wider {ch ch' ad ad1 : List Addr} {σ1 : AH} {s s1 : Shared} (n : Nx C ch ad s ad1 σ1 s1) (h : ∀ b ∈ ch, b ∈ ch') : Nx C ch' ad s ad1 σ1 s1 :=
  ⟨n.eq, n.pre, n.size, fun b o e hb hc => n.same b o e hb fun hx => hc (h b hx), n.hr⟩

/-- an expression's value, made an iterator -/
structure WItr (C : Cx) (A : Around) (env : Env) (iter : Expr) (ρ : Loc) (σ : AH) (K : Nat → (Nat → V) → (AH → Prop) → AH → Prop) (E : EX) : Prop where
  run : ∀ ad (s : Shared), HR C ad σ s.heap → ER C env ρ ad s.heap → wpAny (model C.prog C.w) A (eval iter env) (fun x s1 => wpAny (model C.prog C.w) A (pyIter x) (fun it s2 =>
    ∃ ad' σ' n P Cd I St, it = .ref I ∧ Wk C A ad' I n P Cd St ∧ St 0 s2.heap ∧ s.heap.objs.size ≤ I ∧ I ∉ ad' ∧ Nx C [] ad s ad' σ' s2 ∧ K n P Cd σ') E s1) E s
theorem WItr_of {iter : Expr} {K : Nat → (Nat → V) → (AH → Prop) → AH → Prop} (h : WE C A env iter ρ σ (fun v σ1 => ∃ n P Cd, Itb C A v σ1 n P Cd E ∧ K n P Cd σ1) E) : WItr C A env iter ρ σ K E := by
  refine ⟨?_⟩
  intro ad s hr er
  refine wpAny_mono (h.run ad s hr er) ?_ fun _ _ x => x
  rintro x s1 ⟨ad1, σ1, v, n1, r1, n, P, Cd, itb, hk⟩
  refine wpAny_mono (itb.run ad1 s1 x n1.hr r1) ?_ fun _ _ x => x
  rintro it s2 ⟨I, St, rfl, wk, st0, hI, n2⟩
  exact ⟨ad1, σ1, n, P, Cd, I, St, rfl, wk, st0, Nat.le_trans n1.size hI, (n1.hr.fresh hI).2, n1.trans n2, hk⟩
theorem Nx.drop1 {ch ad ad1 : List Addr} {σ1 : AH} {s0 s s1 : Shared} {I : Addr} {ad0 : List Addr} {σ0 : AH} (n0 : Nx C [] ad0 s0 ad σ0 s) (hI : s0.heap.objs.size ≤ I) (n : Nx C (I :: ch) ad s ad1 σ1 s1) : Nx C ch ad0 s0 ad1 σ1 s1 := by
  obtain ⟨h1, t1, e1⟩ := n0.eq
  obtain ⟨h2, t2, e2⟩ := n.eq
  obtain ⟨nw0, p0, q0⟩ := n0.pre
  obtain ⟨nw, p, q⟩ := n.pre
  refine ⟨⟨h2, t2, by rw [e2, e1]⟩, ⟨nw0 ++ nw, by rw [p, p0, List.append_assoc], fun a ha => ?_⟩, Nat.le_trans n0.size n.size, fun b o e hb hc => ?_, n.hr⟩
  · rcases List.mem_append.mp ha with ha | ha
    · exact q0 a ha
    · exact Nat.le_trans n0.size (q a ha)
  · refine n.same b o (n0.same b o e hb (by simp)) ?_ ?_
    · rw [p0]
      intro hm
      rcases List.mem_append.mp hm with hm | hm
      · exact hb hm
      · exact absurd (Heap.lt_size e) (Nat.not_lt.mpr (q0 b hm))
    · simp only [List.mem_cons, not_or]
      exact ⟨fun e' => absurd (Heap.lt_size e) (Nat.not_lt.mpr (e' ▸ hI)), hc⟩

theorem WS_for {target iter : Expr} {body : List Stmt} {pos : Pos} {Q : Fl → Loc → AH → Prop}
    (h : WItr C A env iter ρ σ (fun n P Cd σ1 => ∃ Inv : Nat → Loc → AH → Prop, Inv 0 ρ σ1 ∧
      (∀ i ρ' σ', i < n → Inv i ρ' σ' → Cd σ' ∧ WAs C A env target (P i) ρ' σ' (fun ρ2 σ2 => WSs C A env body ρ2 σ2 (LoopPost (Inv (i + 1)) Q) (ELoop C A env E)) (ELoop C A env E)) ∧
      (∀ ρ' σ', Inv n ρ' σ' → Cd σ' ∧ Q .next ρ' σ')) E)
    (hs : isSetE iter = false := by rfl) : WS C A env (.For target iter body [] pos) ρ σ Q E := by
  refine ⟨?_⟩
  intro ad s hr er
  refine wpAny_For (wpAny_mono (h.run ad s hr er) ?_ fun _ _ x => x) (folded_not hs)
  intro x s1 hx
  refine wpAny_mono hx ?_ fun _ _ x => x
  rintro it s2 ⟨ad1, σ1, n, P, Cd, I, St, rfl, wk, st0, hI, hIad, n2, Inv, inv0, turn, fin⟩
  have er2 := er.next n2
  have hIfa : I ∉ fa env := fun hm => absurd (er.lt I hm) (Nat.not_lt.mpr hI)
  have hIG : C.G.get? I = none := (hr.fresh hI).1
  refine codeAny_forLoop_any (fun k s3 => ∃ i ad3 σ3 ρ3, k = n - i ∧ i ≤ n ∧ Nx C (I :: fa env) ad1 s2 ad3 σ3 s3 ∧ ER C env ρ3 ad3 s3.heap ∧ St i s3.heap ∧ I ∉ ad3 ∧ Inv i ρ3 σ3) ?_ n
    ⟨0, ad1, σ1, ρ, rfl, Nat.zero_le _, Nx.refl n2.hr, er2, st0, hIad, inv0⟩
  rintro k s3 ⟨i, ad3, σ3, ρ3, rfl, hi, n3, er3, st3, hI3, inv3⟩
  by_cases hlt : i < n
  · obtain ⟨cd, tb⟩ := turn i ρ3 σ3 hlt inv3
    refine wk.item i ad3 σ3 s3 _ _ hlt (let ⟨nw, p, _⟩ := n3.pre; ⟨nw, p⟩) n3.hr cd st3 fun u h' tk ru st' hsb => ?_
    have n4 : Nx C [I] ad3 s3 ad3 σ3 { s3 with heap := h', toks := tk } := Nx.iter n3.hr hI3 hIG (Nat.le_of_eq hsb.1.symm) hsb.extBut
    have er4 := er3.iter n4 hIfa
    refine wk.tup (i + 1) _ _ _ _ _ st' ?_
    refine wpAny_mono (tb.run ad3 _ u n4.hr er4 ru) ?_ fun _ _ x => x
    rintro _ s5 ⟨ad5, σ5, ρ5, n5, er5, wb⟩
    refine wpAny_mono (wb.run ad5 s5 n5.hr er5) ?_ fun _ _ x => x
    rintro f s6 ⟨ad6, σ6, ρ6, fl, n6, er6, rf, ⟨hq⟩⟩
    have n56 := n5.trans n6
    have n46 : Nx C (I :: fa env) ad3 s3 ad6 σ6 s6 := (n4.wider (by simp)).trans (n56.wider fun b hb => List.mem_cons_of_mem _ hb)
    have n36 := n3.trans n46
    obtain ⟨oI, hoI⟩ := wk.ex _ _ st'
    have hI6 : I ∉ ad6 := by
      obtain ⟨nw, p, q⟩ := n56.pre
      rw [p]
      intro hm
      rcases List.mem_append.mp hm with hm | hm
      · exact hI3 hm
      · exact absurd (Heap.lt_size hoI) (Nat.not_lt.mpr (q I hm))
    have st6 : St (i + 1) s6.heap := wk.own _ _ _ st' ((n56.same I oI hoI hI3 hIfa).trans hoI.symm)
    have back : Nx C (fa env) ad s ad6 σ6 s6 := Nx.drop1 n2 hI n36
    cases fl with
    | next => cases rf; exact ⟨n - (i + 1), by omega, i + 1, ad6, σ6, ρ6, rfl, hlt, n36, er6, st6, hI6, hq⟩
    | cont => cases rf; exact ⟨n - (i + 1), by omega, i + 1, ad6, σ6, ρ6, rfl, hlt, n36, er6, st6, hI6, hq⟩
    | brk => cases rf; exact ⟨ad6, σ6, ρ6, .next, back, er6, rfl, hq⟩
    | ret v => obtain ⟨u', rfl, ru'⟩ := rf; exact ⟨ad6, σ6, ρ6, .ret v, back, er6, ⟨u', rfl, ru'⟩, hq⟩
  · obtain rfl : i = n := by omega
    obtain ⟨cd, hq⟩ := fin ρ3 σ3 inv3
    refine wpAny_sz (wk.done ad3 σ3 s3 _ _ (let ⟨nw, p, _⟩ := n3.pre; ⟨nw, p⟩) n3.hr cd st3 fun h' tk hk hz => ?_)
    have n4 : Nx C [I] ad3 s3 ad3 σ3 { s3 with heap := h', toks := tk } := Nx.iter n3.hr hI3 hIG hz hk
    have er4 := er3.iter n4 hIfa
    exact wpAny_execs_nil ⟨ad3, σ3, ρ3, .next, Nx.drop1 n2 hI (n3.trans (n4.wider (by simp))), er4, rfl, hq⟩
end
end Mine

-- part Aw5
set_option autoImplicit false
set_option linter.unusedVariables false
namespace Mine
open PySem PyProof.Rows

def ObjAt (C : Cx) (σ : AH) (v : V) (o : O) : Prop := match v with
  | .ref j => σ[j]? = some o
  | .k (.ref a) => (a, o) ∈ C.gob
  | _ => False

section
variable {C : Cx} {A : Around} {env : Env} {ρ : Loc} {σ : AH} {E : EX}
theorem ObjAt.list {v : V} {xs : List V} {ad : List Addr} {h : Heap} {x : Value} (b : ObjAt C σ v (.list xs)) (hr : HR C ad σ h) (rv : RV ad v x) : ∃ a vs, x = .ref a ∧ h.IsList a vs ∧ RVs ad xs vs.toList := by
  cases v with
  | ref j =>
    obtain ⟨a, h1, h2⟩ := rv
    obtain ⟨ob, h3, vs, n, e2, h4⟩ := hr.obj j _ a b h1
    subst e2
    exact ⟨a, vs, h2, ⟨_, h3, rfl, n, rfl⟩, h4⟩
  | k v =>
    cases v with
    | ref a =>
      obtain ⟨vs, h1, h2⟩ := (hr.ok.gob a _ b).keeps hr.keep
      have h3 := h2.mono (nw := ad)
      exact ⟨a, vs, rv, h1, by simpa using h3⟩
    | _ => exact b.elim
  | _ => exact b.elim
theorem ObjAt.tup {v : V} {xs : List V} {ad : List Addr} {h : Heap} {x : Value} (b : ObjAt C σ v (.tuple xs)) (hr : HR C ad σ h) (rv : RV ad v x) : ∃ a vs, x = .ref a ∧ h.IsTuple a vs ∧ RVs ad xs vs.toList := by
  cases v with
  | ref j =>
    obtain ⟨a, h1, h2⟩ := rv
    obtain ⟨ob, h3, vs, n, e2, h4⟩ := hr.obj j _ a b h1
    subst e2
    exact ⟨a, vs, h2, ⟨_, h3, rfl, n, rfl⟩, h4⟩
  | k v =>
    cases v with
    | ref a =>
      obtain ⟨vs, h1, h2⟩ := (hr.ok.gob a _ b).keeps hr.keep
      have h3 := h2.mono (nw := ad)
      exact ⟨a, vs, rv, h1, by simpa using h3⟩
    | _ => exact b.elim
  | _ => exact b.elim

/-- a new object that the abstract heap does not bear -/
theorem Nx.push {ad : List Addr} {s : Shared} (o : Obj) (hr : HR C ad σ s.heap) : Nx C [] ad s ad σ { s with heap := s.heap.push o } :=
  ⟨⟨_, s.toks, rfl⟩, ⟨[], by simp, by simp⟩, by simp [Heap.push], fun b ob e _ _ => Heap.get?_push_of_some _ e, hr.keeps fun b ob e => Heap.get?_push_of_some _ e⟩
theorem RVs.getD {ad : List Addr} {xs : List V} {vs : List Value} (h : RVs ad xs vs) {i : Nat} (hi : i < xs.length) : ∃ u, vs[i]? = some u ∧ RV ad (xs.getD i .none) u := by
  obtain ⟨u, h1, h2⟩ := h.get (i := i) (a := xs[i]) (by simp [hi])
  exact ⟨u, h1, by simpa [List.getD, hi] using h2⟩

theorem notOwned {s : Shared} {t : Expr} {I : Addr} {u : Value} {o : Obj} {M : Model} {Q : Unit → Shared → Prop} (ho : s.heap.get? I = some o) (hc : (match o.cls, o.data with
    | .type n, .fields vs => !(["enumerate", "zip", "dict_itemiterator", "dict_reverseitemiterator", "odict_iterator", "itertools.zip_longest", "itertools.pairwise"].contains n)
    | _, _ => true) = true) (h : Q () s) : wpAny M A (letOwnedTupleGo t (.ref I) u) Q E s := by
  unfold letOwnedTupleGo
  split
  · cases u <;> try exact wpAny_pure h
    refine wpAny_bind (wpAny_load ho ?_)
    split
    · rename_i n vs e1 e2
      rw [e1, e2] at hc
      simp only [Bool.not_eq_true'] at hc
      rw [hc]; exact wpAny_pure h
    · exact wpAny_pure h
  · cases u <;> try exact wpAny_pure h
    refine wpAny_bind (wpAny_load ho ?_)
    split
    · rename_i n vs e1 e2
      rw [e1, e2] at hc
      simp only [Bool.not_eq_true'] at hc
      rw [hc]; exact wpAny_pure h
    · exact wpAny_pure h
  · exact wpAny_pure h

theorem Itb_list {v : V} {xs : List V} (hA : A.handled = none) (b : ObjAt C σ v (.list xs)) : Itb C A v σ xs.length (fun i => xs.getD i .none) (fun σ' => ObjAt C σ' v (.list xs)) E := by
  refine ⟨?_⟩
  intro ad s x hr rv
  obtain ⟨a, vs, rfl, hl, rvs⟩ := b.list hr rv
  refine wpAny_pyIter_list hl ⟨s.heap.objs.size, fun i h => h.IsListIter s.heap.objs.size a i, rfl, ?_, ?_, Nat.le_refl _, Nx.push _ hr⟩
  · refine ⟨?_, ?_, ?_, ?_, fun i s Q E st hQ => wpAny_pyIter_listiter st hQ, ?_⟩
    · rintro i h h' ⟨o, ho, r⟩ e
      exact ⟨o, by rw [e]; exact ho, r⟩
    · rintro i h ⟨o, ho, r⟩; exact ⟨o, ho⟩
    · rintro i ad' σ' s' Q E' hi ⟨nw, rfl⟩ hr' b' st hQ
      obtain ⟨a', vs', e, hl', rvs'⟩ := b'.list hr' (rv.mono (nw := nw))
      cases e
      obtain ⟨u, hu, ru⟩ := rvs'.getD hi
      exact wpAny_pyNext_list_item st hl' (x := u) (by rw [← Array.getElem?_toList]; exact hu) fun h' hit hs => hQ u h' s'.toks ru hit hs
    · rintro ad' σ' s' Q E' ⟨nw, rfl⟩ hr' b' st hQ
      obtain ⟨a', vs', e, hl', rvs'⟩ := b'.list hr' (rv.mono (nw := nw))
      cases e
      refine wpAny_pyNext_list_end hA st hl' ?_ fun h' he => ?_
      · rw [← Array.getElem?_toList]; exact List.getElem?_eq_none (by rw [← rvs'.length]; exact Nat.le_refl _)
      · exact hQ h' s'.toks fun b o hb e => he b o hb e
    · rintro i s' t u Q E' ⟨o, ho, hc, hd⟩ hq
      exact notOwned ho (by rw [hc, hd]; rfl) hq
  · exact ⟨_, Heap.get?_push_size _ rfl, rfl, rfl⟩
end
end Mine

-- part Aw6
set_option autoImplicit false
set_option linter.unusedVariables false
namespace Mine
open PySem PyProof.Rows

section
variable {C : Cx} {A : Around} {env : Env} {ρ : Loc} {σ : AH} {E : EX} {Q : V → AH → Prop}

theorem PE.here {ad : List Addr} {s : Shared} {v : V} {u : Value} (hr : HR C ad σ s.heap) (rv : RV ad v u) (h : Q v σ) : PE C ad s Q u s := ⟨ad, σ, v, Nx.refl hr, rv, h⟩
theorem PE.tok {ad : List Addr} {s : Shared} {v : V} {u : Value} (t : Nat) (hr : HR C ad σ s.heap) (rv : RV ad v u) (h : Q v σ) : PE C ad s Q u { s with toks := t } := ⟨ad, σ, v, Nx.tok t hr, rv, h⟩
theorem Nx.keeps {ad : List Addr} {s : Shared} {h' : Heap} {tk : Nat} (hz : s.heap.objs.size ≤ h'.objs.size) (hr : HR C ad σ s.heap) (k : ∀ b o, s.heap.get? b = some o → h'.get? b = some o) : Nx C [] ad s ad σ { s with heap := h', toks := tk } :=
  ⟨⟨h', tk, rfl⟩, ⟨[], by simp, by simp⟩, hz, fun b o e _ _ => k b o e, hr.keeps k⟩

/- ints -/
theorem add_ii {i j : Int} (h : Q (.int (i + j)) σ) : WOp2 C A (binaryOp .Add) (.int i) (.int j) σ Q E := by
  refine ⟨?_⟩
  rintro ad s x y hr ⟨t, rfl⟩ ⟨u, rfl⟩
  exact wpAny_add_int (PE.tok (v := .int (i + j)) _ hr ⟨_, rfl⟩ h)
theorem sub_ii {i j : Int} (h : Q (.int (i - j)) σ) : WOp2 C A (binaryOp .Sub) (.int i) (.int j) σ Q E := by
  refine ⟨?_⟩
  rintro ad s x y hr ⟨t, rfl⟩ ⟨u, rfl⟩
  exact sub_int' (PE.tok (v := .int (i - j)) _ hr ⟨_, rfl⟩ h)
theorem mul_ii {i j : Int} (hm : IntMulOk i j) (h : Q (.int (i * j)) σ) : WOp2 C A (binaryOp .Mult) (.int i) (.int j) σ Q E := by
  refine ⟨?_⟩
  rintro ad s x y hr ⟨t, rfl⟩ ⟨u, rfl⟩
  exact mul_int (PE.tok (v := .int (i * j)) _ hr ⟨_, rfl⟩ h) hm
theorem mod_ii {i j : Int} (hj : j ≠ 0) (h : Q (.int (i.fmod j)) σ) : WOp2 C A (binaryOp .Mod) (.int i) (.int j) σ Q E := by
  refine ⟨?_⟩
  rintro ad s x y hr ⟨t, rfl⟩ ⟨u, rfl⟩
  refine mod_int' hj ?_
  exact (PE.tok (v := .int (i.fmod j)) _ hr ⟨_, rfl⟩ h)
theorem neg_i {i : Int} (h : Q (.int (-i)) σ) : WOp1 C A (unaryOp .USub) (.int i) σ Q E := by
  refine ⟨?_⟩
  rintro ad s x hr ⟨t, rfl⟩
  exact neg_int (PE.tok (v := .int (-i)) _ hr ⟨_, rfl⟩ h)
theorem lt_ii {i j : Int} (h : Q (.bool (decide (i < j))) σ) : WOp2 C A (compareOp .Lt) (.int i) (.int j) σ Q E := by
  refine ⟨?_⟩
  rintro ad s x y hr ⟨t, rfl⟩ ⟨u, rfl⟩
  exact lt_int (PE.here (v := .bool _) hr rfl h)
theorem gt_ii {i j : Int} (h : Q (.bool (decide (j < i))) σ) : WOp2 C A (compareOp .Gt) (.int i) (.int j) σ Q E := by
  refine ⟨?_⟩
  rintro ad s x y hr ⟨t, rfl⟩ ⟨u, rfl⟩
  exact gt_int (PE.here (v := .bool _) hr rfl h)
theorem le_ii {i j : Int} (h : Q (.bool (decide (i ≤ j))) σ) : WOp2 C A (compareOp .LtE) (.int i) (.int j) σ Q E := by
  refine ⟨?_⟩
  rintro ad s x y hr ⟨t, rfl⟩ ⟨u, rfl⟩
  exact le_int (PE.here (v := .bool _) hr rfl h)
theorem ge_ii {i j : Int} (h : Q (.bool (decide (j ≤ i))) σ) : WOp2 C A (compareOp .GtE) (.int i) (.int j) σ Q E := by
  refine ⟨?_⟩
  rintro ad s x y hr ⟨t, rfl⟩ ⟨u, rfl⟩
  exact ge_int (PE.here (v := .bool _) hr rfl h)
theorem eq_ii {i j : Int} (h : Q (.bool (i == j)) σ) : WOp2 C A (compareOp .Eq) (.int i) (.int j) σ Q E := by
  refine ⟨?_⟩
  rintro ad s x y hr ⟨t, rfl⟩ ⟨u, rfl⟩
  exact eq_int (PE.here (v := .bool _) hr rfl h)
theorem ne_ii {i j : Int} (h : Q (.bool (i != j)) σ) : WOp2 C A (compareOp .NotEq) (.int i) (.int j) σ Q E := by
  refine ⟨?_⟩
  rintro ad s x y hr ⟨t, rfl⟩ ⟨u, rfl⟩
  exact ne_int (PE.here (v := .bool _) hr rfl h)
theorem eq_ss {i j : Str} (h : Q (.bool (i == j)) σ) : WOp2 C A (compareOp .Eq) (.str i) (.str j) σ Q E := by
  refine ⟨?_⟩
  rintro ad s x y hr ⟨t, rfl⟩ ⟨u, rfl⟩
  exact eq_str (PE.here (v := .bool _) hr rfl h)
theorem ne_ss {i j : Str} (h : Q (.bool (i != j)) σ) : WOp2 C A (compareOp .NotEq) (.str i) (.str j) σ Q E := by
  refine ⟨?_⟩
  rintro ad s x y hr ⟨t, rfl⟩ ⟨u, rfl⟩
  exact ne_str (PE.here (v := .bool _) hr rfl h)

/- deep data -/
mutual
inductive Rd (C : Cx) (σ : AH) : V → PyData → Prop
  | none : Rd C σ .none .none
  | bool {b : Bool} : Rd C σ (.bool b) (.bool b)
  | int {i : Int} : Rd C σ (.int i) (.int i)
  | str {s : Str} : Rd C σ (.str s) (.str s)
  | list {v : V} {xs : List V} {ds : List PyData} : ObjAt C σ v (.list xs) → RdAll C σ xs ds → Rd C σ v (.list ds)
  | tuple {v : V} {xs : List V} {ds : List PyData} : ObjAt C σ v (.tuple xs) → RdAll C σ xs ds → Rd C σ v (.tuple ds)
inductive RdAll (C : Cx) (σ : AH) : List V → List PyData → Prop
  | nil : RdAll C σ [] []
  | cons {v : V} {d : PyData} {vs : List V} {ds : List PyData} : Rd C σ v d → RdAll C σ vs ds → RdAll C σ (v :: vs) (d :: ds)
end
mutual
theorem Rd.reads {ad : List Addr} {h : Heap} (hr : HR C ad σ h) : ∀ {v : V} {d : PyData}, Rd C σ v d → ∀ {x : Value}, RV ad v x → ∃ as, Reads h x d as
  | _, _, .none, _, rfl => ⟨_, .none⟩
  | _, _, .bool, _, rfl => ⟨_, .bool _⟩
  | _, _, .int, _, ⟨_, e⟩ => by subst e; exact ⟨_, .int _ _⟩
  | _, _, .str, _, ⟨_, e⟩ => by subst e; exact ⟨_, .str _ _⟩
  | _, _, .list b r, x, rv => by
    obtain ⟨a, vs, e, ⟨o, ho, hc, n, hd⟩, rvs⟩ := b.list hr rv
    obtain ⟨as, ra⟩ := RdAll.reads hr r rvs
    subst e
    exact ⟨_, .list ho hc hd ra⟩
  | _, _, .tuple b r, x, rv => by
    obtain ⟨a, vs, e, ⟨o, ho, hc, n, hd⟩, rvs⟩ := b.tup hr rv
    obtain ⟨as, ra⟩ := RdAll.reads hr r rvs
    subst e
    exact ⟨_, .tuple ho hc hd ra⟩
theorem RdAll.reads {ad : List Addr} {h : Heap} (hr : HR C ad σ h) : ∀ {vs : List V} {ds : List PyData}, RdAll C σ vs ds → ∀ {xs : List Value}, RVs ad vs xs → ∃ as, ReadsAll h xs ds as
  | _, _, .nil, _, .nil => ⟨_, .nil⟩
  | _, _, .cons r rs, _, .cons v vs => by
    obtain ⟨as, ra⟩ := Rd.reads hr r v
    obtain ⟨bs, rb⟩ := RdAll.reads hr rs vs
    exact ⟨_, .cons ra rb⟩
end
theorem eq_dd {a b : V} {da db : PyData} (ra : Rd C σ a da) (rb : Rd C σ b db) (ha : SeqAt.shaped da = true) (hb : SeqAt.shaped db = true) (hu : A.units + 64 < cLine) (h : Q (.bool (PyData.eqv da db)) σ) : WOp2 C A (compareOp .Eq) a b σ Q E := by
  refine ⟨?_⟩
  intro ad s x y hr rx ry
  obtain ⟨as, r1⟩ := ra.reads hr rx
  obtain ⟨bs, r2⟩ := rb.reads hr ry
  exact eq_dataH r1 r2 ha hb hu (PE.here (v := .bool _) hr rfl h)
theorem ne_dd {a b : V} {da db : PyData} (ra : Rd C σ a da) (rb : Rd C σ b db) (ha : SeqAt.shaped da = true) (hb : SeqAt.shaped db = true) (hu : A.units + 64 < cLine) (h : Q (.bool (!PyData.eqv da db)) σ) : WOp2 C A (compareOp .NotEq) a b σ Q E := by
  refine ⟨?_⟩
  intro ad s x y hr rx ry
  obtain ⟨as, r1⟩ := ra.reads hr rx
  obtain ⟨bs, r2⟩ := rb.reads hr ry
  exact ne_dataH r1 r2 ha hb hu (PE.here (v := .bool _) hr rfl h)

/- new objects -/
theorem HR.alloc {ad : List Addr} {h : Heap} {o : O} {ob : Obj} (hr : HR C ad σ h) (ro : RO C.w.params ad o ob) : HR C (ad ++ [h.objs.size]) (σ ++ [o]) (h.push ob) := by
  have hf := ro.notFreed
  obtain ⟨hG, hn⟩ := hr.fresh (Nat.le_refl _)
  refine ⟨hr.ok, fun b x e => Heap.get?_push_of_some _ (hr.keep b x e), by simp [hr.len], ?_, ?_, fun a ha => (List.mem_append.mp ha).elim (hr.low a) (fun hm => by rw [List.mem_singleton.mp hm]; exact hr.freshLow (Nat.le_refl _)), ?_⟩
  · refine List.nodup_append.mpr ⟨hr.nd, by simp, ?_⟩
    intro a ha b hb e
    simp only [List.mem_singleton] at hb
    subst hb; subst e; exact hn ha
  · intro a ha
    rcases List.mem_append.mp ha with ha | ha
    · exact hr.off a ha
    · simp only [List.mem_singleton] at ha; subst ha; exact hG
  · intro i x a h1 h2
    by_cases hi : i < σ.length
    · rw [List.getElem?_append_left hi] at h1
      rw [List.getElem?_append_left (by rw [hr.len]; exact hi)] at h2
      obtain ⟨ob', h3, h4⟩ := hr.obj i x a h1 h2
      exact ⟨ob', Heap.get?_push_of_some _ h3, h4.mono⟩
    · have hi' : i = σ.length := by
        have := (List.getElem?_eq_some_iff.mp h1).1
        simp at this; omega
      subst hi'
      rw [List.getElem?_append_right (Nat.le_refl _)] at h1
      rw [List.getElem?_append_right (by rw [hr.len]; exact Nat.le_refl _)] at h2
      simp [hr.len] at h1 h2
      subst h1; subst h2
      exact ⟨ob, Heap.get?_push_size _ hf, ro.mono⟩
theorem Nx.alloc {ad : List Addr} {s : Shared} {o : O} {ob : Obj} (hr : HR C ad σ s.heap) (ro : RO C.w.params ad o ob) : Nx C [] ad s (ad ++ [s.heap.objs.size]) (σ ++ [o]) { s with heap := s.heap.push ob } :=
  ⟨⟨_, s.toks, rfl⟩, ⟨[s.heap.objs.size], rfl, by simp⟩, by simp [Heap.push], fun b x e _ _ => Heap.get?_push_of_some _ e, hr.alloc ro⟩
theorem RV.last {ad : List Addr} {a : Addr} : ∀ {n : Nat}, n = ad.length → RV (ad ++ [a]) (.ref n) (.ref a) := by rintro n rfl; exact ⟨a, by simp, rfl⟩

theorem WE_List {es : List Expr} {pos : Pos} (h : WL C A env es ρ σ (fun vs σ1 => vs.length ≤ sizeLine ∧ Q (.ref σ1.length) (σ1 ++ [.list vs])) E) : WE C A env (.List es pos) ρ σ Q E := by
  refine ⟨?_⟩
  intro ad s hr er
  refine List_ (wpAny_mono (h.run ad s pos hr er) ?_ fun _ _ x => x)
  rintro us s1 ⟨ad1, σ1, vs, n1, r1, hz, h1⟩
  refine wpAny_newObj_type ?_ (by show us.toArray.size ≤ sizeLine; rw [List.size_toArray, ← r1.length]; exact hz)
  exact PE.trans n1 ⟨_, _, .ref σ1.length, Nx.alloc n1.hr (o := .list vs) ⟨_, _, rfl, by simpa using r1⟩, RV.last n1.hr.len.symm, h1⟩
theorem WE_Tuple {es : List Expr} {k : Nat} {pos : Pos} (h : WL C A env es ρ σ (fun vs σ1 => vs.length ≤ sizeLine ∧ Q (.ref σ1.length) (σ1 ++ [.tuple vs])) E) : WE C A env (.Tuple es k pos) ρ σ Q E := by
  refine ⟨?_⟩
  intro ad s hr er
  refine Tuple_ (wpAny_mono (h.run ad s pos hr er) ?_ fun _ _ x => x)
  rintro us s1 ⟨ad1, σ1, vs, n1, r1, hz, h1⟩
  refine wpAny_newObj_type ?_ (by show us.toArray.size ≤ sizeLine; rw [List.size_toArray, ← r1.length]; exact hz)
  exact PE.trans n1 ⟨_, _, .ref σ1.length, Nx.alloc n1.hr (o := .tuple vs) ⟨_, _, rfl, by simpa using r1⟩, RV.last n1.hr.len.symm, h1⟩

/- items -/
def isSliceE : Expr → Bool
  | .Slice .. => true
  | _ => false
theorem slice_not {e : Expr} (h : isSliceE e = false) (o i : Value) : subscripted e false o i = operate [o, i] (getItem o i) := by
  cases e <;> first | rfl | cases h
structure WSub (C : Cx) (A : Around) (value slice : Expr) (a b : V) (σ : AH) (Q : V → AH → Prop) (E : EX) : Prop where
  run : ∀ ad s x y, HR C ad σ s.heap → RV ad a x → RV ad b y → wpAny (model C.prog C.w) A (subscriptTail value slice x y) (PE C ad s Q) E s
theorem WE_Sub {value slice : Expr} {pos : Pos} (h : WE C A env value ρ σ (fun a σ1 => WE C A env slice ρ σ1 (fun b σ2 => WSub C A value slice a b σ2 Q E) E) E) : WE C A env (.Subscript value slice pos) ρ σ Q E := by
  refine ⟨?_⟩
  intro ad s hr er
  refine Subscript_ (wpAny_mono (h.run ad s hr er) ?_ fun _ _ x => x)
  rintro a s1 ⟨ad1, σ1, va, n1, r1, h1⟩
  refine wpAny_mono (h1.run ad1 s1 n1.hr (er.next n1)) ?_ fun _ _ x => x
  rintro b s2 ⟨ad2, σ2, vb, n2, r2, h2⟩
  exact wpAny_mono (h2.run ad2 s2 a b n2.hr (n2.rv r1) r2) (fun u s' p => PE.trans (n1.trans n2) p) fun _ _ x => x
theorem item_list {value slice : Expr} {v : V} {xs : List V} {k : Int} {x : V} (b : ObjAt C σ v (.list xs)) (h0 : 0 ≤ k) (hf : k < 2 ^ 63) (hx : xs[k.toNat]? = some x) (h : Q x σ)
    (hs : isSliceE slice = false := by rfl) : WSub C A value slice v (.int k) σ Q E := by
  refine ⟨?_⟩
  rintro ad s y z hr rv ⟨t, rfl⟩
  obtain ⟨a, vs, rfl, hl, rvs⟩ := b.list hr rv
  obtain ⟨u, hu, ru⟩ := rvs.get hx
  exact tail_any hl.typeIs slot_list_getitem.lookup (wpAny_getItem_list hl h0 hf (by rw [← Array.getElem?_toList]; exact hu) (PE.here hr ru h)) (slice_not hs _ _)
theorem item_tuple {value slice : Expr} {v : V} {xs : List V} {k : Int} {x : V} (b : ObjAt C σ v (.tuple xs)) (h0 : 0 ≤ k) (hf : k < 2 ^ 63) (hx : xs[k.toNat]? = some x) (h : Q x σ)
    (hs : isSliceE slice = false := by rfl) : WSub C A value slice v (.int k) σ Q E := by
  refine ⟨?_⟩
  rintro ad s y z hr rv ⟨t, rfl⟩
  obtain ⟨a, vs, rfl, hl, rvs⟩ := b.tup hr rv
  obtain ⟨u, hu, ru⟩ := rvs.get hx
  obtain ⟨o, ho, hc, n, hd⟩ := id hl
  have hlen : k.toNat < vs.size := by
    have := (List.getElem?_eq_some_iff.mp hu).1
    simpa using this
  exact tail_any ⟨o, ho, hc⟩ F.slot_tuple_getitem.lookup (getItem_tuple ⟨o, ho, hc, n, hd⟩ (by omega) hf (j := k.toNat) (by simp [seqIndex?]; omega) (by rw [← Array.getElem?_toList]; exact hu) (PE.here hr ru h)) (slice_not hs _ _)
end
end Mine

-- part Aw7
set_option autoImplicit false
set_option linter.unusedVariables false
namespace Mine
open PySem PySem.W PyProof.Rows

def Callable (C : Cx) (v : Value) : Prop := ∀ h, (∀ b o, C.G.get? b = some o → h.get? b = some o) → ∃ k, (k = Keeper.frame ∨ k = Keeper.machine ∨ k = Keeper.boundFrame) ∧ Looks (model C.prog C.w) h (keeperOf v) k
theorem callable_builtin {C : Cx} {id : String} : Callable C (.builtin id) := fun h _ => ⟨.machine, .inr (.inl rfl), Looks.of_pure rfl⟩
theorem callable_type {C : Cx} {id : String} : Callable C (.type id) := fun h _ => ⟨.machine, .inr (.inl rfl), Looks.of_pure rfl⟩
theorem callable_K {C : Cx} {K : Frag} {v : Value} (X : K.In C.G) (hk : keepIn K v = true) : Callable C v := fun h k => keeps_K hk h (X.keeps k)

structure WM (C : Cx) (A : Around) (v : V) (name : Str) (σ : AH) (K : Value → List V → AH → Prop) (E : EX) : Prop where
  run : ∀ ad (s : Shared) x pl, HR C ad σ s.heap → RV ad v x → wpAny (model C.prog C.w) A (getMethod x name pl) (fun fx s' => ∃ ad' σ' first, Nx C [] ad s ad' σ' s' ∧ RVs ad' first fx.2 ∧ K fx.1 first σ') E s

section
variable {C : Cx} {A : Around} {env : Env} {ρ : Loc} {σ : AH} {E : EX} {Q : V → AH → Prop}

theorem RVs.append {ad : List Addr} {a b : List V} {x y : List Value} (h : RVs ad a x) (h' : RVs ad b y) : RVs ad (a ++ b) (x ++ y) := by
  induction h with
  | nil => exact h'
  | cons r _ ih => exact .cons r ih

theorem star_cases (es : List Expr) (env : Env) : es = [] ∨ ∃ e r, es = e :: r := by
  cases es with
  | nil => exact .inl rfl
  | cons e r => exact .inr ⟨e, r, rfl⟩

/-- no starred argument -/
def noStar : List Expr → Bool
  | [] => true
  | .Starred _ _ :: _ => false
  | _ :: r => noStar r
theorem noStar_cons {e : Expr} {r : List Expr} (env : Env) (h : noStar (e :: r) = true) : starEach (e :: r) env = (false, eval e env) :: starEach r env ∧ noStar r = true := by
  cases e <;> first | exact ⟨rfl, h⟩ | cases h
theorem noStar_any {pos : Pos} : ∀ {es : List Expr} (env : Env), noStar es = true → (backTo pos (starEach es env)).any (·.1) = false
  | [], _, _ => rfl
  | e :: r, env, h => by
    obtain ⟨h1, h2⟩ := noStar_cons env h
    rw [h1]
    show (false || (backTo pos (starEach r env)).any (·.1)) = false
    rw [noStar_any env h2]; rfl

theorem callWith_gen {f : Value} {fs : List Value} {args : List Expr} {pos : Pos} {s : Shared} {P : Value → Shared → Prop} (hc : Callable C f) (hns : noStar args = true)
    (go : wpAny (model C.prog C.w) A (spliced (backTo pos (starEach args env))) (fun vs s' => (∀ b o, C.G.get? b = some o → s'.heap.get? b = some o) ∧ wpAny (model C.prog C.w) A (call f (fs ++ vs) []) P E s') E s) :
    wpAny (model C.prog C.w) A (callWith pos f fs (backTo pos (starEach args env)) []) P E s := by
  refine callWith_of (P := fun h => ∀ b o, C.G.get? b = some o → h.get? b = some o) (by rw [noStar_any env hns]; rfl) (fun h k => hc h k) ?_
  cases args with
  | nil =>
    have go' : wpAny (model C.prog C.w) A (spliced []) (fun vs s' => (∀ b o, C.G.get? b = some o → s'.heap.get? b = some o) ∧ wpAny (model C.prog C.w) A (call f (fs ++ vs) []) P E s') E s := go
    show wpAny (model C.prog C.w) A (evalArgs f true [] []) _ E s
    unfold evalArgs
    show wpAny _ A (spliced [] >>= _) _ E s
    refine wpAny_bind (wpAny_mono go' (fun vs s' h' => wpAny_bind (wpAny_pure ?_)) fun _ _ x => x)
    refine wpAny_holding ?_
    exact wpAny_bind (wpAny_pure (wpAny_pure h'))
  | cons e r =>
    obtain ⟨h1, h2⟩ := noStar_cons env hns
    rw [h1] at go ⊢
    exact Calls.evalArgs_plain go
theorem callWith_go {f : Value} {first : List V} {fs : List Value} {args : List Expr} {pos : Pos} {ad : List Addr} {s : Shared} (hc : Callable C f) (hns : noStar args = true) (hr : HR C ad σ s.heap) (er : ER C env ρ ad s.heap) (rf : RVs ad first fs)
    (h : WL C A env args ρ σ (fun vs σ2 => WC C A f (first ++ vs) σ2 Q E) E) : wpAny (model C.prog C.w) A (callWith pos f fs (backTo pos (starEach args env)) []) (PE C ad s Q) E s := by
  refine callWith_gen hc hns (wpAny_mono (h.run ad s pos hr er) ?_ fun _ _ x => x)
  rintro us s1 ⟨ad1, σ1, vs, n1, r1, h1⟩
  exact ⟨n1.hr.keep, wpAny_mono (h1.run ad1 s1 _ n1.hr ((n1.rvs rf).append r1)) (fun u s' p => PE.trans n1 p) fun _ _ x => x⟩

theorem WE_call {C : Cx} {l : List (Str × Value)} {id : Str} {p pos : Pos} {args : List Expr} {f : Value} (hx : (id, f) ∈ l) (hc : Callable C f) (h : WL (C.wg l) A env args ρ σ (fun vs σ2 => WC (C.wg l) A f vs σ2 Q E) E) (hns : noStar args = true := by rfl) :
    WE (C.wg l) A env (.Call (.Name id p) args [] pos) ρ σ Q E := by
  refine ⟨?_⟩
  intro ad s hr er
  refine wpAny_Call_Name_kw ?_
  have := (WE_glob (C := C) (A := A) (env := env) (ρ := ρ) (σ := σ) (E := E) (pos := p) (Q := fun v σ1 => v = .k f ∧ σ1 = σ) hx ⟨rfl, rfl⟩).run ad s hr er
  refine wpAny_mono this ?_ fun _ _ x => x
  rintro u s1 ⟨ad1, σ1, v, n1, r1, rfl, rfl⟩
  cases r1
  refine wpAny_mono (callWith_go (first := []) (fs := []) hc hns n1.hr (er.next n1) .nil h) (fun u s' p => PE.trans n1 p) fun _ _ x => x
def plainBase : Expr → Bool
  | .Call .. => false
  | _ => true
theorem noStar_all {pos : Pos} : ∀ {es : List Expr} (env : Env), noStar es = true → (backTo pos (starEach es env)).all (!·.1) = true
  | [], _, _ => rfl
  | e :: r, env, h => by
    obtain ⟨h1, h2⟩ := noStar_cons env h
    rw [h1]
    show (true && (backTo pos (starEach r env)).all (!·.1)) = true
    rw [noStar_all env h2]; rfl
theorem meth_eval {o : Expr} {name : Str} {apos pos : Pos} {args : List Expr} {env : Env} (h1 : plainBase o = true) (h2 : noStar args = true) (h3 : Nat.ble args.length 28 = true) (h4 : (apos.endLine == pos.line) = true) :
    ∃ pl, eval (.Call (.Attribute o name apos) args [] pos) env = (do
      let ov ← eval o env
      standAt apos.atName
      let (f, first) ← holding [ov] (getMethod ov name pl)
      callWith pos f first (backTo pos (starEach args env)) (backToKw pos (keywordEach [] env))) := by
  refine ⟨(do return (← importBound o env).getD true), ?_⟩
  rw [arm_eval_Call]
  have e1 : attributeBase o name env (eval o env) = eval o env := by cases o <;> first | rfl | cases h1
  have e2 : methodCallForm (args.length + ([] : List Keyword).length) (backTo pos (starEach args env)) (backToKw pos (keywordEach [] env)) = true := by
    unfold methodCallForm
    rw [noStar_all env h2]
    have := Nat.le_of_ble_eq_true h3
    simp [backToKw, keywordEach]
    omega
  rw [e1]
  unfold methodCall calleeOf methodCallPos
  rw [e2, h4]
  rfl
theorem WE_meth {o : Expr} {name : Str} {apos pos : Pos} {args : List Expr} (h : WE C A env o ρ σ (fun v σ1 => WM C A v name σ1 (fun f first σ2 => Callable C f ∧ WL C A env args ρ σ2 (fun vs σ3 => WC C A f (first ++ vs) σ3 Q E) E) E) E) (h1 : plainBase o = true := by rfl) (hns : noStar args = true := by rfl)
    (h3 : Nat.ble args.length 28 = true := by rfl) (h4 : (apos.endLine == pos.line) = true := by rfl) :
    WE C A env (.Call (.Attribute o name apos) args [] pos) ρ σ Q E := by
  refine ⟨?_⟩
  intro ad s hr er
  obtain ⟨pl, he⟩ := meth_eval (o := o) (name := name) (env := env) h1 hns h3 h4
  refine methodCall_KW (pl := pl) ?_ he
  refine wpAny_mono (h.run ad s hr er) ?_ fun _ _ x => x
  rintro u s1 ⟨ad1, σ1, v, n1, r1, h1⟩
  refine wpAny_mono (h1.run ad1 s1 u pl n1.hr r1) ?_ fun _ _ x => x
  rintro fx s2 ⟨ad2, σ2, first, n2, r2, hc, h2⟩
  exact wpAny_mono (callWith_go hc hns n2.hr ((er.next n1).next n2) r2 h2) (fun u s' p => PE.trans (n1.trans n2) p) fun _ _ x => x

/- the heap's objects changed -/
theorem HR.set {ad : List Addr} {h h' : Heap} {j : Nat} {a : Addr} {o : O} {ob : Obj} (hr : HR C ad σ h) (hj : ad[j]? = some a) (hs : Heap.SameBut a h h') (ho : h'.get? a = some ob) (ro : RO C.w.params ad o ob) : HR C ad (σ.set j o) h' := by
  refine ⟨hr.ok, fun b x e => (hs.2 b ?_).trans (hr.keep b x e), by simp [hr.len], hr.nd, hr.off, hr.low, fun i x b h1 h2 => ?_⟩
  · rintro rfl; rw [hr.off b (List.mem_of_getElem? hj)] at e; cases e
  · by_cases hij : i = j
    · subst hij
      rw [hj] at h2; cases h2
      have hl : i < σ.length := by have := (List.getElem?_eq_some_iff.mp h1).1; simpa using this
      rw [List.getElem?_set_self hl] at h1; cases h1
      exact ⟨ob, ho, ro⟩
    · rw [List.getElem?_set_ne (Ne.symm hij)] at h1
      obtain ⟨ob', h3, h4⟩ := hr.obj i x b h1 h2
      refine ⟨ob', (hs.2 b ?_).trans h3, h4⟩
      rintro rfl
      exact hij ((List.getElem?_inj (List.getElem?_eq_some_iff.mp h2).1 hr.nd).mp (h2.trans hj.symm))
theorem Nx.set {ad : List Addr} {s : Shared} {h' : Heap} {tk : Nat} {j : Nat} {a : Addr} {o : O} {ob : Obj} (hr : HR C ad σ s.heap) (hj : ad[j]? = some a) (hs : Heap.SameBut a s.heap h') (ho : h'.get? a = some ob) (ro : RO C.w.params ad o ob) :
    Nx C [] ad s ad (σ.set j o) { s with heap := h', toks := tk } :=
  ⟨⟨h', tk, rfl⟩, ⟨[], by simp, by simp⟩, Nat.le_of_eq hs.1.symm, fun b x e hb _ => (hs.2 b fun e' => hb (e' ▸ List.mem_of_getElem? hj)).trans e, hr.set hj hs ho ro⟩

/- list.append -/
theorem WM_append {j : Nat} {xs : List V} {K : Value → List V → AH → Prop} (b : σ[j]? = some (.list xs)) (h : K (.builtin "list.append") [.ref j] σ) : WM C A (.ref j) "append" σ K E := by
  refine ⟨?_⟩
  rintro ad s x pl hr ⟨a, ha, rfl⟩
  obtain ⟨ob, h1, vs, n, e2, h2⟩ := hr.obj j _ a b ha
  subst e2
  exact Calls.getMethod_list_append h1 rfl rfl ⟨ad, σ, [.ref j], Nx.refl hr, .cons ⟨a, ha, rfl⟩ .nil, h⟩
theorem WC_append {j : Nat} {xs : List V} {x : V} (b : σ[j]? = some (.list xs)) (hz : xs.length ≤ sizeLine) (h : Q .none (σ.set j (.list (xs ++ [x])))) : WC C A (.builtin "list.append") [.ref j, x] σ Q E := by
  refine ⟨?_⟩
  rintro ad s us hr (_ | ⟨⟨a, ha, rfl⟩, _ | ⟨r2, _ | _⟩⟩)
  obtain ⟨ob, h1, vs, n, e2, rvs⟩ := hr.obj j _ a b ha
  subst e2
  refine wpAny_list_append_plain ⟨n, h1⟩ (fun h' hp hs => ?_) (by rw [← Array.length_toList, ← rvs.length]; exact hz)
  obtain ⟨n', h3⟩ := hp
  exact ⟨ad, _, .none, Nx.set (o := .list (xs ++ [x])) hr ha hs h3 ⟨_, n', rfl, by rw [Array.toList_push]; exact rvs.append (.cons r2 .nil)⟩, rfl, h⟩

/- built-ins -/
theorem WC_len {v : V} {xs : List V} (b : ObjAt C σ v (.list xs)) (hz : (xs.length : Int) < 2 ^ 63) (h : Q (.int xs.length) σ) : WC C A (.builtin "len") [v] σ Q E := by
  refine ⟨?_⟩
  rintro ad s us hr (_ | ⟨rv, _ | _⟩)
  obtain ⟨a, vs, rfl, hl, rvs⟩ := b.list hr rv
  have e : vs.size = xs.length := by rw [← Array.length_toList, ← rvs.length]
  exact Calls.call_len_list hl (by rw [e]; exact hz) (PE.tok (v := .int xs.length) _ hr ⟨_, by rw [e]⟩ h)
theorem WC_min {i j : Int} (hA : A.handled = none) (h : Q (.int (min i j)) σ) : WC C A (.builtin "min") [.int i, .int j] σ Q E := by
  refine ⟨?_⟩
  rintro ad s us hr (_ | ⟨⟨t, rfl⟩, _ | ⟨⟨u, rfl⟩, _ | _⟩⟩)
  refine wpAny_sz (min_two_ints hA fun h' tk hk hz => ⟨ad, σ, .int (min i j), Nx.keeps hz hr hk, ?_, h⟩)
  by_cases hij : j < i
  · rw [if_pos hij]; exact ⟨u, by rw [Int.min_eq_right (Int.le_of_lt hij)]⟩
  · rw [if_neg hij]; exact ⟨t, by rw [Int.min_eq_left (Int.not_lt.mp hij)]⟩
theorem WC_max {i j : Int} (hA : A.handled = none) (h : Q (.int (max i j)) σ) : WC C A (.builtin "max") [.int i, .int j] σ Q E := by
  refine ⟨?_⟩
  rintro ad s us hr (_ | ⟨⟨t, rfl⟩, _ | ⟨⟨u, rfl⟩, _ | _⟩⟩)
  refine wpAny_sz (max_two_ints hA fun h' tk hk hz => ⟨ad, σ, .int (max i j), Nx.keeps hz hr hk, ?_, h⟩)
  by_cases hij : j > i
  · rw [if_pos hij]; exact ⟨u, by rw [Int.max_eq_right (Int.le_of_lt hij)]⟩
  · rw [if_neg hij]; exact ⟨t, by rw [Int.max_eq_left (Int.not_lt.mp hij)]⟩

/- tuples taken apart -/
structure WAsL (C : Cx) (A : Around) (env : Env) (ts : List Expr) (vs : List V) (ρ : Loc) (σ : AH) (Q : Loc → AH → Prop) (E : EX) : Prop where
  run : ∀ ad (s : Shared) us, HR C ad σ s.heap → ER C env ρ ad s.heap → RVs ad vs us →
    wpAny (model C.prog C.w) A (assignInOrder ((assignEach ts env).map (·.2)) us) (fun _ s' => ∃ ad' σ' ρ', Nx C (fa env) ad s ad' σ' s' ∧ ER C env ρ' ad' s'.heap ∧ Q ρ' σ') E s
theorem WAsL_nil {Q : Loc → AH → Prop} (h : Q ρ σ) : WAsL C A env [] [] ρ σ Q E := by
  refine ⟨?_⟩
  rintro ad s us hr er ⟨⟩
  exact wpAny_pure ⟨ad, σ, ρ, Nx.refl hr, er, h⟩
theorem WAsL_cons {t : Expr} {ts : List Expr} {v : V} {vs : List V} {Q : Loc → AH → Prop} (h : WAs C A env t v ρ σ (fun ρ1 σ1 => WAsL C A env ts vs ρ1 σ1 Q E) E)
    (he : starE t = false := by rfl) : WAsL C A env (t :: ts) (v :: vs) ρ σ Q E := by
  refine ⟨?_⟩
  rintro ad s us hr er (_ | ⟨r, rs⟩)
  rw [assign_not he]
  show wpAny _ A (assignInOrder (assign t env :: _) (_ :: _)) _ E s
  unfold assignInOrder
  refine wpAny_bind (wpAny_holding (wpAny_mono (h.run ad s _ hr er r) ?_ fun _ _ x => x))
  rintro _ s1 ⟨ad1, σ1, ρ1, n1, er1, h1⟩
  refine wpAny_mono (h1.run ad1 s1 _ n1.hr er1 (n1.rvs rs)) ?_ fun _ _ x => x
  rintro _ s2 ⟨ad2, σ2, ρ2, n2, er2, h2⟩
  exact ⟨ad2, σ2, ρ2, n1.trans n2, er2, h2⟩
theorem noStar_asg {e : Expr} {r : List Expr} (env : Env) (h : noStar (e :: r) = true) : assignEach (e :: r) env = (false, assign e env) :: assignEach r env ∧ noStar r = true := by
  cases e <;> first | exact ⟨rfl, h⟩ | cases h
theorem noStar_len (env : Env) : ∀ {ts : List Expr}, noStar ts = true → (assignEach ts env).length = ts.length
  | [], _ => rfl
  | e :: r, h => by
    obtain ⟨h1, h2⟩ := noStar_asg env h
    rw [h1, List.length_cons, List.length_cons, noStar_len env h2]
theorem noStar_idx (env : Env) : ∀ {ts : List Expr}, noStar ts = true → (assignEach ts env).findIdx? (·.1) = none
  | [], _ => rfl
  | e :: r, h => by
    obtain ⟨h1, h2⟩ := noStar_asg env h
    rw [h1, List.findIdx?_cons, noStar_idx env h2]; rfl
theorem WAs_tuple {ts : List Expr} {k : Nat} {p : Pos} {v : V} {vs : List V} {Q : Loc → AH → Prop} (hA : A.handled = none) (b : ObjAt C σ v (.tuple vs)) (h : WAsL C A env ts vs ρ σ Q E)
    (hn : ts.length = vs.length := by rfl) (hst : noStar ts = true := by rfl) : WAs C A env (.Tuple ts k p) v ρ σ Q E := by
  refine ⟨?_⟩
  intro ad s u hr er rv
  obtain ⟨a, us, rfl, hl, rvs⟩ := b.tup hr rv
  rw [arm_assign_Tuple]
  refine wpAny_bind (wpAny_standAt ?_)
  unfold unpack
  have e : (assignEach ts env).length = us.size := by rw [noStar_len env hst, hn, ← Array.length_toList, ← rvs.length]
  rw [e, noStar_idx env hst]
  refine wpAny_bind (wpAny_holding (wpAny_sz (wpAny_unpackItems_tuple hA hl fun h' he hz => ?_)))
  have hk : ∀ b o, s.heap.get? b = some o → h'.get? b = some o := fun b o e => he b o (Nat.ne_of_lt (Heap.lt_size e)) e
  have n1 : Nx C [] ad s ad σ { s with heap := h' } := Nx.keeps (tk := s.toks) hz hr hk
  refine wpAny_mono (h.run ad _ _ n1.hr (er.next n1) rvs) ?_ fun _ _ x => x
  rintro _ s2 ⟨ad2, σ2, ρ2, n2, er2, h2⟩
  exact ⟨ad2, σ2, ρ2, n1.weak.trans n2, er2, h2⟩
def isTupE : Expr → Bool
  | .Tuple .. => true
  | _ => false
theorem stores_not {ts : List Expr} {k : Nat} {p : Pos} {e : Expr} {env : Env} (h : isTupE e = false) : swappedStores [.Tuple ts k p] e env = pure none := by
  cases e <;> first | rfl | cases h
theorem WS_assign_tuple {ts : List Expr} {k : Nat} {p pos : Pos} {e : Expr} {Q : Fl → Loc → AH → Prop} (h : WE C A env e ρ σ (fun v σ1 => WAs C A env (.Tuple ts k p) v ρ σ1 (fun ρ' σ' => Q .next ρ' σ') E) E)
    (hs : isCompE e = false := by rfl) (hw : isTupE e = false := by rfl) : WS C A env (.Assign [.Tuple ts k p] e pos) ρ σ Q E := by
  refine ⟨?_⟩
  intro ad s hr er
  refine Assign_Tuple (wpAny_mono (h.run ad s hr er) ?_ fun _ _ x => x) (show swapsWith e (some (.Tuple ts k p)) pos.line env = pure false from swaps_not hs) (stores_not hw)
  rintro u s1 ⟨ad1, σ1, v, n1, r1, h1⟩
  refine wpAny_mono (h1.run ad1 s1 u n1.hr (er.next n1) r1) ?_ fun _ _ x => x
  rintro _ s2 ⟨ad2, σ2, ρ2, n2, er2, h2⟩
  exact ⟨ad2, σ2, ρ2, .next, n1.weak.trans n2, er2, rfl, h2⟩
theorem WS_expr {e : Expr} {pos : Pos} {Q : Fl → Loc → AH → Prop} (h : WE C A env e ρ σ (fun v σ1 => Q .next ρ σ1) E) (hs : isCompE e = false := by rfl) : WS C A env (.Expr e pos) ρ σ Q E := by
  refine ⟨?_⟩
  intro ad s hr er
  refine wpAny_Expr_any (wpAny_mono (h.run ad s hr er) ?_ fun _ _ x => x) (by unfold interactive; rw [er.kind]; rfl) (swaps_not hs)
  rintro u s1 ⟨ad1, σ1, v, n1, r1, h1⟩
  exact PS.ofE er n1 (fl := .next) rfl h1
/- ranges -/
theorem rangeWk {I : Addr} {a c : Int} {n : Nat} {ad0 : List Addr} (hA : A.handled = none) : Wk C A ad0 I n (fun i => .int (a + i * c)) (fun _ => True) (fun i h => IsRangeIter h I (a + (i : Nat) * c) ((n : Int) - (i : Nat)) c) := by
  refine ⟨?_, ?_, ?_, ?_, fun i s Q E st hQ => wpAny_pyIter_rangeiter st hQ, ?_⟩
  · intro i h h' st e
    show h'.get? I = _
    rw [e]; exact st
  · intro i h st; exact ⟨_, st⟩
  · intro i ad σ' s Q E' hi _ hr _ st hQ
    refine wpAny_pyNext_range_item st (by omega) fun h' hit' hs' => ?_
    refine hQ _ h' _ ⟨_, rfl⟩ ?_ hs'
    have e1 : a + ((i + 1 : Nat) : Int) * c = a + (i : Int) * c + c := by push_cast; rw [Int.add_mul, Int.one_mul, Int.add_assoc]
    have e2 : (n : Int) - ((i + 1 : Nat) : Int) = (n : Int) - (i : Int) - 1 := by push_cast; omega
    rw [e1, e2]; exact hit'
  · intro ad σ' s Q E' _ hr _ st hQ
    exact wpAny_pyNext_range_end hA st (by omega) fun h' he' => hQ h' s.toks fun b o hb e => he' b o hb e
  · intro i s t u Q E' st hq
    exact notOwned st rfl hq
open Builtin.Range (rangeSize) in
/-- range's arguments -/
def rngArgs : List V → Option (Int × Int × Int)
  | [.int b] => some (0, b, 1)
  | [.int a, .int b] => some (a, b, 1)
  | [.int a, .int b, .int c] => some (a, b, c)
  | _ => none
theorem rng_small {a b c : Int} (ha : -(2 ^ 60) ≤ a ∧ a ≤ 2 ^ 60) (hb : -(2 ^ 60) ≤ b ∧ b ≤ 2 ^ 60) (hc : c ≠ 0) (hc' : -(2 ^ 30) < c ∧ c < 2 ^ 30) : Builtin.Range.small a b c = true := by
  have h1 : (0 ≤ Builtin.Range.rangeSize a b c ∧ Builtin.Range.rangeSize a b c ≤ 2 ^ 62) := by
    unfold Builtin.Range.rangeSize
    have d1 : ∀ x y : Int, 0 ≤ x → 0 < y → 0 ≤ x / y ∧ x / y ≤ x := fun x y hx hy => ⟨Int.ediv_nonneg hx (Int.le_of_lt hy), Int.ediv_le_self _ hx⟩
    split
    · split
      · have := d1 (b - a - 1) c (by omega) (by omega); omega
      · omega
    · split
      · have := d1 (a - b - 1) (-c) (by omega) (by omega); omega
      · omega
  unfold Builtin.Range.small Builtin.Range.rangeFitsLong
  simp only [Bool.and_eq_true, decide_eq_true_eq, Bool.or_eq_true, beq_iff_eq]
  refine ⟨⟨⟨⟨by omega, by omega⟩, by omega⟩, by omega⟩, .inr ?_⟩
  split
  · simp only [Bool.and_eq_true, decide_eq_true_eq]; omega
  · simp only [Bool.and_eq_true, decide_eq_true_eq]; omega
theorem WItr_range {C : Cx} {l : List (Str × Value)} {id : Str} {p pos : Pos} {args : List Expr} {K : Nat → (Nat → V) → (AH → Prop) → AH → Prop} (hA : A.handled = none) (hf : (id, Value.type "range") ∈ l)
    (h : WL (C.wg l) A env args ρ σ (fun vs σ1 => ∃ a b c, rngArgs vs = some (a, b, c) ∧ c ≠ 0 ∧ (-(2 ^ 60) ≤ a ∧ a ≤ 2 ^ 60) ∧ (-(2 ^ 60) ≤ b ∧ b ≤ 2 ^ 60) ∧ (-(2 ^ 30) < c ∧ c < 2 ^ 30) ∧ K (Builtin.Range.rangeSize a b c).toNat (fun i => .int (a + i * c)) (fun _ => True) σ1) E)
    (hns : noStar args = true := by rfl) : WItr (C.wg l) A env (.Call (.Name id p) args [] pos) ρ σ K E := by
  refine ⟨?_⟩
  intro ad s hr er
  refine wpAny_Call_Name_kw ?_
  have := (WE_glob (C := C) (A := A) (env := env) (ρ := ρ) (σ := σ) (E := E) (pos := p) (Q := fun v σ1 => v = .k (.type "range") ∧ σ1 = σ) hf ⟨rfl, rfl⟩).run ad s hr er
  refine wpAny_mono this ?_ fun _ _ x => x
  rintro u s1 ⟨ad1, σ1, v, n1, r1, rfl, rfl⟩
  cases r1
  refine callWith_gen (callable_type (C := C.wg l)) hns (wpAny_mono (h.run ad1 s1 pos n1.hr (er.next n1)) ?_ fun _ _ x => x)
  rintro us s2 ⟨ad2, σ2, vs, n2, r2, a, b, c, hv, hc0, ha, hb, hc, hk⟩
  refine ⟨n2.hr.keep, ?_⟩
  have n12 := n1.trans n2
  have sm := rng_small ha hb hc0 hc
  have fin : ∀ (s3 : Shared) (t u v : Tok), s3 = { s2 with heap := s2.heap.push { cls := .type "range", data := .fields #[.int a t, .int b u, .int c v] }, toks := s3.toks } →
      wpAny (model C.prog C.w) A (pyIter (.ref s2.heap.objs.size)) (fun it s2 => ∃ ad' σ' n P Cd I St, it = .ref I ∧ Wk (C.wg l) A ad' I n P Cd St ∧ St 0 s2.heap ∧ s.heap.objs.size ≤ I ∧ I ∉ ad' ∧ Nx (C.wg l) [] ad s ad' σ' s2 ∧ K n P Cd σ') E s3 := by
    intro s3 t u v e3
    have hh : s3.heap = s2.heap.push { cls := .type "range", data := .fields #[.int a t, .int b u, .int c v] } := by rw [e3]
    have n3 : Nx (C.wg l) [] ad2 s2 ad2 σ2 s3 := by rw [e3]; exact Nx.keeps (by simp [Heap.push]) n2.hr fun b o e => Heap.get?_push_of_some _ e
    refine wpAny_pyIter_range (t := t) (u := u) (v := v) (by rw [hh]; exact Heap.get?_push_size _ rfl) sm ?_
    have hsz : s.heap.objs.size ≤ s3.heap.objs.size := Nat.le_trans n12.size n3.size
    have h0 : 0 ≤ Builtin.Range.rangeSize a b c := by
      unfold Builtin.Range.rangeSize
      split
      · split
        · have := Int.ediv_nonneg (a := b - a - 1) (b := c) (by omega) (by omega); omega
        · omega
      · split
        · have := Int.ediv_nonneg (a := a - b - 1) (b := -c) (by omega) (by omega); omega
        · omega
    refine ⟨ad2, σ2, _, _, _, s3.heap.objs.size, _, rfl, rangeWk (a := a) (c := c) (n := (Builtin.Range.rangeSize a b c).toNat) hA, ?_, hsz, (n3.hr.fresh (Nat.le_refl _)).2, (n12.trans n3).trans (Nx.push _ n3.hr), hk⟩
    show (s3.heap.push _).get? _ = _
    rw [Heap.get?_push_size _ rfl]
    have e1 : ((Builtin.Range.rangeSize a b c).toNat : Int) = Builtin.Range.rangeSize a b c := Int.toNat_of_nonneg h0
    simp [e1]
  show wpAny _ A (call (.type "range") us) _ E s2
  have three : (∃ b', vs = [.int b'] ∧ (0, b', 1) = (a, b, c)) ∨ (∃ a' b', vs = [.int a', .int b'] ∧ (a', b', 1) = (a, b, c)) ∨ vs = [.int a, .int b, .int c] := by
    unfold rngArgs at hv
    split at hv
    · exact .inl ⟨_, rfl, Option.some.inj hv⟩
    · exact .inr (.inl ⟨_, _, rfl, Option.some.inj hv⟩)
    · cases hv; exact .inr (.inr rfl)
    · cases hv
  rcases three with ⟨b', rfl, e⟩ | ⟨a', b', rfl, e⟩ | rfl
  · cases e
    rcases r2 with _ | ⟨⟨t, rfl⟩, _ | _⟩
    exact call_range_1 (fin _ _ _ _ rfl)
  · cases e
    rcases r2 with _ | ⟨⟨t, rfl⟩, _ | ⟨⟨t', rfl⟩, _ | _⟩⟩
    exact call_range_2 (fin _ _ _ _ rfl)
  · rcases r2 with _ | ⟨⟨t, rfl⟩, _ | ⟨⟨t', rfl⟩, _ | ⟨⟨t'', rfl⟩, _ | _⟩⟩⟩
    exact call_range_3 hc0 (fin _ _ _ _ rfl) (.inl (PyProof.noPylong_small (by omega)))
end
end Mine

-- part Aw8
set_option autoImplicit false
set_option linter.unusedVariables false
namespace Mine
open PySem PySem.W PyProof.Rows

theorem szAnd {n : Nat} {P : Prop} (h : P) (hn : n ≤ sizeLine := by exact Nat.le_of_ble_eq_true rfl) : n ≤ sizeLine ∧ P := ⟨hn, h⟩
theorem ite_b {b : Bool} {P Q : Prop} (h1 : b = true → P) (h2 : b = false → Q) : if b = true then P else Q := by
  cases b with
  | true => exact h1 rfl
  | false => exact h2 rfl
theorem mul_small {a b : Int} (h1 : -(2 ^ 63) ≤ a) (h2 : a ≤ 2 ^ 63) : IntMulOk a b := IntMulOk.of_left (intBits_le_64 (by omega) (by omega))
theorem mul_small_r {a b : Int} (h1 : -(2 ^ 63) ≤ b) (h2 : b ≤ 2 ^ 63) : IntMulOk a b := IntMulOk.of_right (intBits_le_64 (by omega) (by omega))
theorem RVs.ints {vs : List Value} {ns : List Int} (h : IntsAre vs ns) : RVs [] (ns.map .int) vs := by
  induction h with
  | nil => exact .nil
  | cons => exact .cons ⟨_, rfl⟩ (by assumption)

/-- from a law's call in the abstract to the claim -/
theorem bridge (l : OpenLaw) {C : Cx} {w : World} {s₁ : Shared} {args : List WData} {cl : Str → Option Addr} {mean : ExcName → Option Value} {f a : Addr} (hp : C.prog = l.row.prog) (hw : C.w = w) (hG : C.G = s₁.heap) (ok : C.Ok) (hg : s₁.gens = #[])
    (h : WC C callerA (.ref f) [.k (.ref a)] [] (fun v _ => v = .bool true) (fun _ _ => False)) :
    wpAny (model l.row.prog w) callerA (call (.ref f) [.ref a]) (fun v s' => GoodWG l.row.claim cl mean args s₁ (.ok (.ret v)) s') (fun e s' => GoodWG l.row.claim cl mean args s₁ (.error e) s') s₁ := by
  subst hw
  rw [← hp]
  have hr : HR C [] [] s₁.heap := ⟨ok, (fun b o e => by rw [← hG]; exact e), rfl, List.nodup_nil, (fun _ h => nomatch h), (fun _ h => nomatch h), (fun i o a h => by simp at h)⟩
  refine wpAny_mono (h.run [] s₁ [.ref a] hr (.cons rfl .nil)) ?_ fun _ _ x => x.elim
  rintro u s' ⟨ad', σ', v, n, rv, rfl⟩
  cases rv
  obtain ⟨h', tk, e⟩ := n.eq
  refine GoodW.toG ⟨.inl ⟨.bool true, .bool true, [], rfl, fun cls => rfl, .bool true, ?_, unshared_nil⟩, fun b o e => n.hr.keep b o (by rw [hG]; exact e), by rw [e], by rw [e]; exact hg⟩
  exact postW_of (r := l.row.toRowW) rfl (w_eq_bool (w_res rfl) w_lit) rfl
end Mine

-- part Aw9
set_option autoImplicit false
set_option linter.unusedVariables false
namespace Mine
open PySem PySem.W PyProof.Rows

theorem ite_t {c : Bool} {P Q : Prop} (hc : c = true) (h : P) : if c = true then P else Q := by rw [if_pos hc]; exact h
theorem ite_f {c : Bool} {P Q : Prop} (hc : c = false) (h : Q) : if c = true then P else Q := by rw [if_neg (by rw [hc]; decide)]; exact h

section
variable {C : Cx} {A : Around} {env : Env} {ρ : Loc} {σ : AH} {E : EX} {Q : V → AH → Prop}

theorem fdiv_ii {i j : Int} (hj : j ≠ 0) (h : Q (.int (i.fdiv j)) σ) (hs : j.natAbs < 1073741824 := by first | decide | omega) : WOp2 C A (binaryOp .FloorDiv) (.int i) (.int j) σ Q E := by
  refine ⟨?_⟩
  rintro ad s x y hr ⟨t, rfl⟩ ⟨u, rfl⟩
  exact floordiv_int hj (PE.tok (v := .int (i.fdiv j)) _ hr ⟨_, rfl⟩ h) (.inl (PyProof.noPylong_small hs))
theorem fdiv_lit {i j : Int} (hj : j ≠ 0 ∧ j.natAbs < 1073741824) (h : Q (.int (i.fdiv j)) σ) : WOp2 C A (binaryOp .FloorDiv) (.int i) (.int j) σ Q E := fdiv_ii hj.1 h hj.2
theorem WS_break {pos : Pos} {Q : Fl → Loc → AH → Prop} (h : Q .brk ρ σ) : WS C A env (.Break pos) ρ σ Q E := by
  refine ⟨?_⟩
  intro ad s hr er
  exact wpAny_Break ⟨ad, σ, ρ, .brk, Nx.refl hr, er, rfl, h⟩
theorem WS_continue {pos : Pos} {Q : Fl → Loc → AH → Prop} (h : Q .cont ρ σ) : WS C A env (.Continue pos) ρ σ Q E := by
  refine ⟨?_⟩
  intro ad s hr er
  exact wpAny_Continue ⟨ad, σ, ρ, .cont, Nx.refl hr, er, rfl, h⟩
theorem WC_abs {i : Int} (h : Q (.int (if i < 0 then -i else i)) σ) : WC C A (.builtin "abs") [.int i] σ Q E := by
  refine ⟨?_⟩
  rintro ad s us hr (_ | ⟨⟨t, rfl⟩, _ | _⟩)
  exact call_abs_int fun u tk => PE.tok (v := .int _) tk hr ⟨_, rfl⟩ h

/-- a chain of two, as a test -/
theorem WB_Compare2 {l r r' : Expr} {op op' : CmpOp} {pos : Pos} {Q : Bool → AH → Prop}
    (h : WE C A env l ρ σ (fun a σ1 => WE C A env r ρ σ1 (fun b σ2 => WOp2 C A (compareOp op) a b σ2 (fun c σ3 => WTr C A c σ3 (fun t σ4 =>
      if t then WE C A env r' ρ σ4 (fun b' σ5 => WOp2 C A (compareOp op') b b' σ5 (fun c' σ6 => WTr C A c' σ6 Q E) E) E else Q false σ4) E) E) E) E)
    (hm : isSetE r' = false := by rfl) : WB C A env (.Compare l [op, op'] [r, r'] pos) ρ σ Q E := by
  refine ⟨?_⟩
  intro ad s hr er
  refine isTrue_chain (wpAny_mono (h.run ad s hr er) ?_ fun _ _ x => x) (marks_not hm)
  rintro a s1 ⟨ad1, σ1, va, n1, r1, h1⟩
  refine test_link (wpAny_mono (h1.run ad1 s1 n1.hr (er.next n1)) ?_ fun _ _ x => x)
  rintro b s2 ⟨ad2, σ2, vb, n2, r2, h2⟩
  refine wpAny_mono (h2.run ad2 s2 a b n2.hr (n2.rv r1) r2) ?_ fun _ _ x => x
  rintro c s3 ⟨ad3, σ3, vc, n3, r3, h3⟩
  refine wpAny_mono (h3.run ad3 s3 c n3.hr r3) ?_ fun _ _ x => x
  rintro t s4 ⟨ad4, σ4, n4, h4⟩
  have n14 := ((n1.trans n2).trans n3).trans n4
  cases t with
  | false => exact ⟨ad4, σ4, n14, h4⟩
  | true =>
    refine test_last (wpAny_mono (h4.run ad4 s4 n4.hr (er.next n14)) ?_ fun _ _ x => x)
    rintro b' s5 ⟨ad5, σ5, vb', n5, r5, h5⟩
    refine wpAny_mono (h5.run ad5 s5 b b' n5.hr (n5.rv (n4.rv (n3.rv r2))) r5) ?_ fun _ _ x => x
    rintro c' s6 ⟨ad6, σ6, vc', n6, r6, h6⟩
    exact wpAny_mono (h6.run ad6 s6 c' n6.hr r6) (fun u s' p => PB.trans ((n14.trans n5).trans n6) p) fun _ _ x => x

/-- an item of a list that is written out where it is read: no object of the abstract heap -/
theorem WE_menu {es : List Expr} {slice : Expr} {lp pos : Pos} (h : WL C A env es ρ σ (fun vs σ1 => vs.length ≤ sizeLine ∧ WE C A env slice ρ σ1 (fun b σ2 => ∃ k x, b = .int k ∧ 0 ≤ k ∧ k < 2 ^ 63 ∧ vs[k.toNat]? = some x ∧ Q x σ2) E) E)
    (hs : isSliceE slice = false := by rfl) : WE C A env (.Subscript (.List es lp) slice pos) ρ σ Q E := by
  refine ⟨?_⟩
  intro ad s hr er
  refine Subscript_ (List_ (wpAny_mono (h.run ad s lp hr er) ?_ fun _ _ x => x))
  rintro us s1 ⟨ad1, σ1, vs, n1, r1, hz, h1⟩
  refine wpAny_newObj_type ?_ (by show us.toArray.size ≤ sizeLine; rw [List.size_toArray, ← r1.length]; exact hz)
  have n2 : Nx C [] ad1 s1 ad1 σ1 { s1 with heap := s1.heap.push { cls := .type "list", data := .seq us.toArray } } := Nx.push _ n1.hr
  have n12 := n1.trans n2
  refine wpAny_mono (h1.run ad1 _ n2.hr (er.next n12)) ?_ fun _ _ x => x
  rintro b s3 ⟨ad3, σ3, vb, n3, r3, k, x, rfl, h0, hk, hx, hq⟩
  obtain ⟨t, rfl⟩ := r3
  have hD := (n2.hr.fresh (a := s1.heap.objs.size))
  have hl : s3.heap.IsList s1.heap.objs.size us.toArray := by
    refine ⟨_, n3.same s1.heap.objs.size _ (Heap.get?_push_size _ rfl) ?_ (by simp), rfl, _, rfl⟩
    exact (n1.hr.fresh (Nat.le_refl _)).2
  obtain ⟨u, hu, ru⟩ := r1.get hx
  have n13 := n12.trans n3
  refine tail_any hl.typeIs slot_list_getitem.lookup (wpAny_getItem_list hl h0 hk (by simpa using hu) ⟨ad3, σ3, x, n13, n3.rv (n2.rv ru), hq⟩) (slice_not hs _ _)
end
end Mine

-- part Aw10
set_option autoImplicit false
set_option linter.unusedVariables false
namespace Mine
open PySem PySem.W PyProof.Rows PySem.SeqAt

section
variable {C : Cx} {A : Around} {env : Env} {ρ : Loc} {σ : AH} {E : EX} {Q : V → AH → Prop}

theorem shr_ii {i n : Int} (hn : 0 ≤ n) (h : Q (.int (i.fdiv (2 ^ n.toNat))) σ) : WOp2 C A (binaryOp .RShift) (.int i) (.int n) σ Q E := by
  refine ⟨?_⟩
  rintro ad s x y hr ⟨t, rfl⟩ ⟨u, rfl⟩
  exact rshift_int hn (PE.tok (v := .int (i.fdiv (2 ^ n.toNat))) _ hr ⟨_, rfl⟩ h)

/- in, not in -/
theorem in_list_dd {a b : V} {da : PyData} {xs : List PyData} (ra : Rd C σ a da) (rb : Rd C σ b (.list xs)) (hb : SeqAt.shaped (PyData.list xs) = true) (ha : SeqAt.shaped da = true) (hu : A.units + 65 < cLine)
    (h : Q (.bool (xs.any (fun y => PyData.eqv y da))) σ) : WOp2 C A (compareOp .In) a b σ Q E := by
  refine ⟨?_⟩
  intro ad s x y hr rx ry
  obtain ⟨as, r1⟩ := ra.reads hr rx
  obtain ⟨bs, r2⟩ := rb.reads hr ry
  exact in_list_reads r2 r1 (canLay_of_shaped hb) (canLay_of_shaped ha) (room_in_shaped ha hu) (PE.here (v := .bool _) hr rfl h)
theorem nin_list_dd {a b : V} {da : PyData} {xs : List PyData} (ra : Rd C σ a da) (rb : Rd C σ b (.list xs)) (hb : SeqAt.shaped (PyData.list xs) = true) (ha : SeqAt.shaped da = true) (hu : A.units + 65 < cLine)
    (h : Q (.bool (!xs.any (fun y => PyData.eqv y da))) σ) : WOp2 C A (compareOp .NotIn) a b σ Q E := by
  refine ⟨?_⟩
  intro ad s x y hr rx ry
  obtain ⟨as, r1⟩ := ra.reads hr rx
  obtain ⟨bs, r2⟩ := rb.reads hr ry
  exact notIn_list_reads r2 r1 (canLay_of_shaped hb) (canLay_of_shaped ha) (room_in_shaped ha hu) (PE.here (v := .bool _) hr rfl h)
theorem in_tuple_dd {a b : V} {da : PyData} {xs : List PyData} (ra : Rd C σ a da) (rb : Rd C σ b (.tuple xs)) (hb : SeqAt.shaped (PyData.tuple xs) = true) (ha : SeqAt.shaped da = true) (hu : A.units + 65 < cLine)
    (h : Q (.bool (xs.any (fun y => PyData.eqv y da))) σ) : WOp2 C A (compareOp .In) a b σ Q E := by
  refine ⟨?_⟩
  intro ad s x y hr rx ry
  obtain ⟨as, r1⟩ := ra.reads hr rx
  obtain ⟨bs, r2⟩ := rb.reads hr ry
  exact in_tuple_reads r2 r1 (canLay_of_shaped hb) (canLay_of_shaped ha) (room_in_shaped ha hu) (PE.here (v := .bool _) hr rfl h)
theorem nin_tuple_dd {a b : V} {da : PyData} {xs : List PyData} (ra : Rd C σ a da) (rb : Rd C σ b (.tuple xs)) (hb : SeqAt.shaped (PyData.tuple xs) = true) (ha : SeqAt.shaped da = true) (hu : A.units + 65 < cLine)
    (h : Q (.bool (!xs.any (fun y => PyData.eqv y da))) σ) : WOp2 C A (compareOp .NotIn) a b σ Q E := by
  refine ⟨?_⟩
  intro ad s x y hr rx ry
  obtain ⟨as, r1⟩ := ra.reads hr rx
  obtain ⟨bs, r2⟩ := rb.reads hr ry
  exact notIn_tuple_reads r2 r1 (canLay_of_shaped hb) (canLay_of_shaped ha) (room_in_shaped ha hu) (PE.here (v := .bool _) hr rfl h)

/- an item of a dict of the top -/
theorem item_gdict {value slice : Expr} {K : Frag} {a : Addr} {es : Array DictEntry} {n : Nat} {x : Str} {v : Value} (X : K.In C.G) (hl : K.lookup a = some ⟨.type "dict", none, .dict es n, #[]⟩) (hk : KeysLit C.w.params es.toList)
    (e : nsIn K a x = some (some v)) (h : Q (.k v) σ) (hs : isSliceE slice = false := by rfl) : WSub C A value slice (.k (.ref a)) (.str x) σ Q E := by
  refine ⟨?_⟩
  rintro ad s y z hr rfl ⟨t, rfl⟩
  have hm := mapOf_K (prog := C.prog) (X.keeps hr.keep) hl hk
  exact tail_any hm.typeIs slot_dict_getitem.lookup (wpAny_getItem_of (strKind_is C.prog C.w x t) hm (find_K hl e) (PE.tok (v := .k v) _ hr rfl h)) (slice_not hs _ _)

/- slices of lists -/
def pickV {α : Type} (xs : List α) (lo hi st : Option Int) : List α :=
  (sliceRange (sliceBounds lo hi st xs.length).1 (sliceBounds lo hi st xs.length).2.1 (sliceBounds lo hi st xs.length).2.2).filterMap (xs[·]?)
theorem RVs.none_of {ad : List Addr} {v : List V} {x : List Value} (h : RVs ad v x) {i : Nat} (e : v[i]? = none) : x[i]? = none := by
  rw [List.getElem?_eq_none_iff] at e ⊢
  rw [← h.length]; exact e
theorem RVs.places {ad : List Addr} {v : List V} {x : List Value} (h : RVs ad v x) : ∀ js : List Nat, RVs ad (js.filterMap (v[·]?)) (js.filterMap (x[·]?))
  | [] => .nil
  | j :: js => by
    have ih := h.places js
    cases hn : v[j]? with
    | some n =>
      obtain ⟨u, hv, r⟩ := h.get hn
      simp only [List.filterMap_cons, hn, hv]
      exact .cons r ih
    | none =>
      simp only [List.filterMap_cons, hn, h.none_of hn]
      exact ih
theorem RVs.pick {ad : List Addr} {v : List V} {x : Array Value} (h : RVs ad v x.toList) (lo hi st : Option Int) : RVs ad (pickV v lo hi st) (slicePick x lo hi st).toList := by
  have e : (slicePick x lo hi st).toList = (sliceRange (sliceBounds lo hi st v.length).1 (sliceBounds lo hi st v.length).2.1 (sliceBounds lo hi st v.length).2.2).filterMap (x.toList[·]?) := by
    have := h.length
    simp only [Array.length_toList] at this
    simp [slicePick, this]
  rw [e]
  exact h.places _
theorem exInt {i : Int} {P : Int → Prop} (h : P i) : ∃ j, V.int i = V.int j ∧ P j := ⟨i, rfl, h⟩
theorem ObjAt.new {xs : O} : ∀ {n : Nat}, n = σ.length → ObjAt C (σ ++ [xs]) (.ref n) xs := by rintro n rfl; show (σ ++ [xs])[σ.length]? = _; simp
structure WO (C : Cx) (A : Around) (env : Env) (e : Option Expr) (ρ : Loc) (σ : AH) (Q : Option Int → AH → Prop) (E : EX) : Prop where
  run : ∀ ad (s : Shared), HR C ad σ s.heap → ER C env ρ ad s.heap → wpAny (model C.prog C.w) A (evalPart e env) (fun u s' => ∃ ad' σ' k, Nx C [] ad s ad' σ' s' ∧ IsPart u k ∧ Q k σ') E s
theorem WO_none {Q : Option Int → AH → Prop} (h : Q none σ) : WO C A env none ρ σ Q E := ⟨fun ad s hr er => wpAny_pure ⟨ad, σ, none, Nx.refl hr, .none, h⟩⟩
theorem WO_some {Q : Option Int → AH → Prop} {e : Expr} (h : WE C A env e ρ σ (fun v σ1 => ∃ i, v = .int i ∧ Q (some i) σ1) E) : WO C A env (some e) ρ σ Q E := by
  refine ⟨?_⟩
  intro ad s hr er
  rw [evalPart_some]
  refine wpAny_mono (h.run ad s hr er) ?_ fun _ _ x => x
  rintro u s1 ⟨ad1, σ1, v, n1, r1, i, rfl, h1⟩
  obtain ⟨t, rfl⟩ := r1
  exact ⟨ad1, σ1, some i, n1, .int _ _, h1⟩
theorem sub_ops (lo hi st : Option Expr) (p : Pos) (o i : Value) : ∃ ops, subscripted (.Slice lo hi st p) false o i = operate ops (getItem o i) := by
  cases st
  · exact ⟨[i, o], rfl⟩
  · exact ⟨[o, i], rfl⟩
theorem WE_slice {value : Expr} {lo hi st : Option Expr} {p pos : Pos} (h : WE C A env value ρ σ (fun v σ1 => WO C A env lo ρ σ1 (fun l σ2 => WO C A env hi ρ σ2 (fun u σ3 => WO C A env st ρ σ3 (fun k σ4 =>
      ∃ xs, ObjAt C σ4 v (.list xs) ∧ k ≠ some 0 ∧ xs.length ≤ sizeLine ∧ Q (.ref σ4.length) (σ4 ++ [.list (pickV xs l u k)])) E) E) E) E) : WE C A env (.Subscript value (.Slice lo hi st p) pos) ρ σ Q E := by
  refine ⟨?_⟩
  intro ad s hr er
  refine Subscript_ (wpAny_mono (h.run ad s hr er) ?_ fun _ _ x => x)
  rintro a s1 ⟨ad1, σ1, va, n1, r1, h1⟩
  refine wpAny_Slice (wpAny_mono (h1.run ad1 s1 n1.hr (er.next n1)) ?_ fun _ _ x => x)
  rintro l s2 ⟨ad2, σ2, kl, n2, p2, h2⟩
  refine wpAny_mono (h2.run ad2 s2 n2.hr ((er.next n1).next n2)) ?_ fun _ _ x => x
  rintro u s3 ⟨ad3, σ3, ku, n3, p3, h3⟩
  refine wpAny_mono (h3.run ad3 s3 n3.hr (((er.next n1).next n2).next n3)) ?_ fun _ _ x => x
  rintro k s4 ⟨ad4, σ4, kk, n4, p4, xs, hb, h0, hz, h4⟩
  have n14 := (n1.trans n2).trans (n3.trans n4)
  have n24 := n2.trans (n3.trans n4)
  obtain ⟨b, vs, rfl, hl, rvs⟩ := hb.list n4.hr (n24.rv r1)
  obtain ⟨ops, hops⟩ := sub_ops lo hi st p (.ref b) (.ref s4.heap.objs.size)
  have np := Nx.push (C := C) (s := s4) { cls := .type "slice", data := .fields #[l, u, k] } n4.hr
  refine tail_any (Heap.IsList.typeIs (s := { s4 with heap := s4.heap.push { cls := .type "slice", data := .fields #[l, u, k] } }) (hl.push _)) slot_list_getitem.lookup
    (wpAny_getItem_list_slice (hl.push _) (Heap.IsSliceOf.new ..) p2 p3 p4 h0 ?_ (by rw [← Array.length_toList, ← rvs.length]; exact hz)) hops
  have na := Nx.alloc (o := .list (pickV xs kl ku kk)) np.hr ⟨_, 0, rfl, rvs.pick kl ku kk⟩
  exact PE.trans (n14.trans np) ⟨_, _, .ref σ4.length, na, RV.last np.hr.len.symm, h4⟩

/- list(x) -/
theorem HR.adopt {ad : List Addr} {h h' : Heap} {o : O} {ob : Obj} {a : Addr} (hr : HR C ad σ h) (hk : ∀ b o, h.get? b = some o → h'.get? b = some o) (ha : h.objs.size ≤ a) (hn : h'.get? a = some ob) (ro : RO C.w.params ad o ob) : HR C (ad ++ [a]) (σ ++ [o]) h' := by
  obtain ⟨hG, hn'⟩ := hr.fresh ha
  refine ⟨hr.ok, fun b x e => hk _ _ (hr.keep b x e), by simp [hr.len], ?_, ?_, fun a1 ha1 => (List.mem_append.mp ha1).elim (hr.low a1) (fun hm => by rw [List.mem_singleton.mp hm]; exact hr.freshLow ha), ?_⟩
  · refine List.nodup_append.mpr ⟨hr.nd, by simp, ?_⟩
    intro a1 ha1 b1 hb1 e
    simp only [List.mem_singleton] at hb1
    subst hb1; subst e; exact hn' ha1
  · intro a1 ha1
    rcases List.mem_append.mp ha1 with ha1 | ha1
    · exact hr.off a1 ha1
    · simp only [List.mem_singleton] at ha1; subst ha1; exact hG
  · intro i x a1 h1 h2
    by_cases hi : i < σ.length
    · rw [List.getElem?_append_left hi] at h1
      rw [List.getElem?_append_left (by rw [hr.len]; exact hi)] at h2
      obtain ⟨ob', h3, h4⟩ := hr.obj i x a1 h1 h2
      exact ⟨ob', hk _ _ h3, h4.mono⟩
    · have hi' : i = σ.length := by
        have := (List.getElem?_eq_some_iff.mp h1).1
        simp at this; omega
      subst hi'
      rw [List.getElem?_append_right (Nat.le_refl _)] at h1
      rw [List.getElem?_append_right (by rw [hr.len]; exact Nat.le_refl _)] at h2
      simp [hr.len] at h1 h2
      subst h1; subst h2
      exact ⟨ob, hn, ro.mono⟩
theorem WC_list {v : V} {xs : List V} (b : ObjAt C σ v (.list xs)) (hz : xs.length ≤ sizeLine) (h : Q (.ref σ.length) (σ ++ [.list xs])) : WC C A (.type "list") [v] σ Q E := by
  refine ⟨?_⟩
  rintro ad s us hr (_ | ⟨rv, _ | _⟩)
  obtain ⟨a, vs, rfl, hl, rvs⟩ := b.list hr rv
  obtain ⟨o, ho, hc, n, hd⟩ := id hl
  refine wpAny_sz (call_list_seq a (.inl rfl) ho hc hd (fun h' c' hk hn hsz => ?_) (by rw [← Array.length_toList, ← rvs.length]; exact hz))
  have hnn := hr.fresh (Nat.le_refl _)
  refine ⟨ad ++ [s.heap.objs.size], σ ++ [.list xs], .ref σ.length, ⟨⟨h', s.toks, rfl⟩, ⟨[s.heap.objs.size], rfl, by simp⟩, hsz, fun b o e _ _ => hk b o e, ?_⟩, RV.last hr.len.symm, h⟩
  exact HR.adopt hr hk (Nat.le_refl _) hn ⟨vs, c', rfl, rvs⟩
end
end Mine

-- part Aw11
set_option autoImplicit false
set_option linter.unusedVariables false
namespace Mine
open PySem PySem.W PyProof.Rows

def relab (ns : List (Str × NameKind)) : List (Str × NameKind) := ns.map fun p => if p.2 == .free then (p.1, .cell) else p
def clOf (env : Env) : List (Str × NameKind) → List (Str × Addr) → List (Str × Addr)
  | [], cs => cs
  | p :: r, cs => clOf env r (if p.2 == .free then (p.1, (env.cells.lookup p.1).getD 0) :: cs else cs)
theorem closure_of {env : Env} {sc : Scope} (h : ∀ n, (n, NameKind.free) ∈ sc.names → (env.cells.lookup n).isSome = true) : closureFor sc env = pure (clOf env sc.names []) := by
  simp only [closureFor]
  generalize sc.names = ns at h ⊢
  generalize ([] : List (Str × Addr)) = cs
  induction ns generalizing cs with
  | nil => rfl
  | cons p r ih =>
    obtain ⟨n, k⟩ := p
    have ihr := fun cs => ih (fun n hn => h n (List.mem_cons_of_mem _ hn)) cs
    rw [List.forIn_cons]
    by_cases hk : (k == NameKind.free) = true
    · have hk' : k = .free := by simpa using hk
      subst hk'
      have hn := h n List.mem_cons_self
      obtain ⟨c, hc⟩ := Option.isSome_iff_exists.mp hn
      have e1 : cellOf env n = pure c := by unfold cellOf; rw [hc]
      rw [if_pos hk, e1]
      have := ihr ((n, c) :: cs)
      simpa [clOf, hc] using this
    · rw [if_neg hk]
      have := ihr cs
      simpa [clOf, hk] using this

theorem clOf_mem {env : Env} : ∀ {ns : List (Str × NameKind)} {cs : List (Str × Addr)}, (∀ n, (n, NameKind.free) ∈ ns → (env.cells.lookup n).isSome = true) → (∀ p ∈ cs, env.cells.lookup p.1 = some p.2) → ∀ p ∈ clOf env ns cs, env.cells.lookup p.1 = some p.2
  | [], _, _, h, p, hp => h p hp
  | q :: r, cs, h0, h, p, hp => by
    refine clOf_mem (ns := r) (fun n hn => h0 n (List.mem_cons_of_mem _ hn)) ?_ p hp
    obtain ⟨n, k⟩ := q
    split
    · rename_i hk
      have hk' : k = .free := by simpa using hk
      subst hk'
      obtain ⟨c, hc⟩ := Option.isSome_iff_exists.mp (h0 n List.mem_cons_self)
      intro p hp
      rcases List.mem_cons.mp hp with rfl | hp
      · simp [hc]
      · exact h p hp
    · exact h
theorem lookup_cons_isSome {α : Type} {y : Str} {p : Str × α} {cs : List (Str × α)} (h : (cs.lookup y).isSome = true) : ((p :: cs).lookup y).isSome = true := by
  rw [List.lookup_cons]
  split
  · rfl
  · exact h
theorem clOf_some {env : Env} {y : Str} : ∀ {ns : List (Str × NameKind)} {cs : List (Str × Addr)}, ((y, NameKind.free) ∈ ns ∨ (cs.lookup y).isSome = true) → ((clOf env ns cs).lookup y).isSome = true
  | [], _, h => by
    rcases h with h | h
    · cases h
    · exact h
  | q :: r, cs, h => by
    refine clOf_some (ns := r) ?_
    rcases h with h | h
    · rcases List.mem_cons.mp h with e | h
      · subst e; right; simp [List.lookup_cons]
      · exact .inl h
    · right
      split
      · exact lookup_cons_isSome h
      · exact h
theorem mem_of_lookup {α : Type} {y : Str} : ∀ {cs : List (Str × α)} {c : α}, cs.lookup y = some c → (y, c) ∈ cs
  | [], _, h => by cases h
  | (n, d) :: r, c, h => by
    rw [List.lookup_cons] at h
    split at h
    · rename_i e
      have : y = n := by simpa using e
      cases h; subst this; exact List.mem_cons_self
    · exact List.mem_cons_of_mem _ (mem_of_lookup h)
theorem relab_lookup {y : Str} : ∀ {ns : List (Str × NameKind)} {k : NameKind}, ns.lookup y = some k → (relab ns).lookup y = some (if k == .free then .cell else k)
  | [], _, h => by cases h
  | (n, d) :: r, k, h => by
    have ih := fun k => @relab_lookup y r k
    rw [List.lookup_cons] at h
    show List.lookup y ((if (d == NameKind.free) = true then (n, NameKind.cell) else (n, d)) :: relab r) = _
    by_cases hd : (d == NameKind.free) = true
    · rw [if_pos hd, List.lookup_cons]
      split at h
      · cases h; simp [*]
      · simp [*]
    · rw [if_neg hd, List.lookup_cons]
      split at h
      · cases h; simp [*]
      · simp [*]
/-- the comprehension's names are as wished -/
def compOk (onames : List (Str × NameKind)) (sc : Scope) (x : Str) (capt gl : List Str) : Bool :=
  sc.names.all (fun p => p.2 != .cell && (p.2 != .local || sc.names.lookup p.1 == some .local) && (p.2 != .free || (capt.contains p.1 && onames.lookup p.1 == some .cell)))
  && sc.names.lookup x == some .local && nmOk x && !capt.contains x
  && capt.all (fun y => nmOk y && sc.names.lookup y == some .free)
  && gl.all (fun y => nmOk y && sc.names.lookup y == some .globalImplicit)
structure CompOk (onames : List (Str × NameKind)) (sc : Scope) (x : Str) (capt gl : List Str) : Prop where
  nocell : ∀ y ∈ sc.names, y.2 ≠ .cell
  locs : ∀ y ∈ sc.names, y.2 = .local → sc.names.lookup y.1 = some .local
  free : ∀ n, (n, NameKind.free) ∈ sc.names → n ∈ capt ∧ onames.lookup n = some .cell
  xl : sc.names.lookup x = some .local
  xn : nmOk x = true
  xc : x ∉ capt
  cap : ∀ y ∈ capt, nmOk y = true ∧ sc.names.lookup y = some .free
  glo : ∀ y ∈ gl, nmOk y = true ∧ sc.names.lookup y = some .globalImplicit
theorem compOk.ok {onames : List (Str × NameKind)} {sc : Scope} {x : Str} {capt gl : List Str} (h : compOk onames sc x capt gl = true) : CompOk onames sc x capt gl := by
  unfold compOk at h
  simp only [Bool.and_eq_true, List.all_eq_true, Bool.or_eq_true, bne_iff_ne, beq_iff_eq, Bool.not_eq_true', List.contains_eq_mem, decide_eq_true_eq, decide_eq_false_iff_not] at h
  obtain ⟨⟨⟨⟨⟨h1, h2⟩, h3⟩, h4⟩, h5⟩, h6⟩ := h
  refine ⟨fun y hy => (h1 y hy).1.1, fun y hy e => ?_, fun n hn => ?_, h2, h3, h4, h5, h6⟩
  · exact ((h1 y hy).1.2).resolve_left fun h => h e
  · exact ((h1 _ hn).2).resolve_left fun h => h rfl

section
variable {C : Cx} {A : Around} {env : Env} {ρ : Loc} {σ : AH} {E : EX} {Q : V → AH → Prop}
theorem HR.own {ad : List Addr} {h : Heap} {o : O} {ob : Obj} {a : Addr} (hr : HR C ad σ h) (hn : h.get? a = some ob) (hG : C.G.get? a = none) (hn' : a ∉ ad) (hs : a ≠ sysModules) (ro : RO C.w.params ad o ob) : HR C (ad ++ [a]) (σ ++ [o]) h := by
  refine ⟨hr.ok, fun b x e => (hr.keep b x e), by simp [hr.len], ?_, ?_, fun a1 ha1 => (List.mem_append.mp ha1).elim (hr.low a1) (fun hm => by rw [List.mem_singleton.mp hm]; exact hs), ?_⟩
  · refine List.nodup_append.mpr ⟨hr.nd, by simp, ?_⟩
    intro a1 ha1 b1 hb1 e
    simp only [List.mem_singleton] at hb1
    subst hb1; subst e; exact hn' ha1
  · intro a1 ha1
    rcases List.mem_append.mp ha1 with ha1 | ha1
    · exact hr.off a1 ha1
    · simp only [List.mem_singleton] at ha1; subst ha1; exact hG
  · intro i x a1 h1 h2
    by_cases hi : i < σ.length
    · rw [List.getElem?_append_left hi] at h1
      rw [List.getElem?_append_left (by rw [hr.len]; exact hi)] at h2
      obtain ⟨ob', h3, h4⟩ := hr.obj i x a1 h1 h2
      exact ⟨ob', h3, h4.mono⟩
    · have hi' : i = σ.length := by
        have := (List.getElem?_eq_some_iff.mp h1).1
        simp at this; omega
      subst hi'
      rw [List.getElem?_append_right (Nat.le_refl _)] at h1
      rw [List.getElem?_append_right (by rw [hr.len]; exact Nat.le_refl _)] at h2
      simp [hr.len] at h1 h2
      subst h1; subst h2
      exact ⟨ob, hn, ro.mono⟩

/-- the tests of a comprehension -/
structure WIf (C : Cx) (A : Around) (env : Env) (r : Bool) (ifs : List Expr) (ρ : Loc) (σ : AH) (Q : Bool → AH → Prop) (E : EX) : Prop where
  run : ∀ ad (s : Shared), HR C ad σ s.heap → ER C env ρ ad s.heap → wpAny (model C.prog C.w) A (forIn ifs r fun c r => if r = true then do let ok ← isTrue c env (eval c env); pure (ForInStep.yield ok) else pure (ForInStep.yield r)) (PB C ad s Q) E s
theorem WIf_nil {r : Bool} {Q : Bool → AH → Prop} (h : Q r σ) : WIf C A env r [] ρ σ Q E := ⟨fun ad s hr er => wpAny_pure ⟨ad, σ, Nx.refl hr, h⟩⟩

theorem WIf_true {c : Expr} {r : List Expr} {Q : Bool → AH → Prop} (h : WB C A env c ρ σ (fun b σ1 => WIf C A env b r ρ σ1 Q E) E) : WIf C A env true (c :: r) ρ σ Q E := by
  refine ⟨?_⟩
  intro ad s hr er
  rw [List.forIn_cons]
  refine wpAny_bind ?_
  rw [if_pos rfl]
  refine wpAny_bind (wpAny_mono (h.run ad s hr er) ?_ fun _ _ x => x)
  rintro b s1 ⟨ad1, σ1, n1, h1⟩
  refine wpAny_pure ?_
  refine wpAny_mono (h1.run ad1 s1 n1.hr (er.next n1)) ?_ fun _ _ x => x
  rintro b2 s2 ⟨ad2, σ2, n2, h2⟩
  exact ⟨ad2, σ2, n1.trans n2, h2⟩
theorem WIf_false {c : Expr} {r : List Expr} {Q : Bool → AH → Prop} (h : WIf C A env false r ρ σ Q E) : WIf C A env false (c :: r) ρ σ Q E := by
  refine ⟨?_⟩
  intro ad s hr er
  rw [List.forIn_cons]
  refine wpAny_bind ?_
  rw [if_neg (by decide)]
  exact wpAny_pure (h.run ad s hr er)

theorem Nx.toWg {l l2 : List (Str × Value)} {ch ad ad' : List Addr} {σ' : AH} {s s' : Shared} (n : Nx (C.wg l2) ch ad s ad' σ' s') (ok : (C.wg l).Ok) : Nx (C.wg l) ch ad s ad' σ' s' :=
  ⟨n.eq, n.pre, n.size, n.same, ⟨ok, n.hr.keep, n.hr.len, n.hr.nd, n.hr.off, n.hr.low, n.hr.obj⟩⟩
/-- a name's meaning in the globals or the built-ins -/
def GloIs (C : Cx) (p : Str × Value) : Prop := C.mg p.1 = some p.2 ∨ (C.mg p.1 = none ∧ C.mb p.1 = some p.2)
theorem HR.toWg {l l2 : List (Str × Value)} {ad : List Addr} {h : Heap} (hr : HR (C.wg l) ad σ h) (hl : ∀ p ∈ l2, p ∈ l ∨ GloIs C p) : HR (C.wg l2) ad σ h :=
  ⟨⟨hr.ok.gob, hr.ok.g, hr.ok.b, fun x v hx => (hl _ hx).elim (hr.ok.glo x v) (fun z => z), hr.ok.lim⟩, hr.keep, hr.len, hr.nd, hr.off, hr.low, hr.obj⟩

/-- the env within a comprehension -/
theorem comp_er {l l2 : List (Str × Value)} {onames : List (Str × NameKind)} {sc : Scope} {x : Str} {capt : Loc} {ad : List Addr} {h : Heap} {Cl : Addr} {m : Str → Option Value} {v : V} {u : Value} (hkn : Kn env onames)
    (ok : CompOk onames sc x (capt.map (·.1)) (l2.map (·.1))) (hkind : sc.kind = .function) (hnd : (capt.map (·.1)).Nodup) (hcap : ∀ p ∈ capt, p ∈ ρ) (er : ER (C.wg l) env ρ ad h)
    (hn : h.Ns Cl m) (hu : m x = some u) (rv : RV ad v u) (hG : C.G.get? Cl = none) (had : Cl ∉ ad) (hCl : Cl ∉ fa env) (hlt : Cl < h.objs.size) :
    ER (C.wg l2) (compEnvC sc (clOf env sc.names []) Cl env) ((x, some v) :: capt) ad h ∧ Kn (compEnvC sc (clOf env sc.names []) Cl env) (relab sc.names) := by
  have hcell : ∀ n, (n, NameKind.free) ∈ sc.names → env.kindOf n = some .cell := fun n hn => hkn n _ (ok.free n hn).2
  have hsome : ∀ n, (n, NameKind.free) ∈ sc.names → (env.cells.lookup n).isSome = true := by
    intro n hn
    obtain ⟨p, hp, rfl⟩ := List.mem_map.mp (ok.free n hn).1
    rcases er.kd p.1 p.2 (hcap p hp) with e | ⟨_, e⟩
    · rw [hcell _ hn] at e; cases e
    · exact e
  have hmem := clOf_mem (env := env) (ns := sc.names) (cs := []) hsome (by simp)
  have hlk : ∀ y c, (clOf env sc.names []).lookup y = some c → env.cells.lookup y = some c := fun y c e => hmem (y, c) (mem_of_lookup e)
  have relabE : (relabel sc env).names = relab sc.names := by
    show List.map _ _ = List.map _ _
    refine List.map_congr_left fun p hp => ?_
    obtain ⟨n, k⟩ := p
    by_cases hk : (k == NameKind.free) = true
    · have hk' : k = .free := by simpa using hk
      subst hk'
      simp [hcell n hp, er.kind]
    · simp [hk]
  have kn : Kn (compEnvC sc (clOf env sc.names []) Cl env) (relab sc.names) := by
    intro y k e
    show (relabel sc env).names.lookup y = _
    rw [relabE]; exact e
  have kf : ∀ y ∈ capt.map (·.1), (compEnvC sc (clOf env sc.names []) Cl env).kindOf y = some .cell := fun y hy => kn y _ (relab_lookup (ok.cap y hy).2)
  refine ⟨⟨hkind, er.glob, er.blt, ?_, ?_, ⟨m, hn, ?_⟩, ?_, ?_, ?_, ?_, ?_, ?_, ?_⟩, kn⟩
  · exact List.nodup_cons.mpr ⟨ok.xc, hnd⟩
  · intro y w hy
    rcases List.mem_cons.mp hy with e | hy
    · cases e; exact .inl (kn x _ (relab_lookup ok.xl))
    · have hy' : y ∈ capt.map (·.1) := List.mem_map.mpr ⟨_, hy, rfl⟩
      exact .inr ⟨.inl (kf y hy'), clOf_some (.inl (mem_of_lookup (ok.cap y hy').2))⟩
  · intro y w hy hk
    rcases List.mem_cons.mp hy with e | hy
    · cases e; exact ⟨u, hu, rv⟩
    · rw [kf y (List.mem_map.mpr ⟨_, hy, rfl⟩)] at hk; cases hk
  · intro y c hc
    obtain ⟨o, w, h1, h2, h3⟩ := er.cell y c (hlk y c hc)
    refine ⟨o, w, h1, h2, fun z hz hk => ?_⟩
    rcases List.mem_cons.mp hz with e | hz
    · cases e; exact absurd (kn x _ (relab_lookup ok.xl)) hk
    · refine h3 z (hcap _ hz) ?_
      have := hcell y (mem_of_lookup (ok.cap y (List.mem_map.mpr ⟨_, hz, rfl⟩)).2)
      rw [this]; decide
  · intro y z c h1 h2
    exact er.cinj y z c (hlk _ _ h1) (hlk _ _ h2)
  · intro y c hc e
    refine hCl ?_
    rw [← show c = Cl from e]
    exact mem_cells (hlk y c hc)
  · intro a ha
    rcases List.mem_cons.mp ha with e | ha
    · subst e; exact ⟨hG, had⟩
    · obtain ⟨p, hp, rfl⟩ := List.mem_map.mp ha
      exact er.off _ (mem_cells (hmem p hp))
  · intro a ha
    rcases List.mem_cons.mp ha with e | ha
    · subst e; exact hlt
    · obtain ⟨p, hp, rfl⟩ := List.mem_map.mp ha
      exact er.lt _ (mem_cells (hmem p hp))
  · intro y w hy
    rcases List.mem_cons.mp hy with e | hy
    · cases e; exact ok.xn
    · exact (ok.cap y (List.mem_map.mpr ⟨_, hy, rfl⟩)).1
  · intro y w hy
    have := ok.glo y (List.mem_map.mpr ⟨_, hy, rfl⟩)
    exact ⟨kn y _ (relab_lookup this.2), this.1⟩
end
end Mine

-- part Aw12
set_option autoImplicit false
set_option linter.unusedVariables false
namespace Mine
open PySem PySem.W PyProof.Rows

section
variable {C : Cx} {A : Around} {env : Env} {ρ : Loc} {σ : AH} {E : EX} {Q : V → AH → Prop}
theorem adr_ne {a b : Nat} (h : a < b ∨ b < a) : @Ne Addr a b := by
  intro e
  have e' : (a : Nat) = b := e
  omega
theorem nlt {a b : Addr} (h : a < b) : @LT.lt Nat instLTNat a b := h
theorem Nx.touch {ad ad' : List Addr} {σ' : AH} {s2 s' : Shared} {I : Addr} {h' : Heap} {tk : Nat} (n : Nx C [I] ad s2 ad' σ' s') (hr' : HR C ad' σ' h') (hz : s'.heap.objs.size ≤ h'.objs.size)
    (hk : ∀ b o, b ≠ I → b < s2.heap.objs.size → s'.heap.get? b = some o → h'.get? b = some o) : Nx C [I] ad s2 ad' σ' { s' with heap := h', toks := tk } := by
  obtain ⟨h1, t1, e1⟩ := n.eq
  refine ⟨⟨h', tk, by rw [e1]⟩, n.pre, Nat.le_trans n.size hz, fun b o e hb hc => ?_, hr'⟩
  exact hk b o (by simpa using hc) (Heap.lt_size e) (n.same b o e hb hc)
theorem ER.keep {ad ad' : List Addr} {s : Shared} {h' : Heap} (r : ER C env ρ ad s.heap) (hp : ∃ nw, ad' = ad ++ nw ∧ ∀ a ∈ nw, s.heap.objs.size ≤ a) (keep : ∀ b ∈ fa env, ∀ o, s.heap.get? b = some o → h'.get? b = some o) (hz : s.heap.objs.size ≤ h'.objs.size) : ER C env ρ ad' h' := by
  obtain ⟨nw, rfl, hnw⟩ := hp
  refine ⟨r.kind, r.glob, r.blt, r.nd, r.kd, ?_, ?_, r.cinj, r.cl, ?_, fun b hb => Nat.lt_of_lt_of_le (r.lt b hb) hz, r.nm, r.gk⟩
  · obtain ⟨m, hm, h⟩ := r.m
    refine ⟨m, hm.at' fun o e => keep _ (by simp [fa]) o e, fun x v hx hk => ?_⟩
    obtain ⟨u, h1, h2⟩ := h x v hx hk
    exact ⟨u, h1, h2.mono⟩
  · intro x c hc
    obtain ⟨o, w, h1, h2, h3⟩ := r.cell x c hc
    refine ⟨o, w, keep c (mem_cells hc) o h1, h2, fun v hv hk => ?_⟩
    obtain ⟨u, h4, h5⟩ := h3 v hv hk
    exact ⟨u, h4, h5.mono⟩
  · intro a ha
    refine ⟨(r.off a ha).1, fun hm => ?_⟩
    rcases List.mem_append.mp hm with hm | hm
    · exact (r.off a ha).2 hm
    · exact absurd (r.lt a ha) (Nat.not_lt.mpr (hnw a hm))

theorem comp_core {l l2 : List (Str × Value)} {onames : List (Str × NameKind)} {sc : Scope} {x : Str} {px : Pos} {elt iter : Expr} {ifs : List Expr} {pos : Pos} {capt : Loc} {ad : List Addr} {s2 : Shared} {I : Addr} {n : Nat} {P : Nat → V} {Cd : AH → Prop}
    {St : Nat → Heap → Prop} {RR : Value → Addr → Result → Shared → Prop} {Inv : Nat → List V → AH → Prop}
    (hkn : Kn env onames) (ok : CompOk onames sc x (capt.map (·.1)) (l2.map (·.1))) (hkind : sc.kind = .function) (hnd : (capt.map (·.1)).Nodup) (hcap : ∀ p ∈ capt, p ∈ ρ) (hl2 : ∀ p ∈ l2, p ∈ l ∨ GloIs C p)
    (hr : HR (C.wg l) ad σ s2.heap) (er : ER (C.wg l) env ρ ad s2.heap) (wk : Wk (C.wg l) A ad I n P Cd St) (st0 : St 0 s2.heap) (hI : I ∉ ad) (hIfa : I ∉ fa env) (hIG : C.G.get? I = none) (hsz : n ≤ sizeLine) (inv0 : Inv 0 [] σ)
    (turn : ∀ i acc σ', i < n → Inv i acc σ' → Cd σ' ∧ ∀ cenv, Kn cenv (relab sc.names) → WIf (C.wg l2) A cenv true ifs ((x, some (P i)) :: capt) σ'
      (fun b σ2 => if b = true then WE (C.wg l2) A cenv elt ((x, some (P i)) :: capt) σ2 (fun v σ3 => Inv (i + 1) (acc ++ [v]) σ3) (fun _ _ => False) else Inv (i + 1) acc σ2) (fun _ _ => False))
    (hcd : ∀ acc σ', Inv n acc σ' → Cd σ')
    (hRR : ∀ D Cl ad' σ' vs s' m, s'.heap.Ns Cl m → s2.heap.objs.size ≤ Cl → Cl ∉ ad' → Nx (C.wg l) [I] ad s2 ad' (σ' ++ [.list vs]) s' → RV ad' (.ref σ'.length) (.ref D) → Inv n vs σ' → RR (.ref D) Cl (.ok .next) s') :
    wpAny (model C.prog C.w) A (newList []) (fun acc s3 => wpAny (model C.prog C.w) A (newFunctionEnv sc env.globals (clOf env sc.names []) [] env.qual none .none (some env)) (fun cenv s4 =>
      codeAny (model C.prog C.w) A (.compStart (.ListComp elt [⟨.Name x px, iter, ifs, 0⟩] sc pos) 0 (.ref I) acc { cenv with scope := relabel sc env }) (RR acc cenv.locals) s4) E s3) E s2 := by
  refine wpAny_newObj_type (wpAny_newFunctionEnv ok.nocell (by intro y hy; simp at hy) (fun h1 hns1 hsb1 => ?_) hkind)
  dsimp only at hns1 hsb1 ⊢
  generalize hH2 : s2.heap.push { cls := .type "list", dict := none, data := .seq ([] : List Value).toArray } = H2 at hns1 hsb1 ⊢
  have hC : H2.objs.size = s2.heap.objs.size + 1 := by rw [← hH2, Heap.size_push]
  have hDC : s2.heap.objs.size ≠ H2.objs.size := by omega
  have old : ∀ b o, s2.heap.get? b = some o → h1.get? b = some o := fun b o e => hsb1.extBut b o (adr_ne (.inl (by have := nlt (Heap.lt_size e); omega))) (Heap.get?_push_of_some _ (hH2 ▸ Heap.get?_push_of_some _ e))
  have hacc : h1.PlainList s2.heap.objs.size #[] := ⟨_, hsb1.extBut _ _ hDC (Heap.get?_push_of_some _ (hH2 ▸ Heap.get?_push_size _ rfl))⟩
  have hz1 : s2.heap.objs.size + 2 ≤ h1.objs.size := by
    have := hsb1.1
    rw [Heap.size_push] at this
    omega
  obtain ⟨oI, hoI⟩ := wk.ex _ _ st0
  have hIlt := nlt (Heap.lt_size hoI)
  have fD := hr.fresh (Nat.le_refl s2.heap.objs.size)
  have fC := hr.fresh (a := H2.objs.size) (by omega)
  have hClfa : H2.objs.size ∉ fa env := fun hm => absurd (er.lt _ hm) (Nat.not_lt.mpr (by omega))
  have st1 : St 0 h1 := wk.own _ _ _ st0 ((old I oI hoI).trans hoI.symm)
  have n1 : ∀ t, Nx (C.wg l) [I] ad s2 ad σ { s2 with heap := h1, toks := t } := fun t => ⟨⟨h1, t, rfl⟩, ⟨[], by simp, by simp⟩, by show s2.heap.objs.size ≤ h1.objs.size; omega, fun b o e _ _ => old b o e, hr.keeps old⟩
  have loop : ∀ s3 : Shared, s3 = { s2 with heap := h1, toks := s2.toks + ([] : List (Str × Value)).length } →
      codeAny (model C.prog C.w) A (.compLoop (.ListComp elt [⟨.Name x px, iter, ifs, 0⟩] sc pos) 0 (.ref I) (.ref s2.heap.objs.size) (compEnvC sc (clOf env sc.names []) H2.objs.size env)) (RR (.ref s2.heap.objs.size) H2.objs.size) s3 := by
    rintro s3 rfl
    refine codeAny_compLoop_tests (fun k s' => ∃ i ad' σ' accV accU m', k = n - i ∧ i ≤ n ∧ Nx (C.wg l) [I] ad s2 ad' σ' s' ∧ s2.heap.objs.size ∉ ad' ∧ H2.objs.size ∉ ad' ∧ I ∉ ad' ∧ s'.heap.Ns H2.objs.size m' ∧ s'.heap.PlainList s2.heap.objs.size accU ∧
      RVs ad' accV accU.toList ∧ St i s'.heap ∧ Inv i accV σ' ∧ accV.length ≤ i) ?_ n ⟨0, ad, σ, [], #[], _, rfl, Nat.zero_le _, n1 _, fD.2, fC.2, hI, hns1, hacc, .nil, st1, inv0, Nat.le_refl _⟩
    rintro k s' ⟨i, ad', σ', accV, accU, m', rfl, hi, n3, hD', hC', hI', hns', hpl', rvs', st', inv', hlen'⟩
    have neI : ∀ b o, C.G.get? b = some o ∨ b ∈ ad' → b ≠ I := by
      rintro b o (e | e) rfl
      · rw [hIG] at e; cases e
      · exact hI' e
    have neC : ∀ b o, C.G.get? b = some o ∨ b ∈ ad' → b ≠ H2.objs.size := by
      rintro b o (e | e) rfl
      · rw [fC.1] at e; cases e
      · exact hC' e
    have neD : ∀ b o, C.G.get? b = some o ∨ b ∈ ad' → b ≠ s2.heap.objs.size := by
      rintro b o (e | e) rfl
      · rw [fD.1] at e; cases e
      · exact hD' e
    by_cases hlt : i < n
    · obtain ⟨cd, tb⟩ := turn i accV σ' hlt inv'
      refine wk.item i ad' σ' s' _ _ hlt (let ⟨nw, p, _⟩ := n3.pre; ⟨nw, p⟩) n3.hr cd st' fun u h' tk ru st'' hsb => ?_
      refine wpAny_assign_Name (wpAny_storeName_local (lookup_relabel_local ok.xl) (hns'.at' fun o e => hsb.extBut _ o (adr_ne (.inr (by omega))) e) (fun h2 hn2 hs2 => ?_) (by simp [compEnvC, relabel, hkind]))
      have k2 : ∀ b o, b ≠ I → b ≠ H2.objs.size → s'.heap.get? b = some o → h2.get? b = some o := fun b o h1 h2 e => hs2.extBut b o h2 (hsb.extBut b o h1 e)
      have hr4 : HR (C.wg l) ad' σ' h2 := n3.hr.same fun b o hb e => k2 b o (neI b o hb) (neC b o hb) e
      have hz4 : s'.heap.objs.size = h2.objs.size := by
        have a1 := hsb.1
        have a2 := hs2.1
        simp only at a2
        omega
      have er4 : ER (C.wg l) env ρ ad' h2 := er.keep n3.pre (fun b hb o e => k2 b o (fun e' => hIfa (e' ▸ hb)) (fun e' => hClfa (e' ▸ hb)) (n3.same b o e (er.off b hb).2 (by simp; rintro rfl; exact hIfa hb))) (by have := n3.size; omega)
      obtain ⟨erc, kn⟩ := comp_er (l2 := l2) hkn ok hkind hnd hcap er4 hn2 (u := u) (v := P i) (by simp) ru fC.1 hC' hClfa (by rw [← hz4]; exact hns'.lt)
      have st4 : St (i + 1) h2 := wk.own _ _ _ st'' (by
        obtain ⟨oI', hoI'⟩ := wk.ex _ _ st''
        rw [hoI']; exact hs2.extBut _ _ (adr_ne (b := H2.objs.size) (.inl (by omega))) hoI')
      have hpl4 : h2.PlainList s2.heap.objs.size accU := by
        obtain ⟨c, hc⟩ := hpl'
        exact ⟨c, k2 _ _ (adr_ne (.inr (by omega))) hDC hc⟩
      refine wpAny_mono ((tb _ kn).run ad' _ (hr4.toWg hl2) erc) ?_ fun _ _ f => f.elim
      rintro b s5 ⟨ad5, σ5, n5, h5⟩
      have n35 := fun t => (n3.touch (tk := t) hr4 (by omega) (fun b o h1 h2 e => k2 b o h1 (adr_ne (.inl (by have h2' := nlt h2; omega))) e))
      have done5 : ∀ (adN : List Addr) (σN : AH) (sN : Shared) t, Nx (C.wg l2) [] ad' { s' with heap := h2, toks := t } adN σN sN →
          Nx (C.wg l) [I] ad s2 adN σN sN ∧ s2.heap.objs.size ∉ adN ∧ H2.objs.size ∉ adN ∧ I ∉ adN ∧ sN.heap.Ns H2.objs.size (fun z => if z = x then some u else m' z) ∧ sN.heap.PlainList s2.heap.objs.size accU ∧ St (i + 1) sN.heap ∧ ∃ nw, adN = ad' ++ nw := by
        intro adN σN sN t nN
        have nN' := nN.toWg hr.ok
        obtain ⟨nw, p, q⟩ := nN.pre
        have notin : ∀ a, a ∉ ad' → a < h2.objs.size → a ∉ adN := by
          intro a h1 h2 hm
          rw [p] at hm
          rcases List.mem_append.mp hm with hm | hm
          · exact h1 hm
          · exact absurd (q a hm) (Nat.not_le.mpr h2)
        have hs3 := n3.size
        have hz3 : H2.objs.size < h2.objs.size := by rw [← hz4]; exact hns'.lt
        refine ⟨(n35 t).trans (nN'.wider (by simp)), notin _ hD' (Nat.lt_trans (show s2.heap.objs.size < H2.objs.size by omega) hz3), notin _ hC' hz3, notin _ hI' (Nat.lt_trans (Nat.lt_trans hIlt (show s2.heap.objs.size < H2.objs.size by omega)) hz3), hn2.at' fun o e => nN.same _ o e hC' (by simp), ?_, ?_, nw, p⟩
        · obtain ⟨c, hc⟩ := hpl4
          exact ⟨c, nN.same _ _ hc hD' (by simp)⟩
        · obtain ⟨oI', hoI'⟩ := wk.ex _ _ st4
          exact wk.own _ _ _ st4 ((nN.same _ _ hoI' hI' (by simp)).trans hoI'.symm)
      cases b with
      | false =>
        obtain ⟨a1, a2, a3, a4, a5, a6, a7, nw, a8⟩ := done5 ad5 σ5 s5 _ n5
        exact ⟨n - (i + 1), by omega, i + 1, ad5, σ5, accV, accU, _, rfl, hlt, a1, a2, a3, a4, a5, a6, by rw [a8]; exact rvs'.mono, a7, h5, by omega⟩
      | true =>
        have h5' : WE (C.wg l2) A _ elt ((x, some (P i)) :: capt) σ5 (fun v σ3 => Inv (i + 1) (accV ++ [v]) σ3) (fun _ _ => False) := h5
        refine wpAny_mono (h5'.run ad5 s5 n5.hr (erc.next n5)) ?_ fun _ _ f => f.elim
        rintro y s6 ⟨ad6, σ6, v, n6, r6, inv6⟩
        obtain ⟨a1, a2, a3, a4, a5, a6, a7, nw, a8⟩ := done5 ad6 σ6 s6 _ (n5.trans n6)
        refine wpAny_list_append_plain a6 (fun h' hp hs => ?_) (by rw [← Array.length_toList, ← rvs'.length]; omega)
        have hr7 : HR (C.wg l) ad6 σ6 h' := a1.hr.same fun b o hb e => hs.extBut b o (by
          rintro rfl
          rcases hb with e | e
          · have : C.G.get? s2.heap.objs.size = some o := e
            rw [fD.1] at this; cases this
          · exact a2 e) e
        refine ⟨n - (i + 1), by omega, i + 1, ad6, σ6, accV ++ [v], accU.push y, _, rfl, hlt, a1.touch hr7 (Nat.le_of_eq hs.1.symm) (fun b o h1 h2 e => hs.extBut b o (adr_ne (.inl (nlt h2))) e), a2, a3, a4, a5.at' fun o e => hs.extBut _ o (Ne.symm hDC) e, hp, ?_, ?_, inv6, by simp; omega⟩
        · rw [Array.toList_push, a8]
          exact rvs'.mono.append (.cons (a8 ▸ r6) .nil)
        · obtain ⟨oI', hoI'⟩ := wk.ex _ _ a7
          exact wk.own _ _ _ a7 ((hs.extBut _ _ (adr_ne (.inl (by omega))) hoI').trans hoI'.symm)
    · obtain rfl : i = n := by omega
      refine wpAny_sz (wk.done ad' σ' s' _ _ (let ⟨nw, p, _⟩ := n3.pre; ⟨nw, p⟩) n3.hr (hcd _ _ inv') st' fun h' tk hk hz => ?_)
      obtain ⟨c, hc⟩ := hpl'
      have hc' := hk _ _ (adr_ne (.inr (by omega))) hc
      have hr4 : HR (C.wg l) ad' σ' h' := n3.hr.same fun b o hb e => hk b o (neI b o hb) e
      have n4 := n3.touch (tk := tk) hr4 hz fun b o h1 _ e => hk b o h1 e
      have hr5 := HR.own (o := .list accV) hr4 hc' fD.1 hD' (hr.freshLow (Nat.le_refl _)) ⟨_, c, rfl, rvs'⟩
      have hlen : σ'.length = ad'.length := hr4.len.symm
      obtain ⟨nw, p, q⟩ := n3.pre
      refine hRR _ _ (ad' ++ [s2.heap.objs.size]) σ' accV _ m' (hns'.at' fun o e => hk _ o (adr_ne (.inr (by omega))) e) (show (s2.heap.objs.size : Nat) ≤ H2.objs.size by omega) ?_ ⟨n4.eq, ⟨nw ++ [s2.heap.objs.size], by rw [p, List.append_assoc], ?_⟩, n4.size, n4.same, hr5⟩ (RV.last hlen) inv'
      · intro hm
        rcases List.mem_append.mp hm with hm | hm
        · exact hC' hm
        · simp at hm; omega
      · intro a ha
        rcases List.mem_append.mp ha with ha | ha
        · exact q a ha
        · simp at ha; exact Nat.le_of_eq ha.symm
  exact codeAny_compStart_list (loop _ rfl) (wk.self 0 _ _ _ st1 (loop _ rfl))

theorem comp_closed {l l2 : List (Str × Value)} {onames : List (Str × NameKind)} {sc : Scope} {x : Str} {capt : Loc} {ad : List Addr} {h : Heap} (hkn : Kn env onames) (ok : CompOk onames sc x (capt.map (·.1)) (l2.map (·.1))) (hcap : ∀ p ∈ capt, p ∈ ρ) (er : ER (C.wg l) env ρ ad h) :
    closureFor sc env = pure (clOf env sc.names []) := by
  refine closure_of fun n hn => ?_
  obtain ⟨p, hp, rfl⟩ := List.mem_map.mp (ok.free n hn).1
  rcases er.kd p.1 p.2 (hcap p hp) with e | ⟨_, e⟩
  · rw [hkn _ _ (ok.free _ hn).2] at e; cases e
  · exact e
/-- what a comprehension asks -/
def CompGo (C : Cx) (A : Around) (l2 : List (Str × Value)) (sc : Scope) (x : Str) (ifs : List Expr) (elt : Expr) (capt : Loc) (K : List V → AH → Prop) (n : Nat) (P : Nat → V) (Cd : AH → Prop) (σ1 : AH) : Prop :=
  n ≤ sizeLine ∧ ∃ Inv : Nat → List V → AH → Prop, Inv 0 [] σ1 ∧ (∀ i acc σ' pv, i < n → P i = pv → Inv i acc σ' → Cd σ' ∧ ∀ cenv, Kn cenv (relab sc.names) → WIf (C.wg l2) A cenv true ifs ((x, some pv) :: capt) σ'
      (fun b σ2 => if b = true then WE (C.wg l2) A cenv elt ((x, some pv) :: capt) σ2 (fun v σ3 => Inv (i + 1) (acc ++ [v]) σ3) (fun _ _ => False) else Inv (i + 1) acc σ2) (fun _ _ => False)) ∧
    ∀ acc σ', Inv n acc σ' → Cd σ' ∧ K acc σ'
theorem WE_ListComp2 {l l2 : List (Str × Value)} {onames : List (Str × NameKind)} {sc : Scope} {x : Str} {px : Pos} {elt iter : Expr} {ifs : List Expr} {pos : Pos} {capt : Loc}
    (hkn : Kn env onames) (hok : compOk onames sc x (capt.map (·.1)) (l2.map (·.1)) = true) (hnd : (capt.map (·.1)).Nodup) (hcap : ∀ p ∈ capt, p ∈ ρ) (hl2 : ∀ p ∈ l2, p ∈ l ∨ GloIs C p)
    (h : WItr (C.wg l) A env iter ρ σ (CompGo C A l2 sc x ifs elt capt (fun acc σ' => Q (.ref σ'.length) (σ' ++ [.list acc]))) E)
    (hkind : sc.kind = .function := by rfl) (hs : isSetE iter = false := by rfl) : WE (C.wg l) A env (.ListComp elt [⟨.Name x px, iter, ifs, 0⟩] sc pos) ρ σ Q E := by
  refine ⟨?_⟩
  intro ad s hr er
  have ok := compOk.ok hok
  rw [eval_ListComp]
  refine wpAny_comprehension_free (use := none) rfl (folded_not hs) (comp_closed hkn ok hcap er) hkind ok.locs (wpAny_mono (h.run ad s hr er) (fun xv s1 h1 => wpAny_mono h1 ?_ fun _ _ e => e) fun _ _ e => e)
  rintro it s2 ⟨ad1, σ1, n, P, Cd, I, St, rfl, wk, st0, hI, hIad, n2, hsz, Inv, inv0, turn, fin⟩
  have er2 := er.next n2
  have hIfa : I ∉ fa env := fun hm => absurd (er.lt I hm) (Nat.not_lt.mpr hI)
  have hIG : C.G.get? I = none := (hr.fresh hI).1
  refine comp_core (C := C) (RR := fun acc Cl => compPost (model C.prog C.w) A E none (PE (C.wg l) ad s Q) acc Cl) hkn ok hkind hnd hcap hl2 n2.hr er2 wk st0 hIad hIfa hIG hsz inv0 (fun i acc σ' hi hv => turn i acc σ' (P i) hi rfl hv) (fun acc σ' hi => (fin acc σ' hi).1) ?_
  intro D Cl ad' σ' vs s' m hn hCl hClad n3 rv inv
  refine ⟨m, hn, fun h' hs' => ?_⟩
  have hClG : C.G.get? Cl = none := (n2.hr.fresh hCl).1
  have hr' : HR (C.wg l) ad' (σ' ++ [.list vs]) h' := n3.hr.same fun b o hb e => hs'.extBut b o (by
    rintro rfl
    rcases hb with e | e
    · have : C.G.get? b = some o := e
      rw [hClG] at this; cases this
    · exact hClad e) e
  have n4 := n3.touch (tk := s'.toks) hr' (Nat.le_of_eq hs'.1.symm) fun b o _ h2 e => hs'.extBut b o (adr_ne (.inl (Nat.lt_of_lt_of_le h2 hCl))) e
  exact ⟨ad', _, _, Nx.drop1 n2 hI n4, rv, (fin vs σ' inv).2⟩
theorem WE_ListComp {l l2 : List (Str × Value)} {onames : List (Str × NameKind)} {sc : Scope} {x : Str} {px : Pos} {elt iter : Expr} {ifs : List Expr} {pos : Pos} {capt : Loc}
    (hkn : Kn env onames) (hok : compOk onames sc x (capt.map (·.1)) (l2.map (·.1)) = true) (hnd : (capt.map (·.1)).Nodup) (hcap : ∀ p ∈ capt, p ∈ ρ) (hl2 : ∀ p ∈ l2, p ∈ l)
    (h : WItr (C.wg l) A env iter ρ σ (CompGo C A l2 sc x ifs elt capt (fun acc σ' => Q (.ref σ'.length) (σ' ++ [.list acc]))) E)
    (hkind : sc.kind = .function := by rfl) (hs : isSetE iter = false := by rfl) : WE (C.wg l) A env (.ListComp elt [⟨.Name x px, iter, ifs, 0⟩] sc pos) ρ σ Q E :=
  WE_ListComp2 hkn hok hnd hcap (fun p hp => .inl (hl2 p hp)) h hkind hs
theorem WS_assign_comp2 {l l2 : List (Str × Value)} {onames : List (Str × NameKind)} {sc : Scope} {x y : Str} {px py : Pos} {elt iter : Expr} {ifs : List Expr} {pos spos : Pos} {capt : Loc} {Q : Fl → Loc → AH → Prop}
    (hkn : Kn env onames) (hok : compOk onames sc x (capt.map (·.1)) (l2.map (·.1)) = true) (hnd : (capt.map (·.1)).Nodup) (hcap : ∀ p ∈ capt, p ∈ ρ) (hl2 : ∀ p ∈ l2, p ∈ l ∨ GloIs C p)
    (h : WItr (C.wg l) A env iter ρ σ (CompGo C A l2 sc x ifs elt capt (fun acc σ' => ∃ ρ', Up y (some (.ref σ'.length)) ρ ρ' ∧ Q .next ρ' (σ' ++ [.list acc]))) E)
    (hk : (onames.lookup y == some .local && !(sc.names.any fun p => p.1 == y && (p.2 == .local || p.2 == .cell)) || onames.lookup y == some .cell) = true := by rfl) (hpl : py.line = pos.line := by rfl)
    (hkind : sc.kind = .function := by rfl) (hs : isSetE iter = false := by rfl) : WS (C.wg l) A env (.Assign [.Name y py] (.ListComp elt [⟨.Name x px, iter, ifs, 0⟩] sc pos) spos) ρ σ Q E := by
  refine ⟨?_⟩
  intro ad s hr er
  have ok := compOk.ok hok
  by_cases hy : onames.lookup y = some .cell
  · have hsw : swapsWith (.ListComp elt [⟨.Name x px, iter, ifs, 0⟩] sc pos) (some (.Name y py)) spos.line env = pure false := by
      unfold swapsWith
      simp [hkn y _ hy, show (NameKind.cell == NameKind.local) = false from rfl]
    refine wpAny_Assign_Name (wpAny_mono ((WE_ListComp2 (Q := fun v σ1 => ∃ ρ', Up y (some v) ρ ρ' ∧ Q .next ρ' σ1) hkn hok hnd hcap hl2 h hkind hs).run ad s hr er) ?_ fun _ _ x => x) hsw
    rintro a s1 ⟨ad1, σ1, va, n1, r1, ρ', up, h1⟩
    exact store_name n1.hr (er.next n1) up r1 fun s' n2 e2 => ⟨ad1, σ1, ρ', .next, n1.weak.trans n2, e2, rfl, h1⟩
  · have hk' : onames.lookup y = some .local ∧ (sc.names.any fun p => p.1 == y && (p.2 == .local || p.2 == .cell)) = false := by
      simp only [Bool.or_eq_true, Bool.and_eq_true, beq_iff_eq, Bool.not_eq_true'] at hk
      exact hk.resolve_right hy
    have hsw : swapsWith (.ListComp elt [⟨.Name x px, iter, ifs, 0⟩] sc pos) (some (.Name y py)) spos.line env = pure true := by
      have e1 : env.blockKind = .function := by unfold Env.blockKind; rw [er.kind]; rfl
      have e2 : (Expr.ListComp elt [⟨.Name x px, iter, ifs, 0⟩] sc pos).pos = pos := rfl
      have e3 := hk'.2
      show (pure (env.blockKind == .function && env.kindOf y == some .local && py.line == pos.line && !(sc.names.any fun (n, k) => n == y && (k == .local || k == .cell))) : Sem Bool) = pure true
      rw [e1, hkn y _ hk'.1, hpl]
      have e4 : (sc.names.any fun (n, k) => n == y && (k == .local || k == .cell)) = false := hk'.2
      rw [e4]
      simp
    rw [exec_Assign_Name_used _ _ _ _ hsw]
    refine wpAny_bind (wpAny_standAt (wpAny_bind ?_))
    show wpAny _ A (do let _ ← comprehension (.ListComp elt [⟨.Name x px, iter, ifs, 0⟩] sc pos) sc env _ (newList []) false (eval iter env) (some (assign (.Name y py) env))) _ _ s
    refine wpAny_bind (wpAny_mono (wpAny_comprehension_free (use := some (assign (.Name y py) env)) (Q := fun _ s' => PS (C.wg l) env ad s Q .next s') rfl (folded_not hs) (comp_closed hkn ok hcap er) hkind ok.locs
      (wpAny_mono (h.run ad s hr er) (fun xv s1 h1 => wpAny_mono h1 ?_ fun _ _ e => e) fun _ _ e => e)) (fun _ s' hq => wpAny_pure (wpAny_pure hq)) fun _ _ e => e)
    rintro it s2 ⟨ad1, σ1, n, P, Cd, I, St, rfl, wk, st0, hI, hIad, n2, hsz, Inv, inv0, turn, fin⟩
    have er2 := er.next n2
    have hIfa : I ∉ fa env := fun hm => absurd (er.lt I hm) (Nat.not_lt.mpr hI)
    have hIG : C.G.get? I = none := (hr.fresh hI).1
    refine comp_core (C := C) (RR := fun acc Cl => compPost (model C.prog C.w) A E (some (assign (.Name y py) env)) (fun _ s' => PS (C.wg l) env ad s Q .next s') acc Cl) hkn ok hkind hnd hcap hl2 n2.hr er2 wk st0 hIad hIfa hIG hsz inv0 (fun i acc σ' hi hv => turn i acc σ' (P i) hi rfl hv) (fun acc σ' hi => (fin acc σ' hi).1) ?_
    intro D Cl ad' σ' vs s' m hn hCl hClad n3 rv inv
    have hClG : C.G.get? Cl = none := (n2.hr.fresh hCl).1
    have hClfa : Cl ∉ fa env := fun hm => absurd (er2.lt Cl hm) (Nat.not_lt.mpr hCl)
    have er3 : ER (C.wg l) env ρ ad' s'.heap := er2.keep n3.pre (fun b hb o e => n3.same b o e (er2.off b hb).2 (by simp; rintro rfl; exact hIfa hb)) n3.size
    obtain ⟨ρ', up, hq⟩ := (fin vs σ' inv).2
    show wpAny _ A (assign (.Name y py) env (.ref D)) _ _ _
    refine wpAny_assign_Name (store_name (C := C.wg l) n3.hr er3 up rv fun s4 n4 er4 => ?_)
    refine ⟨m, hn.at' fun o e => n4.same _ o e hClad hClfa, fun h' hs' => ?_⟩
    have keep : ∀ b o, C.G.get? b = some o ∨ b ∈ ad' → s4.heap.get? b = some o → h'.get? b = some o := fun b o hb e => hs'.extBut b o (by
      rintro rfl
      rcases hb with e | e
      · rw [hClG] at e; cases e
      · exact hClad e) e
    have hr' : HR (C.wg l) ad' (σ' ++ [.list vs]) h' := n4.hr.same keep
    have er5 : ER (C.wg l) env ρ' ad' h' := er4.keep (s := s4) ⟨[], by simp, by simp⟩ (fun b hb o e => hs'.extBut b o (fun e' => hClfa (e' ▸ hb)) e) (Nat.le_of_eq hs'.1.symm)
    have n34 : Nx (C.wg l) (I :: fa env) ad1 s2 ad' (σ' ++ [.list vs]) s4 := (n3.wider (by simp)).trans (n4.wider fun b hb => List.mem_cons_of_mem _ hb)
    have n5 : Nx (C.wg l) (I :: fa env) ad1 s2 ad' (σ' ++ [.list vs]) { s4 with heap := h' } := by
      obtain ⟨h1, t1, e1⟩ := n34.eq
      refine ⟨⟨h', t1, by rw [e1]⟩, n34.pre, Nat.le_trans n34.size (Nat.le_of_eq hs'.1.symm), fun b o e hb hc => ?_, hr'⟩
      exact hs'.extBut b o (adr_ne (.inl (Nat.lt_of_lt_of_le (Heap.lt_size e) hCl))) (n34.same b o e hb hc)
    exact ⟨ad', _, ρ', .next, Nx.drop1 n2 hI n5, er5, rfl, hq⟩
theorem WS_assign_comp {l l2 : List (Str × Value)} {onames : List (Str × NameKind)} {sc : Scope} {x y : Str} {px py : Pos} {elt iter : Expr} {ifs : List Expr} {pos spos : Pos} {capt : Loc} {Q : Fl → Loc → AH → Prop}
    (hkn : Kn env onames) (hok : compOk onames sc x (capt.map (·.1)) (l2.map (·.1)) = true) (hnd : (capt.map (·.1)).Nodup) (hcap : ∀ p ∈ capt, p ∈ ρ) (hl2 : ∀ p ∈ l2, p ∈ l)
    (h : WItr (C.wg l) A env iter ρ σ (CompGo C A l2 sc x ifs elt capt (fun acc σ' => ∃ ρ', Up y (some (.ref σ'.length)) ρ ρ' ∧ Q .next ρ' (σ' ++ [.list acc]))) E)
    (hk : (onames.lookup y == some .local && !(sc.names.any fun p => p.1 == y && (p.2 == .local || p.2 == .cell)) || onames.lookup y == some .cell) = true := by rfl) (hpl : py.line = pos.line := by rfl)
    (hkind : sc.kind = .function := by rfl) (hs : isSetE iter = false := by rfl) : WS (C.wg l) A env (.Assign [.Name y py] (.ListComp elt [⟨.Name x px, iter, ifs, 0⟩] sc pos) spos) ρ σ Q E :=
  WS_assign_comp2 hkn hok hnd hcap (fun p hp => .inl (hl2 p hp)) h hk hpl hkind hs
end
end Mine

-- part Aw13
set_option autoImplicit false
set_option linter.unusedVariables false
namespace Mine
open PySem PySem.W PyProof.Rows

section
variable {C : Cx} {A : Around} {env : Env} {ρ : Loc} {σ : AH} {E : EX} {Q : V → AH → Prop}
theorem sum_snoc (x : Int) : ∀ xs : List Int, (xs ++ [x]).sum = xs.sum + x
  | [] => by simp
  | y :: r => by
    have := sum_snoc x r
    rw [List.cons_append, List.sum_cons, List.sum_cons, this]; omega
theorem preSum_getD (ns : List Int) : ∀ n, n ≤ ns.length → preSum (fun i => ns.getD i 0) n = (ns.take n).sum
  | 0, _ => by simp [preSum]
  | n + 1, h => by
    have ih := preSum_getD ns n (by omega)
    have hl : n < ns.length := by omega
    have e : ns.take (n + 1) = ns.take n ++ [ns.getD n 0] := by rw [List.take_add_one]; simp [List.getD, hl]
    rw [preSum, ih, e, sum_snoc]
theorem WC_sum {v : V} {ns : List Int} (hA : A.handled = none) (b : ObjAt C σ v (.list (ns.map .int))) (h : Q (.int ns.sum) σ) : WC C A (.builtin "sum") [v] σ Q E := by
  refine ⟨?_⟩
  rintro ad s us hr (_ | ⟨rv, _ | _⟩)
  obtain ⟨a, vs, rfl, hl, rvs⟩ := b.list hr rv
  obtain ⟨o, ho, hc, n, hd⟩ := id hl
  have hne : a ≠ s.heap.objs.size := fun e => Nat.lt_irrefl _ (e ▸ Heap.lt_size ho)
  refine wpAny_sz (call_sum_walkG (wpAny_pyIter_list hl ⟨s.heap.objs.size, _, _, _, _, _, fun i => ns.getD i 0, rfl, Walks.list (A := A.in1) hA s.heap.objs.size a hne vs, ⟨⟨_, Heap.get?_push_size _ rfl, rfl, rfl⟩, hl.push _⟩, ?_, ?_, ?_⟩))
  · intro b hb
    simp only [List.mem_cons, List.not_mem_nil, or_false] at hb
    rcases hb with rfl | rfl
    · show s.heap.objs.size < (s.heap.push _).objs.size
      rw [Heap.size_push]; exact Nat.lt_succ_self _
    · show _ < (s.heap.push _).objs.size
      rw [Heap.size_push]; exact Nat.lt_succ_of_lt (Heap.lt_size ho)
  · intro i u hu
    have hlt : i < ns.length := by
      have h1 := (Array.getElem?_eq_some_iff.mp hu).1
      have h2 := rvs.length
      simp at h2; omega
    obtain ⟨u', h1, t, h2⟩ := rvs.get (i := i) (a := .int (ns.getD i 0)) (by simp [List.getD, hlt])
    have e : u' = u := by
      rw [Array.getElem?_toList] at h1
      rw [h1] at hu; exact Option.some.inj hu
    subst e; exact ⟨t, h2⟩
  · intro h' tk t' hk hz
    have hlen : vs.size = ns.length := by have := rvs.length; simp at this; omega
    refine ⟨ad, σ, .int ns.sum, Nx.keeps hz hr fun b o e => hk b o (by simp; rintro rfl; exact Nat.lt_irrefl _ (Heap.lt_size e)) (Heap.get?_push_of_some _ e), ⟨t', ?_⟩, h⟩
    rw [hlen, preSum_getD ns _ (Nat.le_refl _), List.take_length]

/- reversed lists -/
theorem WItr_rev {l : List (Str × Value)} {id : Str} {p pos : Pos} {args : List Expr} {K : Nat → (Nat → V) → (AH → Prop) → AH → Prop} (hA : A.handled = none) (hf : (id, Value.type "reversed") ∈ l)
    (h : WL (C.wg l) A env args ρ σ (fun vs σ1 => ∃ v xs, vs = [v] ∧ ObjAt (C.wg l) σ1 v (.list xs) ∧ K xs.length (fun i => xs.getD (xs.length - 1 - i) .none) (fun σ' => ObjAt (C.wg l) σ' v (.list xs)) σ1) E)
    (hns : noStar args = true := by rfl) : WItr (C.wg l) A env (.Call (.Name id p) args [] pos) ρ σ K E := by
  refine ⟨?_⟩
  intro ad s hr er
  refine wpAny_Call_Name_kw ?_
  have := (WE_glob (C := C) (A := A) (env := env) (ρ := ρ) (σ := σ) (E := E) (pos := p) (Q := fun v σ1 => v = .k (.type "reversed") ∧ σ1 = σ) hf ⟨rfl, rfl⟩).run ad s hr er
  refine wpAny_mono this ?_ fun _ _ x => x
  rintro u s1 ⟨ad1, σ1, v, n1, r1, rfl, rfl⟩
  cases r1
  refine callWith_gen (callable_type (C := C.wg l)) hns (wpAny_mono (h.run ad1 s1 pos n1.hr (er.next n1)) ?_ fun _ _ x => x)
  rintro us s2 ⟨ad2, σ2, vs, n2, r2, v, xs, rfl, b, hk⟩
  refine ⟨n2.hr.keep, ?_⟩
  have n12 := n1.trans n2
  rcases r2 with _ | ⟨rv, _ | _⟩
  obtain ⟨a, vs, rfl, hl, rvs⟩ := b.list n2.hr rv
  have hlen : vs.size = xs.length := by have := rvs.length; simp at this; omega
  refine call_reversed_list hl ?_
  have hit : (s2.heap.push (revObj a ((vs.size : Int) - 1))).IsRevIter s2.heap.objs.size a ((vs.size : Int) - 1) := ⟨_, Heap.get?_push_size _ rfl, rfl, rfl⟩
  refine wpAny_pyIter_revIter hit ?_
  have n3 := Nx.push (C := C.wg l) (s := s2) (revObj a ((vs.size : Int) - 1)) n2.hr
  refine ⟨ad2, σ2, xs.length, fun i => xs.getD (xs.length - 1 - i) .none, fun σ' => ObjAt (C.wg l) σ' v (.list xs), s2.heap.objs.size, fun i h => h.IsRevIter s2.heap.objs.size a ((xs.length : Int) - 1 - (i : Nat)), rfl, ?_, ?_, n12.size, (n2.hr.fresh (Nat.le_refl _)).2, n12.trans n3, hk⟩
  · refine ⟨?_, ?_, ?_, ?_, fun i s Q E st hQ => wpAny_pyIter_revIter st hQ, ?_⟩
    · rintro i h h' ⟨o, ho, r⟩ e
      exact ⟨o, by rw [e]; exact ho, r⟩
    · rintro i h ⟨o, ho, r⟩; exact ⟨o, ho⟩
    · rintro i ad' σ' s' Q E' hi ⟨nw, rfl⟩ hr' b' st hQ
      obtain ⟨a', vs', e, hl', rvs'⟩ := b'.list hr' (rv.mono (nw := nw))
      cases e
      obtain ⟨u, hu, ru⟩ := rvs'.getD (i := xs.length - 1 - i) (by omega)
      have e : (xs.length : Int) - 1 - (i : Int) = ((xs.length - 1 - i : Nat) : Int) := by omega
      have st' : s'.heap.IsRevIter s2.heap.objs.size a ((xs.length - 1 - i : Nat) : Int) := by rw [← e]; exact st
      refine wpAny_pyNext_rev_item st' hl' (x := u) (by rw [← Array.getElem?_toList]; exact hu) fun h' hit hs => hQ u h' s'.toks ru ?_ hs
      have e2 : ((xs.length - 1 - i : Nat) : Int) - 1 = (xs.length : Int) - 1 - ((i + 1 : Nat) : Int) := by omega
      rw [← e2]; exact hit
    · rintro ad' σ' s' Q E' ⟨nw, rfl⟩ hr' b' st hQ
      have e : (xs.length : Int) - 1 - (xs.length : Int) = -1 := by omega
      have st' : s'.heap.IsRevIter s2.heap.objs.size a (-1) := by rw [← e]; exact st
      exact wpAny_pyNext_rev_end hA st' fun h' he => hQ h' s'.toks fun b o hb e => he b o hb e
    · rintro i s' t u Q E' ⟨o, ho, hc, hd⟩ hq
      exact notOwned ho (by rw [hc, hd]; rfl) hq
  · show (s2.heap.push _).IsRevIter _ _ _
    have e : (xs.length : Int) - 1 - ((0 : Nat) : Int) = (vs.size : Int) - 1 := by omega
    rw [e]; exact hit
end
end Mine

-- part Aw14
set_option autoImplicit false
set_option linter.unusedVariables false
namespace Mine
open PySem PySem.W PyProof.Rows

section
variable {C : Cx} {A : Around} {env : Env} {ρ : Loc} {σ : AH} {E : EX} {Q : V → AH → Prop}
theorem WE_one {op : BoolOp} {e : Expr} {pos : Pos} (h : WE C A env e ρ σ Q E) : WE C A env (.BoolOp op [e] pos) ρ σ Q E := ⟨fun ad s hr er => BoolOp_one (h.run ad s hr er)⟩
theorem WE_and {e1 e2 : Expr} {rest : List Expr} {pos : Pos} (h : WE C A env e1 ρ σ (fun v σ1 => WTr C A v σ1 (fun b σ2 => if b = true then WE C A env (.BoolOp .And (e2 :: rest) pos) ρ σ2 Q E else Q v σ2) E) E) : WE C A env (.BoolOp .And (e1 :: e2 :: rest) pos) ρ σ Q E := by
  refine ⟨?_⟩
  intro ad s hr er
  refine BoolOp_and (wpAny_mono (h.run ad s hr er) ?_ fun _ _ x => x)
  rintro a s1 ⟨ad1, σ1, va, n1, r1, h1⟩
  refine wpAny_mono (h1.run ad1 s1 a n1.hr r1) ?_ fun _ _ x => x
  rintro b s2 ⟨ad2, σ2, n2, h2⟩
  have n12 := n1.trans n2
  cases b with
  | true =>
    have h2' : WE C A env (.BoolOp .And (e2 :: rest) pos) ρ σ2 Q E := h2
    exact wpAny_mono (h2'.run ad2 s2 n2.hr (er.next n12)) (fun u s' p => PE.trans n12 p) fun _ _ x => x
  | false => exact ⟨ad2, σ2, va, n12, n2.rv r1, h2⟩
theorem WE_or {e1 e2 : Expr} {rest : List Expr} {pos : Pos} (h : WE C A env e1 ρ σ (fun v σ1 => WTr C A v σ1 (fun b σ2 => if b = true then Q v σ2 else WE C A env (.BoolOp .Or (e2 :: rest) pos) ρ σ2 Q E) E) E) : WE C A env (.BoolOp .Or (e1 :: e2 :: rest) pos) ρ σ Q E := by
  refine ⟨?_⟩
  intro ad s hr er
  refine BoolOp_or (wpAny_mono (h.run ad s hr er) ?_ fun _ _ x => x)
  rintro a s1 ⟨ad1, σ1, va, n1, r1, h1⟩
  refine wpAny_mono (h1.run ad1 s1 a n1.hr r1) ?_ fun _ _ x => x
  rintro b s2 ⟨ad2, σ2, n2, h2⟩
  have n12 := n1.trans n2
  cases b with
  | false =>
    have h2' : WE C A env (.BoolOp .Or (e2 :: rest) pos) ρ σ2 Q E := h2
    exact wpAny_mono (h2'.run ad2 s2 n2.hr (er.next n12)) (fun u s' p => PE.trans n12 p) fun _ _ x => x
  | true => exact ⟨ad2, σ2, va, n12, n2.rv r1, h2⟩
theorem Rd.ints {xs : List Int} : RdAll C σ (xs.map V.int) (xs.map PyData.int) := by
  induction xs with
  | nil => exact .nil
  | cons x r ih => exact .cons .int ih
theorem Rd.lst {v : V} {xs : List Int} (o : ObjAt C σ v (.list (xs.map V.int))) : Rd C σ v (.list (xs.map PyData.int)) := .list o Rd.ints
theorem eqv_ints (xs : List Int) : PyData.eqvAll (xs.map PyData.int) (xs.map PyData.int) = true := by
  induction xs with
  | nil => rfl
  | cons x r ih => simp [PyData.eqvAll, PyData.eqv, ih]
theorem canLay_ints (xs : List Int) : PyData.canLayAll0 (xs.map PyData.int) = true := by
  induction xs with
  | nil => rfl
  | cons x r ih => simp [PyData.canLayAll0, PyData.canLay0, ih]
theorem depth_ints (xs : List Int) : PyData.depthAll (xs.map PyData.int) ≤ 1 := by
  induction xs with
  | nil => simp [PyData.depthAll]
  | cons x r ih => simp [PyData.depthAll, PyData.depth]; omega
theorem shaped_ints (xs : List Int) : SeqAt.shaped (.list (xs.map PyData.int)) = true := by
  have := depth_ints xs
  simp [SeqAt.shaped, PyData.canLay0, canLay_ints, PyData.depth]; omega
theorem shaped_pair (xs ys : List Int) : SeqAt.shaped (.tuple [.list (xs.map PyData.int), .list (ys.map PyData.int)]) = true := by
  have := depth_ints xs
  have := depth_ints ys
  simp [SeqAt.shaped, PyData.canLay0, PyData.canLayAll0, canLay_ints, PyData.depth, PyData.depthAll]; omega
theorem getD_v (ns : List Int) {i : Nat} (h : i < ns.length) : (ns.map V.int).getD i .none = .int (ns.getD i 0) := by simp [List.getD, h]
end
end Mine

-- part Aw15
set_option autoImplicit false
set_option linter.unusedVariables false
namespace Mine
open PySem PySem.W PyProof.Rows

section
variable {C : Cx} {A : Around} {env : Env} {ρ : Loc} {σ : AH} {E : EX}
theorem WS_while {test : Expr} {body : List Stmt} {pos : Pos} {Q : Fl → Loc → AH → Prop} (Inv : Nat → Loc → AH → Prop) (k : Nat) (h0 : Inv k ρ σ)
    (turn : ∀ k ρ' σ', Inv k ρ' σ' → WB C A env test ρ' σ' (fun b σ1 => if b = true then WSs C A env body ρ' σ1 (LoopPost (fun ρ2 σ2 => ∃ m, m < k ∧ Inv m ρ2 σ2) Q) (ELoop C A env E) else Q .next ρ' σ1) (ELoop C A env E)) :
    WS C A env (.While test body [] pos) ρ σ Q E := by
  refine ⟨?_⟩
  intro ad s hr er
  refine wpAny_While ?_
  refine codeAny_whileLoop (fun k s3 => ∃ ad3 σ3 ρ3, Nx C (fa env) ad s ad3 σ3 s3 ∧ ER C env ρ3 ad3 s3.heap ∧ Inv k ρ3 σ3) ?_ k ⟨ad, σ, ρ, Nx.refl hr, er, h0⟩
  rintro k s3 ⟨ad3, σ3, ρ3, n3, er3, inv3⟩
  refine wpAny_mono ((turn k ρ3 σ3 inv3).run ad3 s3 n3.hr er3) ?_ fun _ _ x => x
  rintro b s4 ⟨ad4, σ4, n4, h4⟩
  have er4 := er3.next n4
  have n34 := n3.trans n4.weak
  cases b with
  | false =>
    have h4' : Q .next ρ3 σ4 := h4
    exact wpAny_execs_nil ⟨ad4, σ4, ρ3, .next, n34, er4, rfl, h4'⟩
  | true =>
    have h4' : WSs C A env body ρ3 σ4 (LoopPost (fun ρ2 σ2 => ∃ m, m < k ∧ Inv m ρ2 σ2) Q) (ELoop C A env E) := h4
    refine wpAny_mono (h4'.run ad4 s4 n4.hr er4) ?_ fun _ _ x => x
    rintro f s6 ⟨ad6, σ6, ρ6, fl, n6, er6, rf, ⟨hq⟩⟩
    have n36 := n34.trans n6
    cases fl with
    | next => cases rf; obtain ⟨m, hm, hi⟩ := hq; exact ⟨m, hm, ad6, σ6, ρ6, n36, er6, hi⟩
    | cont => cases rf; obtain ⟨m, hm, hi⟩ := hq; exact ⟨m, hm, ad6, σ6, ρ6, n36, er6, hi⟩
    | brk => cases rf; exact ⟨ad6, σ6, ρ6, .next, n36, er6, rfl, hq⟩
    | ret v => obtain ⟨u', rfl, ru'⟩ := rf; exact ⟨ad6, σ6, ρ6, .ret v, n36, er6, ⟨u', rfl, ru'⟩, hq⟩

theorem foldl_rep (items : Array Value) : ∀ (n : Nat) (acc : Array Value), (List.foldl (fun x1 x2 => x1 ++ x2) acc (List.replicate n items)).toList = acc.toList ++ (List.replicate n items.toList).flatten
  | 0, acc => by simp
  | n + 1, acc => by
    rw [List.replicate_succ, List.foldl_cons, foldl_rep items n, List.replicate_succ, List.flatten_cons, Array.toList_append, List.append_assoc]
theorem RVs.rep {ad : List Addr} {v : List V} {x : List Value} (h : RVs ad v x) : ∀ n : Nat, RVs ad (List.replicate n v).flatten (List.replicate n x).flatten
  | 0 => .nil
  | n + 1 => by rw [List.replicate_succ, List.replicate_succ, List.flatten_cons, List.flatten_cons]; exact h.append (h.rep n)
theorem mul_li {j : Nat} {xs : List V} {x : Int} {Q : V → AH → Prop} (b : σ[j]? = some (.list xs)) (hlo : -(2 ^ 63 : Int) ≤ x) (hhi : x < 2 ^ 63) (hsz : xs.length * x.toNat ≤ 2 ^ 24)
    (h : Q (.ref σ.length) (σ ++ [.list (List.replicate x.toNat xs).flatten])) : WOp2 C A (binaryOp .Mult) (.ref j) (.int x) σ Q E := by
  refine ⟨?_⟩
  rintro ad s y z hr ⟨a, ha, rfl⟩ ⟨u, rfl⟩
  obtain ⟨ob, h1, vs, n, e2, rvs⟩ := hr.obj j _ a b ha
  subst e2
  have hlen : vs.size = xs.length := by have := rvs.length; simp at this; omega
  rw [← hlen] at hsz
  refine wpAny_binaryOp_repeat_ref (T := "list") (U := "int") (by decide) ⟨_, h1, rfl⟩ (fun s' => typeIs_int s' x u) noFill_list_mul F.fills_int_mul F.slot_int_rmul repeat_list F.slot_int_index.lookup
    (call_meets F.slot_int_rmul (typeIs_int s x u) F.entry_int_rmul (F.args_int_rmul_2 _ _) (int___rmul___int_list x u a vs n)
      ⟨h1, rfl, ⟨_, h1, rfl⟩, call_meets F.slot_list_mul ⟨_, h1, rfl⟩ F.entry_list_mul (F.args_list_mul_2 _ _)
        (AutoListH.list___mul___list_int_3 a vs n x u (by simp [Builtin.List.listFitsIndex]; omega) (by omega) (by simp [Builtin.List.listTooLong, sizeLine]; omega))
        ⟨h1, ?_⟩⟩)
  have ro : RVs ad (List.replicate x.toNat xs).flatten (List.foldl (fun x1 x2 => x1 ++ x2) #[] (List.replicate (if vs.isEmpty = true then 0 else x.toNat) vs)).toList := by
    rw [foldl_rep]
    by_cases he : vs.isEmpty = true
    · have hx : xs = [] := by
        have : vs.size = 0 := by simpa [Array.isEmpty] using he
        exact List.eq_nil_of_length_eq_zero (by omega)
      rw [if_pos he, hx]
      simp
      exact .nil
    · rw [if_neg he]
      exact rvs.rep _
  exact ⟨_, _, .ref σ.length, Nx.alloc hr (o := .list (List.replicate x.toNat xs).flatten) ⟨_, 0, rfl, ro⟩, RV.last hr.len.symm, h⟩
theorem item_neg {value slice : Expr} {v : V} {xs : List V} {k : Int} {x : V} {Q : V → AH → Prop} (b : ObjAt C σ v (.list xs)) (h0 : k < 0) (h1 : -(xs.length : Int) ≤ k) (hf : -(2 ^ 63) ≤ k) (hx : xs[(k + xs.length).toNat]? = some x) (h : Q x σ)
    (hs : isSliceE slice = false := by rfl) : WSub C A value slice v (.int k) σ Q E := by
  refine ⟨?_⟩
  rintro ad s y z hr rv ⟨t, rfl⟩
  obtain ⟨a, vs, rfl, hl, rvs⟩ := b.list hr rv
  have hlen : vs.size = xs.length := by have := rvs.length; simp at this; omega
  obtain ⟨u, hu, ru⟩ := rvs.get hx
  exact tail_any hl.typeIs slot_list_getitem.lookup (wpAny_getItem_list_neg hl h0 (by rw [hlen]; exact h1) hf (by rw [hlen, ← Array.getElem?_toList]; exact hu) (PE.here hr ru h)) (slice_not hs _ _)
theorem rep_one {α : Type} (x : α) : ∀ n : Nat, (List.replicate n [x]).flatten = List.replicate n x
  | 0 => rfl
  | n + 1 => by rw [List.replicate_succ, List.flatten_cons, rep_one x n, List.replicate_succ]; rfl
end
end Mine

-- part Aw16
set_option autoImplicit false
set_option linter.unusedVariables false
namespace Mine
open PySem PySem.W PyProof.Rows

section
variable {C : Cx} {A : Around} {env : Env} {ρ : Loc} {σ : AH} {E : EX}
theorem WE.conseq {e : Expr} {Q Q' : V → AH → Prop} (h : WE C A env e ρ σ Q E) (hq : ∀ v σ1, Q v σ1 → Q' v σ1) : WE C A env e ρ σ Q' E := by
  refine ⟨?_⟩
  intro ad s hr er
  refine wpAny_mono (h.run ad s hr er) ?_ fun _ _ x => x
  rintro u s1 ⟨ad1, σ1, v, n1, r1, h1⟩
  exact ⟨ad1, σ1, v, n1, r1, hq _ _ h1⟩
/-- a comprehension of ints that makes nothing else -/
theorem CompGo_ints {l2 : List (Str × Value)} {sc : Scope} {x : Str} {elt : Expr} {capt : Loc} {K : List V → AH → Prop} {n : Nat} {P : Nat → V} {Cd : AH → Prop} {σ1 : AH} (f : Nat → Int) (hz : n ≤ sizeLine) (hcd : Cd σ1)
    (h : ∀ i pv, i < n → P i = pv → ∀ cenv, Kn cenv (relab sc.names) → WE (C.wg l2) A cenv elt ((x, some pv) :: capt) σ1 (fun v σ3 => v = .int (f i) ∧ σ3 = σ1) (fun _ _ => False))
    (hk : K (((List.range n).map f).map V.int) σ1) : CompGo C A l2 sc x [] elt capt K n P Cd σ1 := by
  refine ⟨hz, fun i acc σ' => σ' = σ1 ∧ acc = ((List.range i).map f).map V.int, ⟨rfl, rfl⟩, ?_, ?_⟩
  · rintro i acc σ' pv hi hp ⟨rfl, rfl⟩
    refine ⟨hcd, fun cenv hc => WIf_nil ?_⟩
    rw [if_pos rfl]
    refine (h i pv hi hp cenv hc).conseq ?_
    rintro v σ3 ⟨rfl, rfl⟩
    refine ⟨rfl, ?_⟩
    rw [List.range_succ]; simp
  · rintro acc σ' ⟨rfl, rfl⟩
    exact ⟨hcd, hk⟩
end
end Mine

-- part Aw17
set_option autoImplicit false
set_option linter.unusedVariables false
namespace Mine
open PySem PySem.W PyProof.Rows

section
variable {C : Cx} {A : Around} {env : Env} {ρ : Loc} {σ : AH} {E : EX}
theorem WS.conseq {st : Stmt} {Q Q' : Fl → Loc → AH → Prop} (h : WS C A env st ρ σ Q E) (hq : ∀ fl ρ' σ1, Q fl ρ' σ1 → Q' fl ρ' σ1) : WS C A env st ρ σ Q' E := by
  refine ⟨?_⟩
  intro ad s hr er
  refine wpAny_mono (h.run ad s hr er) ?_ fun _ _ x => x
  rintro u s1 ⟨ad1, σ1, ρ1, fl, n1, e1, r1, h1⟩
  exact ⟨ad1, σ1, ρ1, fl, n1, e1, r1, hq _ _ _ h1⟩
theorem WSs.conseq {st : List Stmt} {Q Q' : Fl → Loc → AH → Prop} (h : WSs C A env st ρ σ Q E) (hq : ∀ fl ρ' σ1, Q fl ρ' σ1 → Q' fl ρ' σ1) : WSs C A env st ρ σ Q' E := by
  refine ⟨?_⟩
  intro ad s hr er
  refine wpAny_mono (h.run ad s hr er) ?_ fun _ _ x => x
  rintro u s1 ⟨ad1, σ1, ρ1, fl, n1, e1, r1, h1⟩
  exact ⟨ad1, σ1, ρ1, fl, n1, e1, r1, hq _ _ _ h1⟩
/-- an if whose two ways meet -/
theorem WSs_mid {b : Bool} {b1 b2 : List Stmt} {Q : Fl → Loc → AH → Prop} (Mid : Fl → Loc → AH → Prop) (h : if b = true then WSs C A env b1 ρ σ Mid E else WSs C A env b2 ρ σ Mid E)
    (hq : ∀ fl ρ' σ', Mid fl ρ' σ' → Q fl ρ' σ') : if b = true then WSs C A env b1 ρ σ Q E else WSs C A env b2 ρ σ Q E := by
  cases b with
  | true =>
    have h' : WSs C A env b1 ρ σ Mid E := h
    exact h'.conseq hq
  | false =>
    have h' : WSs C A env b2 ρ σ Mid E := h
    exact h'.conseq hq
theorem WC.conseq {f : Value} {vs : List V} {Q Q' : V → AH → Prop} (h : WC C A f vs σ Q E) (hq : ∀ v σ1, Q v σ1 → Q' v σ1) : WC C A f vs σ Q' E := by
  refine ⟨?_⟩
  intro ad s xs hr rv
  refine wpAny_mono (h.run ad s xs hr rv) ?_ fun _ _ x => x
  rintro u s1 ⟨ad1, σ1, v, n1, r1, h1⟩
  exact ⟨ad1, σ1, v, n1, r1, hq _ _ h1⟩
theorem ObjAt.up {J : AH} {v : V} {o : O} (h : ObjAt C σ v o) : ObjAt C (σ ++ J) v o := by
  cases v with
  | ref j =>
    have h : σ[j]? = some o := h
    show (σ ++ J)[j]? = some o
    rw [List.getElem?_append_left (List.getElem?_eq_some_iff.mp h).1]; exact h
  | k x => cases x <;> exact h
  | _ => exact h.elim
end
end Mine

-- part Aw18
set_option autoImplicit false
set_option linter.unusedVariables false
namespace Mine
open PySem PySem.W PyProof.Rows

/- dicts whose keys are strs -/
def putNs (k : Str) (v : V) : List (Str × V) → List (Str × V)
  | [] => [(k, v)]
  | (x, u) :: r => if x = k then (x, v) :: r else (x, u) :: putNs k v r
def putEs (name : Str) (hs : Int) (key v : Value) : List DictEntry → List DictEntry
  | [] => [⟨hs, key, v⟩]
  | e :: r => if e.key.isStr name = true then { e with val := v } :: r else e :: putEs name hs key v r
theorem REs.length {P : Params} {ad : List Addr} {es : List (Str × V)} {ds : List DictEntry} (h : REs P ad es ds) : es.length = ds.length := by
  induction h with
  | nil => rfl
  | cons _ _ ih => simp [ih]
theorem putNs_len {k : Str} {v : V} : ∀ {es : List (Str × V)}, (putNs k v es).length ≤ es.length + 1
  | [] => by simp [putNs]
  | (x, u) :: r => by
    have := putNs_len (k := k) (v := v) (es := r)
    unfold putNs
    split <;> simp <;> omega
theorem REs.put {P : Params} {ad : List Addr} {es : List (Str × V)} {ds : List DictEntry} {k : Str} {v : V} {t : Tok} {x : Value} (h : REs P ad es ds) (rv : RV ad v x) : REs P ad (putNs k v es) (putEs k (PyData.keyHash P k) (.str k t) x ds) := by
  induction h with
  | nil => exact .cons rv .nil
  | @cons k' v' t' x' es ds r h' ih =>
    unfold putNs putEs
    by_cases hk : k' = k
    · subst hk
      rw [if_pos rfl, if_pos (by show (k' == k') = true; simp)]
      exact .cons rv h'
    · rw [if_neg hk, if_neg (by show ¬ (k' == k) = true; simp [hk])]
      exact .cons r ih
theorem findIdx_put (name : Str) (hs : Int) (key v : Value) : ∀ ds : List DictEntry, (match ds.findIdx? (fun e => e.key.isStr name) with | some i => ds.modify i (fun e => { e with val := v }) | none => ds ++ [⟨hs, key, v⟩]) = putEs name hs key v ds
  | [] => rfl
  | e :: r => by
    have ih := findIdx_put name hs key v r
    rw [List.findIdx?_cons]
    unfold putEs
    cases hb : e.key.isStr name with
    | true => simp
    | false =>
      cases hi : r.findIdx? (fun e => e.key.isStr name) with
      | none => rw [hi] at ih; simp at ih ⊢; exact ih
      | some i => rw [hi] at ih; simp at ih ⊢; exact ih
theorem putName_at {c : Value} {d : Option Addr} {es : Array DictEntry} {n : Nat} {sl : Array (Option Value)} {name : Str} {hs : Int} {key v : Value} :
    ∃ es' n', Obj.putName name hs key v ⟨c, d, .dict es n, sl⟩ = ⟨c, d, .dict es' n', sl⟩ ∧ es'.toList = putEs name hs key v es.toList := by
  have e := findIdx_put name hs key v es.toList
  have hi : es.findIdx? (fun e => e.key.isStr name) = es.toList.findIdx? (fun e => e.key.isStr name) := by obtain ⟨l⟩ := es; simp
  rw [Obj.putName_eq]
  unfold Obj.putNameByArray
  cases h : es.findIdx? (fun e => e.key.isStr name) with
  | some i =>
    rw [← hi, h] at e
    exact ⟨_, _, by simp only [h]; rfl, by rw [← e]; obtain ⟨l⟩ := es; simp⟩
  | none =>
    rw [← hi, h] at e
    exact ⟨_, _, by simp only [h]; rfl, by rw [← e]; obtain ⟨l⟩ := es; simp⟩
theorem REs.look {P : Params} {ad : List Addr} {es : List (Str × V)} {ds : List DictEntry} (h : REs P ad es ds) (k : Str) :
    (∀ v, es.lookup k = some v → ∃ e, ds.find? (fun e => e.key.isStr k) = some e ∧ RV ad v e.val) ∧ (es.lookup k = none → ds.find? (fun e => e.key.isStr k) = none) ∧ ds.any (·.refKey) = false := by
  induction h with
  | nil => exact ⟨by simp, by simp, rfl⟩
  | @cons k' v' t' x' es ds r h' ih =>
    obtain ⟨i1, i2, i3⟩ := ih
    have hb : (Value.isStr (.str k' t') k) = (k' == k) := rfl
    by_cases hk : k = k'
    · subst hk
      refine ⟨?_, ?_, ?_⟩
      · intro v hv
        rw [List.lookup_cons, beq_self_eq_true] at hv
        cases hv
        exact ⟨_, by rw [List.find?_cons]; show (match (Value.isStr (.str k t') k) with | true => _ | false => _) = _; rw [hb, beq_self_eq_true], r⟩
      · intro hv
        rw [List.lookup_cons, beq_self_eq_true] at hv
        cases hv
      · rw [List.any_cons, i3]; rfl
    · have e1 : (k == k') = false := by simp [hk]
      have e2 : (k' == k) = false := by simp [Ne.symm hk]
      refine ⟨?_, ?_, ?_⟩
      · intro v hv
        rw [List.lookup_cons, e1] at hv
        obtain ⟨e, h1, h2⟩ := i1 v hv
        exact ⟨e, by rw [List.find?_cons]; show (match (Value.isStr (.str k' t') k) with | true => _ | false => _) = _; rw [hb, e2]; exact h1, h2⟩
      · intro hv
        rw [List.lookup_cons, e1] at hv
        rw [List.find?_cons]; show (match (Value.isStr (.str k' t') k) with | true => _ | false => _) = _; rw [hb, e2]; exact i2 hv
      · rw [List.any_cons, i3]; rfl
theorem lookIn_some {P : Params} {ad : List Addr} {es : List (Str × V)} {ds : Array DictEntry} {c : Value} {d : Option Addr} {n : Nat} {sl : Array (Option Value)} {k : Str} {v : V} (h : REs P ad es ds.toList) (hv : es.lookup k = some v) :
    ∃ x, lookIn k ⟨c, d, .dict ds n, sl⟩ = some (some x) ∧ RV ad v x := by
  obtain ⟨e, he, re⟩ := (h.look k).1 v hv
  exact ⟨e.val, by unfold lookIn; simp only [he], re⟩
theorem lookIn_none {P : Params} {ad : List Addr} {es : List (Str × V)} {ds : Array DictEntry} {c : Value} {d : Option Addr} {n : Nat} {sl : Array (Option Value)} {k : Str} (h : REs P ad es ds.toList) (hv : es.lookup k = none) :
    lookIn k ⟨c, d, .dict ds n, sl⟩ = some none := by
  obtain ⟨_, h2, h3⟩ := h.look k
  unfold lookIn
  simp only [h2 hv]
  rw [if_neg (by rw [h3]; decide)]

/- classes -/
structure ClsOk (K : Frag) (Cl : Addr) : Prop where
  makes : makesIn K Cl = true
  ga : findIn K (.ref Cl) "__getattribute__" = some (some (.builtin "object.__getattribute__"))
  gx : findIn K (.ref Cl) "__getattr__" = some none
  sa : findIn K (.ref Cl) "__setattr__" = some (some (.builtin "object.__setattr__"))
  po : plainOver K Cl = true
  hd : (clsIn K Cl).any (·.hasDict) = true
theorem findObj_own {K : Frag} {Cl : Addr} {od : Obj} {name : Str} {x : Value} (hc : (clsIn K Cl).any (·.hasDict) = true) (hn : findIn K (.ref Cl) name = some none) (hl : lookIn name od = some (some x)) : findObj K Cl (some od) name = some (.value x) := by
  obtain ⟨cd, h1, h2⟩ := any_some hc
  unfold findObj PySem.W.ownOf
  rw [h1, hn]
  simp [h2, hl]
def plainV : V → Bool
  | .k _ => false
  | _ => true
theorem handed_of {ad : List Addr} {v : V} {x : Value} (h : RV ad v x) (hp : plainV v = true) : handedIn x = true := by
  cases v with
  | none => cases h; rfl
  | bool b => cases h; rfl
  | int i => obtain ⟨t, rfl⟩ := h; rfl
  | str s => obtain ⟨t, rfl⟩ := h; rfl
  | bytes b => obtain ⟨t, rfl⟩ := h; rfl
  | ref i => obtain ⟨a, _, rfl⟩ := h; rfl
  | k v => cases hp

section
variable {C : Cx} {A : Around} {env : Env} {ρ : Loc} {σ : AH} {E : EX} {Q : V → AH → Prop}
theorem HR.inst {ad : List Addr} {h : Heap} {i d : Nat} {es : List (Str × V)} {Cl : Addr} {a : Addr} (hr : HR C ad σ h) (b : σ[i]? = some (.inst Cl d)) (bd : σ[d]? = some (.ns es)) (ha : ad[i]? = some a) :
    ∃ dA ds n, ad[d]? = some dA ∧ h.get? dA = some ⟨.type "dict", none, .dict ds n, #[]⟩ ∧ REs C.w.params ad es ds.toList ∧ PySem.W.InstAt h a ⟨.ref Cl, some dA, .plain, #[]⟩ Cl (some ⟨.type "dict", none, .dict ds n, #[]⟩) := by
  obtain ⟨ob, h1, dA, h2, rfl⟩ := hr.obj i _ a b ha
  obtain ⟨od, h3, ds, n, rfl, h4⟩ := hr.obj d _ dA bd h2
  exact ⟨dA, ds, n, h2, h3, h4, ⟨h1, rfl, rfl, h3⟩⟩

/- attributes -/
structure WAt (C : Cx) (A : Around) (v : V) (name : Str) (σ : AH) (Q : V → AH → Prop) (E : EX) : Prop where
  run : ∀ ad s x, HR C ad σ s.heap → RV ad v x → wpAny (model C.prog C.w) A (getAttr x name true) (PE C ad s Q) E s
theorem WE_attr {value : Expr} {attr : Str} {pos : Pos} (h : WE C A env value ρ σ (fun v σ1 => WAt C A v attr σ1 Q E) E) (hv : plainBase value = true := by rfl) : WE C A env (.Attribute value attr pos) ρ σ Q E := by
  refine ⟨?_⟩
  intro ad s hr er
  have e1 : attributeBase value attr env (eval value env) = eval value env := by cases value <;> first | rfl | cases hv
  refine Attribute_any_ (wpAny_mono (h.run ad s hr er) ?_ fun _ _ x => x) (by rw [arm_eval_Attribute, e1])
  rintro u s1 ⟨ad1, σ1, v, n1, r1, h1⟩
  exact wpAny_mono (h1.run ad1 s1 u n1.hr r1) (fun u s' p => PE.trans n1 p) fun _ _ x => x
theorem at_inst {K : Frag} {Cl : Addr} {i d : Nat} {es : List (Str × V)} {name : Str} {v : V} (X : K.In C.G) (ok : ClsOk K Cl) (hn : findIn K (.ref Cl) name = some none) (b : σ[i]? = some (.inst Cl d)) (bd : σ[d]? = some (.ns es))
    (hv : es.lookup name = some v) (hp : plainV v = true) (h : Q v σ) : WAt C A (.ref i) name σ Q E := by
  refine ⟨?_⟩
  rintro ad s x hr ⟨a, ha, rfl⟩
  obtain ⟨dA, ds, n, h2, h3, h4, I⟩ := hr.inst b bd ha
  obtain ⟨x, hx, rx⟩ := lookIn_some (c := .type "dict") (d := none) (n := n) (sl := #[]) h4 hv
  exact get_value (X.keeps hr.keep) I ok.ga (findObj_own ok.hd hn hx) (handed_of rx hp) (PE.tok _ hr rx h)
theorem WM_inst {K : Frag} {Cl : Addr} {i d : Nat} {es : List (Str × V)} {name : Str} {f : Addr} {KK : Value → List V → AH → Prop} (X : K.In C.G) (ok : ClsOk K Cl) (hf : findIn K (.ref Cl) name = some (some (.ref f))) (ht : typeIn K (.ref f) = some (.type "function"))
    (b : σ[i]? = some (.inst Cl d)) (bd : σ[d]? = some (.ns es)) (hs : es.lookup name = none) (h : KK (.ref f) [.ref i] σ) : WM C A (.ref i) name σ KK E := by
  refine ⟨?_⟩
  rintro ad s x pl hr ⟨a, ha, rfl⟩
  obtain ⟨dA, ds, n, h2, h3, h4, I⟩ := hr.inst b bd ha
  have hx := lookIn_none (c := .type "dict") (d := none) (n := n) (sl := #[]) h4 hs
  refine method_fn (X.keeps hr.keep) I ok.ga ok.gx hf ht (by unfold shadowIn; simp only [hx]; rfl) ⟨ad, σ, [.ref i], Nx.refl hr, .cons ⟨a, ha, rfl⟩ .nil, h⟩

/- stores to attributes -/
structure WSt (C : Cx) (A : Around) (v : V) (name : Str) (x : V) (σ : AH) (Q : AH → Prop) (E : EX) : Prop where
  run : ∀ ad s vx xx, HR C ad σ s.heap → RV ad v vx → RV ad x xx → wpAny (model C.prog C.w) A (setAttr vx name xx) (fun _ s' => ∃ ad' σ', Nx C [] ad s ad' σ' s' ∧ Q σ') E s
theorem WS_setattr {o e : Expr} {attr : Str} {p pos : Pos} {Q : Fl → Loc → AH → Prop} (h : WE C A env e ρ σ (fun x σ1 => WE C A env o ρ σ1 (fun v σ2 => WSt C A v attr x σ2 (fun σ3 => Q .next ρ σ3) E) E) E)
    (hs : isCompE e = false := by rfl) : WS C A env (.Assign [.Attribute o attr p] e pos) ρ σ Q E := by
  refine ⟨?_⟩
  intro ad s hr er
  refine plainObj_wpAny_Assign_Attribute (wpAny_mono (h.run ad s hr er) ?_ fun _ _ x => x) (swaps_not hs)
  rintro x s1 ⟨ad1, σ1, vx, n1, r1, h1⟩
  refine wpAny_mono (h1.run ad1 s1 n1.hr (er.next n1)) ?_ fun _ _ x => x
  rintro ov s2 ⟨ad2, σ2, vo, n2, r2, h2⟩
  refine wpAny_mono (h2.run ad2 s2 ov x n2.hr r2 (n2.rv r1)) ?_ fun _ _ x => x
  rintro _ s3 ⟨ad3, σ3, n3, h3⟩
  exact PS.ofE er (n1.trans (n2.trans n3)) (fl := .next) rfl h3
theorem set_inst {K : Frag} {Cl : Addr} {i d : Nat} {es : List (Str × V)} {name : Str} {x : V} {Q : AH → Prop} (X : K.In C.G) (ok : ClsOk K Cl) (ht : takerIn K Cl name = some none) (b : σ[i]? = some (.inst Cl d)) (bd : σ[d]? = some (.ns es))
    (hz : es.length ≤ sizeLine) (h : Q (σ.set d (.ns (putNs name x es)))) : WSt C A (.ref i) name x σ Q E := by
  refine ⟨?_⟩
  rintro ad s vx xx hr ⟨a, ha, rfl⟩ rx
  obtain ⟨dA, ds, n, h2, h3, h4, I⟩ := hr.inst b bd ha
  have X' := X.keeps hr.keep
  refine set_plain X' I ok.sa ?_
  refine osa_open (s := { s with toks := s.toks + 1 }) X' I ok.po ht fun bb => ?_
  obtain ⟨cd, hc, hd'⟩ := any_some ok.hd
  obtain ⟨ds', n', e', hl'⟩ := putName_at (c := .type "dict") (d := none) (es := ds) (n := n) (sl := #[]) (name := name) (hs := PyData.keyHash C.w.params name) (key := .str name (s.toks + 1)) (v := xx)
  refine wpAny_bind (wpAny_pure (wpAny_bind (wpAny_bind (wpAny_loadPart I.at_ (wpAny_bind (Looks.here (s := { s with toks := s.toks + 1 }) (looks_clsIn X' hc) ?_))))))
  rw [hd']
  refine wpAny_pure (a := some dA) (wpAny_bind (wpAny_pure (wpAny_bind ?_)))
  unfold nsSet
  refine wpAny_bind (wpAny_bind (wpAny_askSetting (wpAny_pure (wpAny_bind (wpAny_mkText (wpAny_bind (wpAny_loadPart h3 ?_)))))))
  dsimp only
  have c0 : (!ds.any (·.key.isStr name) && ds.any (·.refKey)) = false := by
    rw [← Array.any_toList, ← Array.any_toList, (h4.look name).2.2, Bool.and_false]
  rw [aRefKeyMayBeTheName_at, c0]
  refine wpAny_updatePart h3 ?_
  have D' := Heap.get?_update_self (Obj.putName name (PyData.keyHash C.w.params name) (.str name (s.toks + 1)) xx) h3 (by rw [e']; rfl)
  rw [e'] at D'
  have hsz : ds'.size ≤ sizeLine + 1 := by
    have r1 := (h4.put (k := name) (t := s.toks + 1) rx).length
    rw [← hl'] at r1
    have e3 : ds'.toList.length = ds'.size := Array.length_toList
    have := putNs_len (k := name) (v := x) (es := es)
    omega
  refine wpAny_bind (wpAny_lookBehind D' (pastItsLine_dict hsz) ?_)
  exact wpAny_pure ⟨ad, _, Nx.set (o := .ns (putNs name x es)) hr h2 (Heap.SameBut.update ..) D' ⟨ds', n', rfl, by rw [hl']; exact h4.put rx⟩, h⟩

/- a class called -/
theorem WC_new {K : Frag} {Cl fI : Addr} {vs : List V} (X : K.In C.G) (ok : ClsOk K Cl) (hi : findIn K (.ref Cl) "__init__" = some (some (.ref fI))) (hf : typeIn K (.ref fI) = some (.type "function"))
    (h : ∀ xs, WCc C (A.under (.builtin "type.__call__" ⟨.ref Cl :: xs, []⟩)) (.ref fI) (.ref (σ.length + 1) :: vs) (σ ++ [.ns []] ++ [.inst Cl σ.length]) (fun v σ' => v = .none ∧ Q (.ref (σ.length + 1)) σ') E) : WC C A (.ref Cl) vs σ Q E := by
  refine ⟨?_⟩
  rintro ad ⟨hh, g, dr, t, os⟩ xs hr rv
  have X' := X.keeps hr.keep
  refine wpAny_call (make_core (makes_of X' ok.makes) (looks_findIn X' hi) (fun self => bind_fn X' self hf) (.inl rfl) ?_)
  have n1 := Nx.alloc (s := ⟨hh, g, dr, t, os⟩) (o := .ns []) (ob := emptyDict) hr ⟨#[], 0, rfl, .nil⟩
  have n2 := Nx.alloc (o := .inst Cl σ.length) (ob := instObj Cl hh.objs.size) n1.hr ⟨hh.objs.size, by rw [← hr.len]; simp, rfl⟩
  have n12 := n1.trans n2
  have hsz : (hh.push emptyDict).objs.size = hh.objs.size + 1 := Heap.size_push ..
  have rx : RV (ad ++ [hh.objs.size] ++ [hh.objs.size + 1]) (.ref (σ.length + 1)) (.ref (hh.objs.size + 1)) := ⟨_, by rw [← hr.len]; simp, rfl⟩
  have e2 : (ad ++ [hh.objs.size] ++ [(hh.push emptyDict).objs.size]) = ad ++ [hh.objs.size] ++ [hh.objs.size + 1] := by rw [hsz]
  simp only [hsz] at n12 n2
  refine codeAny_mono ((h _).run _ _ _ n2.hr (.cons rx (n12.rvs rv))) fun r s' z => ?_
  rcases r with e | (v | _ | _ | _) <;> first | exact z | exact z.elim | skip
  obtain ⟨ad', σ', v', n3, r3, rfl, hq⟩ := z
  cases r3
  exact ⟨rfl, ad', σ', _, n12.trans n3, n3.rv rx, hq⟩
end
end Mine

-- part Aw19
set_option autoImplicit false
set_option linter.unusedVariables false
namespace Mine
open PySem PySem.W PyProof.Rows

theorem RVs.set {ad : List Addr} {xs : List V} {vs : List Value} {x : V} {u : Value} (h : RVs ad xs vs) (r : RV ad x u) : ∀ i : Nat, RVs ad (xs.set i x) (vs.set i u) := by
  induction h with
  | nil => intro i; exact .nil
  | cons a h' ih =>
    intro i
    cases i with
    | zero => exact .cons r h'
    | succ i => exact .cons a (ih i)
section
variable {prog : Program} {w : World} {A : Around} {E : Value → Shared → Prop} {s : Shared}
theorem setItem_plain {l : Addr} {items : Array Value} {n : Nat} {k : Int} {t : Tok} {v : Value} {Q : Unit → Shared → Prop} (ho : s.heap.get? l = some ⟨.type "list", none, .seq items n, #[]⟩) (h0 : 0 ≤ k) (hfit : k < 2 ^ 63) (hn : k < items.size)
    (hQ : ∀ h' n', h'.get? l = some ⟨.type "list", none, .seq (items.setIfInBounds k.toNat v) n', #[]⟩ → Heap.SameBut l s.heap h' → Q () { s with heap := h' }) :
    wpAny (model prog w) A (setItem (.ref l) (.int k t) v) Q E s := by
  have hl : s.heap.IsList l items := ⟨_, ho, rfl, n, rfl⟩
  have hd : (⟨.type "list", none, .seq items n, #[]⟩ : Obj).data = .seq items n := rfl
  unfold setItem
  try with_reducible refine wpAny_holding ?_
  first | refine wpAny_bind (wpAny_pure ?_) | skip
  refine wpAny_bind (wpAny_sequenceKey hl.typeIs (by decide) ?_)
  refine wpAny_bind (wpAny_callSpecial?_slot (name := Str.ofString "__setitem__") hl.typeIs PySem.slot_list_setitem
    (wpAny_call_entry PySem.slot_list_setitem hl.typeIs PySem.entry_list_setitem ?_ (PySem.args_list_setitem _ _ _)))
  show wpAny _ _ (Builtin.List.listSubscript? (.int k t) >>= _) _ _ s
  refine wpAny_bind (wpAny_listSubscript_int (fitsIndex_of h0 hfit) ?_)
  clear hfit
  obtain ⟨j, rfl⟩ := Int.eq_ofNat_of_zero_le h0
  have hj : j < items.size := by omega
  have hx' : items[j]? = some items[j] := Array.getElem?_eq_getElem hj
  show wpAny _ _ ((seqItemAt l j >>= fun r => pure (r.map (j, ·))) >>= _) _ _ s
  refine wpAny_bind (wpAny_bind (wpAny_seqItemAt ho hd (wpAny_pure ?_)))
  rw [hx']
  show wpAny _ _ (setSeqItemAt l j v >>= _) _ _ s
  obtain ⟨n', hd'⟩ : ∃ n', Obj.mapSeq (·.setIfInBounds j v) ⟨.type "list", none, .seq items n, #[]⟩ = ⟨.type "list", none, .seq (items.setIfInBounds j v) n', #[]⟩ := ⟨_, rfl⟩
  have hfin := Heap.get?_update_self (Obj.mapSeq (·.setIfInBounds j v)) ho (by rw [hd']; rfl)
  rw [hd'] at hfin
  refine wpAny_bind (wpAny_setSeqItemAt ho hd ?_)
  first
    | exact wpAny_bind (wpAny_pure (wpAny_pure ⟨.none, rfl, wpAny_pure (hQ _ n' hfin (Heap.SameBut.update ..))⟩))
    | exact wpAny_pure ⟨.none, rfl, wpAny_pure (hQ _ n' hfin (Heap.SameBut.update ..))⟩
end

/- dicts -/
inductive RKs (ad : List Addr) : List (Str × V) → List (Str × Value) → Prop
  | nil : RKs ad [] []
  | cons {k : Str} {v : V} {x : Value} {es : List (Str × V)} {kvs : List (Str × Value)} : RV ad v x → RKs ad es kvs → RKs ad ((k, v) :: es) ((k, x) :: kvs)
theorem RKs.names {ad : List Addr} {es : List (Str × V)} {kvs : List (Str × Value)} (h : RKs ad es kvs) : kvs.map (·.1) = es.map (·.1) := by
  induction h with
  | nil => rfl
  | cons _ _ ih => simp [ih]
theorem RKs.length {ad : List Addr} {es : List (Str × V)} {kvs : List (Str × Value)} (h : RKs ad es kvs) : kvs.length = es.length := by
  induction h with
  | nil => rfl
  | cons _ _ ih => simp [ih]
theorem RKs.at {ad : List Addr} {es : List (Str × V)} {kvs : List (Str × Value)} (h : RKs ad es kvs) (k : Str) : (∀ v, es.lookup k = some v → ∃ x, valueAt kvs k = some x ∧ RV ad v x) ∧ (es.lookup k = none → valueAt kvs k = none) := by
  induction h with
  | nil => exact ⟨by simp, fun _ => rfl⟩
  | @cons k' v' x' es kvs r h' ih =>
    unfold valueAt at ih ⊢
    by_cases hk : k = k'
    · subst hk
      refine ⟨fun v hv => ?_, fun hv => ?_⟩
      · rw [List.lookup_cons, beq_self_eq_true] at hv
        cases hv
        exact ⟨x', by rw [List.find?_cons]; simp, r⟩
      · rw [List.lookup_cons, beq_self_eq_true] at hv
        cases hv
    · have e1 : (k == k') = false := by simp [hk]
      have e2 : decide (k' = k) = false := by simp [Ne.symm hk]
      refine ⟨fun v hv => ?_, fun hv => ?_⟩
      · rw [List.lookup_cons, e1] at hv
        rw [List.find?_cons, e2]
        exact ih.1 v hv
      · rw [List.lookup_cons, e1] at hv
        rw [List.find?_cons, e2]
        exact ih.2 hv
theorem RKs.mapS {ad : List Addr} {es : List (Str × V)} {kvs : List (Str × Value)} {k : Str} {v : V} {x : Value} (h : RKs ad es kvs) (rv : RV ad v x) : (es.map (·.1)).Nodup → k ∈ es.map (·.1) → RKs ad (putNs k v es) (kvs.map fun kv => if kv.1 = k then (kv.1, x) else kv) := by
  induction h with
  | nil => intro _ hm; cases hm
  | @cons k' v' x' es kvs r h' ih =>
    intro nd hm
    simp only [List.map_cons, List.nodup_cons] at nd
    unfold putNs
    rw [List.map_cons]
    by_cases hk : k' = k
    · subst hk
      show RKs ad (if k' = k' then (k', v) :: es else (k', v') :: putNs k' v es) ((if k' = k' then (k', x) else (k', x')) :: _)
      rw [if_pos rfl, if_pos rfl, map_store_of_not_mem _ _ _ (by rw [h'.names]; exact nd.1)]
      exact .cons rv h'
    · show RKs ad (if k' = k then (k', v) :: es else (k', v') :: putNs k v es) ((if k' = k then (k', x) else (k', x')) :: _)
      rw [if_neg hk, if_neg hk]
      refine .cons r (ih nd.2 ?_)
      rcases List.mem_cons.mp hm with e | hm
      · exact absurd e.symm hk
      · exact hm
theorem RKs.snoc {ad : List Addr} {es : List (Str × V)} {kvs : List (Str × Value)} {k : Str} {v : V} {x : Value} (h : RKs ad es kvs) (rv : RV ad v x) : k ∉ es.map (·.1) → RKs ad (putNs k v es) (kvs ++ [(k, x)]) := by
  induction h with
  | nil => intro _; exact .cons rv .nil
  | @cons k' v' x' es kvs r h' ih =>
    intro hm
    simp only [List.map_cons, List.mem_cons, not_or] at hm
    unfold putNs
    rw [if_neg (Ne.symm hm.1)]
    exact .cons r (ih hm.2)
theorem RKs.stored {ad : List Addr} {es : List (Str × V)} {kvs : List (Str × Value)} {k : Str} {v : V} {x : Value} (h : RKs ad es kvs) (rv : RV ad v x) (nd : (es.map (·.1)).Nodup) : RKs ad (putNs k v es) (PySem.stored kvs k x) := by
  unfold PySem.stored
  by_cases hm : k ∈ es.map (·.1)
  · rw [if_pos]
    · exact h.mapS rv nd hm
    · rw [← h.names] at hm
      obtain ⟨kv, h1, h2⟩ := List.mem_map.mp hm
      exact List.any_eq_true.mpr ⟨kv, h1, by simpa using h2⟩
  · rw [if_neg]
    · exact h.snoc rv hm
    · intro ha
      obtain ⟨kv, h1, h2⟩ := List.any_eq_true.mp ha
      exact hm (by rw [← h.names]; exact List.mem_map.mpr ⟨kv, h1, by simpa using h2⟩)
theorem REs.keys {prog : Program} {w : World} {ad : List Addr} {es : List (Str × V)} {ds : List DictEntry} (h : REs w.params ad es ds) : ∀ e ∈ ds, ∃ k, (strKind prog w).is k e.key = true ∧ e.hash = (strKind prog w).hash k := by
  induction h with
  | nil => intro e he; cases he
  | @cons k v t x es ds r h' ih =>
    intro e he
    rcases List.mem_cons.mp he with rfl | he
    · exact ⟨k, strKind_is .., rfl⟩
    · exact ih e he
theorem REs.pairs {prog : Program} {w : World} {ad : List Addr} {es : List (Str × V)} {ds : List DictEntry} (h : REs w.params ad es ds) : ∃ kvs, Pairs (strKind prog w) ds kvs ∧ RKs ad es kvs := by
  induction h with
  | nil => exact ⟨[], .nil, .nil⟩
  | @cons k v t x es ds r h' ih =>
    obtain ⟨kvs, h1, h2⟩ := ih
    exact ⟨(k, x) :: kvs, .cons (strKind_is ..) rfl h1, .cons r h2⟩
theorem REs.of {prog : Program} {w : World} {ad : List Addr} {ds : List DictEntry} {kvs : List (Str × Value)} (hp : Pairs (strKind prog w) ds kvs) : ∀ {es : List (Str × V)}, (∀ e ∈ ds, ∃ k, (strKind prog w).is k e.key = true ∧ e.hash = (strKind prog w).hash k) → RKs ad es kvs → REs w.params ad es ds := by
  induction hp with
  | nil => intro es _ h; cases h; exact .nil
  | @cons e kv ds kvs h1 h2 _ ih =>
    intro es hk h
    cases h with
    | @cons k v x es kvs rv h' =>
      obtain ⟨k2, h3, h4⟩ := hk e (.head _)
      have := Value.isStrOf_inj _ _ _ h1 h3
      subst this
      obtain ⟨t, ht⟩ := Value.isStrOf_shape h1
      obtain ⟨hsh, key, val⟩ := e
      dsimp only at h2 h4 ht
      subst h2 h4 ht
      exact .cons rv (ih (fun e he => hk e (.tail _ he)) h')

section
variable {C : Cx} {A : Around} {env : Env} {ρ : Loc} {σ : AH} {E : EX} {Q : V → AH → Prop}
theorem HR.dict {ad : List Addr} {h : Heap} {j : Nat} {es : List (Str × V)} {a : Addr} (hr : HR C ad σ h) (b : σ[j]? = some (.ns es)) (nd : (es.map (·.1)).Nodup) (ha : ad[j]? = some a) :
    ∃ kvs, h.DictOf (strKind C.prog C.w) a kvs ∧ RKs ad es kvs ∧ (a == sysModules) = false := by
  obtain ⟨od, h3, ds, n, rfl, h4⟩ := hr.obj j _ a b ha
  obtain ⟨kvs, hp, hk⟩ := h4.pairs (prog := C.prog) (w := C.w)
  refine ⟨kvs, ⟨_, ds, n, h3, ⟨rfl, rfl, rfl⟩, rfl, fun e he => h4.keys e (Array.mem_toList_iff.mpr he), hp, by rw [hk.names]; exact nd⟩, hk, ?_⟩
  exact beq_eq_false_iff_ne.mpr (hr.low a (List.mem_of_getElem? ha))
theorem in_dict {j : Nat} {es : List (Str × V)} {k : Str} (b : σ[j]? = some (.ns es)) (nd : (es.map (·.1)).Nodup) (h : Q (.bool (es.lookup k).isSome) σ) : WOp2 C A (compareOp .In) (.str k) (.ref j) σ Q E := by
  refine ⟨?_⟩
  rintro ad s x y hr ⟨t, rfl⟩ ⟨a, ha, rfl⟩
  obtain ⟨kvs, D, hk, lo⟩ := hr.dict b nd ha
  refine wpAny_in_of (strKind_is ..) lo D.mapOf ?_
  have e : (valueAt kvs k).isSome = (es.lookup k).isSome := by
    obtain ⟨h1, h2⟩ := hk.at k
    cases hl : es.lookup k with
    | none => rw [h2 hl]; rfl
    | some v => obtain ⟨x, hx, _⟩ := h1 v hl; rw [hx]; rfl
  rw [e]
  exact PE.tok (v := .bool _) _ hr rfl h
theorem nin_dict {j : Nat} {es : List (Str × V)} {k : Str} (b : σ[j]? = some (.ns es)) (nd : (es.map (·.1)).Nodup) (h : Q (.bool (!(es.lookup k).isSome)) σ) : WOp2 C A (compareOp .NotIn) (.str k) (.ref j) σ Q E := by
  refine ⟨?_⟩
  rintro ad s x y hr ⟨t, rfl⟩ ⟨a, ha, rfl⟩
  obtain ⟨kvs, D, hk, lo⟩ := hr.dict b nd ha
  refine wpAny_notIn_of (strKind_is ..) lo D.mapOf ?_
  have e : (valueAt kvs k).isSome = (es.lookup k).isSome := by
    obtain ⟨h1, h2⟩ := hk.at k
    cases hl : es.lookup k with
    | none => rw [h2 hl]; rfl
    | some v => obtain ⟨x, hx, _⟩ := h1 v hl; rw [hx]; rfl
  rw [e]
  exact PE.tok (v := .bool _) _ hr rfl h
theorem item_dict {value slice : Expr} {j : Nat} {es : List (Str × V)} {k : Str} {v : V} (b : σ[j]? = some (.ns es)) (nd : (es.map (·.1)).Nodup) (hv : es.lookup k = some v) (h : Q v σ)
    (hs : isSliceE slice = false := by rfl) : WSub C A value slice (.ref j) (.str k) σ Q E := by
  refine ⟨?_⟩
  rintro ad s y z hr ⟨a, ha, rfl⟩ ⟨t, rfl⟩
  obtain ⟨kvs, D, hk, lo⟩ := hr.dict b nd ha
  obtain ⟨x, hx, rx⟩ := (hk.at k).1 v hv
  exact tail_any D.typeIs slot_dict_getitem.lookup (wpAny_getItem_of (strKind_is ..) D.mapOf hx (PE.tok _ hr rx h)) (slice_not hs _ _)
theorem WE_dict0 {pos : Pos} (h : Q (.ref σ.length) (σ ++ [.ns []])) : WE C A env (.Dict [] [] pos) ρ σ Q E := by
  refine ⟨?_⟩
  intro ad s hr er
  exact wpAny_Dict_empty ⟨_, _, .ref σ.length, Nx.alloc hr (o := .ns []) ⟨#[], 0, rfl, .nil⟩, RV.last hr.len.symm, h⟩

/- stores to items -/
structure WSi (C : Cx) (A : Around) (o i x : V) (σ : AH) (Q : AH → Prop) (E : EX) : Prop where
  run : ∀ ad s vo vi vx, HR C ad σ s.heap → RV ad o vo → RV ad i vi → RV ad x vx → wpAny (model C.prog C.w) A (setItem vo vi vx) (fun _ s' => ∃ ad' σ', Nx C [] ad s ad' σ' s' ∧ Q σ') E s
theorem WS_setitem {o i e : Expr} {p pos : Pos} {Q : Fl → Loc → AH → Prop} (h : WE C A env e ρ σ (fun x σ1 => WE C A env o ρ σ1 (fun v σ2 => WE C A env i ρ σ2 (fun k σ3 => WSi C A v k x σ3 (fun σ4 => Q .next ρ σ4) E) E) E) E)
    (hs : isCompE e = false := by rfl) : WS C A env (.Assign [.Subscript o i p] e pos) ρ σ Q E := by
  refine ⟨?_⟩
  intro ad s hr er
  refine wpAny_Assign_Subscript (wpAny_mono (h.run ad s hr er) ?_ fun _ _ x => x) (swaps_not hs)
  rintro x s1 ⟨ad1, σ1, vx, n1, r1, h1⟩
  refine wpAny_mono (h1.run ad1 s1 n1.hr (er.next n1)) ?_ fun _ _ x => x
  rintro ov s2 ⟨ad2, σ2, vo, n2, r2, h2⟩
  refine wpAny_mono (h2.run ad2 s2 n2.hr ((er.next n1).next n2)) ?_ fun _ _ x => x
  rintro iv s3 ⟨ad3, σ3, vi, n3, r3, h3⟩
  refine wpAny_mono (h3.run ad3 s3 ov iv x n3.hr (n3.rv r2) r3 (n3.rv (n2.rv r1))) ?_ fun _ _ x => x
  rintro _ s4 ⟨ad4, σ4, n4, h4⟩
  exact PS.ofE er (n1.trans (n2.trans (n3.trans n4))) (fl := .next) rfl h4
theorem seti_list {j : Nat} {xs : List V} {k : Int} {x : V} {Q : AH → Prop} (b : σ[j]? = some (.list xs)) (h0 : 0 ≤ k) (hf : k < 2 ^ 63) (hn : k < xs.length) (h : Q (σ.set j (.list (xs.set k.toNat x)))) : WSi C A (.ref j) (.int k) x σ Q E := by
  refine ⟨?_⟩
  rintro ad s vo vi vx hr ⟨a, ha, rfl⟩ ⟨t, rfl⟩ rx
  obtain ⟨ob, h1, vs, n, rfl, rvs⟩ := hr.obj j _ a b ha
  have hlen : vs.size = xs.length := by have := rvs.length; simp at this; omega
  refine setItem_plain h1 h0 hf (by omega) fun h' n' hg hs => ⟨ad, _, Nx.set (tk := s.toks) (o := .list (xs.set k.toNat x)) hr ha hs hg ⟨_, n', rfl, ?_⟩, h⟩
  rw [Array.toList_setIfInBounds]
  exact rvs.set rx _
theorem seti_dict {j : Nat} {es : List (Str × V)} {k : Str} {x : V} {Q : AH → Prop} (b : σ[j]? = some (.ns es)) (nd : (es.map (·.1)).Nodup) (hz : es.length ≤ sizeLine) (h : Q (σ.set j (.ns (putNs k x es)))) : WSi C A (.ref j) (.str k) x σ Q E := by
  refine ⟨?_⟩
  rintro ad s vo vi vx hr ⟨a, ha, rfl⟩ ⟨t, rfl⟩ rx
  obtain ⟨kvs, D, hk, lo⟩ := hr.dict b nd ha
  refine wpAny_setItem_pairs (strKind_is ..) D (fun h' D' hs => ?_) (by rw [hk.length]; exact hz)
  obtain ⟨o, es', ep, ho, ⟨hc1, hc2, hc3⟩, hd, hks, hp, hn⟩ := D'
  obtain ⟨oc, odi, oda, osl⟩ := o
  dsimp only at hc1 hc2 hc3 hd
  subst hc1 hc2 hc3 hd
  exact ⟨ad, _, Nx.set (o := .ns (putNs k x es)) hr ha hs ho ⟨es', ep, rfl, REs.of hp (fun e he => hks e (Array.mem_toList_iff.mp he)) (hk.stored rx nd)⟩, h⟩

/- ints -/
theorem pow_ii {i n : Int} (hn : 0 ≤ n) (hn2 : n ≤ 1000000) (ha : i.natAbs < 2 ^ 64) (h : Q (.int (i ^ n.toNat)) σ) : WOp2 C A (binaryOp .Pow) (.int i) (.int n) σ Q E := by
  refine ⟨?_⟩
  rintro ad s x y hr ⟨t, rfl⟩ ⟨u, rfl⟩
  exact pow_int_small hn hn2 ha (PE.tok (v := .int (i ^ n.toNat)) _ hr ⟨_, rfl⟩ h)
theorem shl_ii {i n : Int} (hn : 0 ≤ n) (hn2 : n ≤ 1000000) (ha : i.natAbs < 2 ^ 64) (h : Q (.int (i * 2 ^ n.toNat)) σ) : WOp2 C A (binaryOp .LShift) (.int i) (.int n) σ Q E := by
  refine ⟨?_⟩
  rintro ad s x y hr ⟨t, rfl⟩ ⟨u, rfl⟩
  exact lshift_int_small hn hn2 ha (PE.tok (v := .int (i * 2 ^ n.toNat)) _ hr ⟨_, rfl⟩ h)
theorem WE_globi {C : Cx} {l : List (Str × Value)} {x : Str} {pos : Pos} {i : Int} {t : Tok} {Q : V → AH → Prop} (hx : (x, Value.int i t) ∈ l) (h : Q (.int i) σ) : WE (C.wg l) A env (.Name x pos) ρ σ Q E := by
  refine ⟨?_⟩
  intro ad s hr er
  have := (WE_glob (C := C) (A := A) (env := env) (ρ := ρ) (σ := σ) (E := E) (pos := pos) (Q := fun v σ1 => v = .k (.int i t) ∧ σ1 = σ) hx ⟨rfl, rfl⟩).run ad s hr er
  refine wpAny_mono this ?_ fun _ _ x => x
  rintro u s1 ⟨ad1, σ1, v, n1, r1, rfl, rfl⟩
  cases r1
  exact ⟨ad1, _, .int i, n1, ⟨t, rfl⟩, h⟩
theorem RVs.toInts {ad : List Addr} : ∀ {ns : List Int} {vs : List Value}, RVs ad (ns.map .int) vs → IntsAre vs ns
  | [], _, .nil => .nil
  | n :: ns, _, .cons ⟨t, e⟩ h => by subst e; exact .cons _ _ (RVs.toInts h)
theorem WC_minL {v : V} {ns : List Int} (hA : A.handled = none) (b : ObjAt C σ v (.list (ns.map .int))) (hne : 0 < ns.length) (h : ∀ m, m ∈ ns → (∀ a ∈ ns, m ≤ a) → Q (.int m) σ) : WC C A (.builtin "min") [v] σ Q E := by
  refine ⟨?_⟩
  rintro ad s us hr (_ | ⟨rv, _ | _⟩)
  obtain ⟨a, vs, rfl, hl, rvs⟩ := b.list hr rv
  have hi := rvs.toInts
  obtain ⟨xs, e⟩ := hi.allInts.items
  have hns : ns = xs.toList.map (·.1) := by
    rw [← hi.numsOf, ← nums_intItems, ← e]
  have hsz : 0 < xs.size := by
    have h3 := hne; rw [hns, List.length_map, Array.length_toList] at h3; exact h3
  have hl' : s.heap.IsList a vs.toList.toArray := by simpa using hl
  rw [e] at hl'
  refine wpAny_sz (min_intList hA hl' hsz fun v h' tk hv hk hz => ?_)
  obtain ⟨t, rfl⟩ := intItems_at hv
  obtain ⟨h1, h2⟩ := argBest_lt (numAt xs) (xs.size - 1)
  refine ⟨ad, σ, .int _, Nx.keeps hz hr hk, ⟨t, rfl⟩, h _ ?_ fun a ha => ?_⟩
  · rw [hns, numAt_eq]; exact getD_mem (by rw [List.length_map, Array.length_toList]; omega)
  · rw [hns] at ha
    obtain ⟨j, hj, rfl⟩ := mem_getD ha
    rw [List.length_map, Array.length_toList] at hj
    rw [← numAt_eq]; exact h2 j (by omega)
end
end Mine

-- part Aw20
set_option autoImplicit false
set_option linter.unusedVariables false
namespace Mine
open PySem PySem.W PyProof.Rows

theorem wpAny_szE {α : Type} {M : Model} {A : Around} {s : Shared} {t : Sem α} {Q : α → Shared → Prop} {E : Value → Shared → Prop}
    (h : wpAny M A t Q (fun e s' => s.heap.objs.size ≤ s'.heap.objs.size → E e s') s) : wpAny M A t Q E s :=
  have h2 : wpAny M A t (fun a s' => s.heap.objs.size ≤ s'.heap.objs.size ∧ Q a s') (fun e s' => s.heap.objs.size ≤ s'.heap.objs.size ∧ (s.heap.objs.size ≤ s'.heap.objs.size → E e s')) s :=
    fun Γ p hΓ => wp_sz M Γ s.heap.objs.size t _ _ p s (Nat.le_refl _) (h Γ p hΓ)
  wpAny_mono h2 (fun _ _ x => x.2) (fun _ _ x => x.2 x.1)

/- the frames around -/
def frs (l : List Env) : List Addr := l.filterMap (·.frame)
def Frs (C : Cx) (ad : List Addr) (h : Heap) (l : List Env) : Prop := ∀ env ∈ l, env.scope.kind ≠ .module ∧ ∃ L o, env.frame = some L ∧ C.G.get? L = none ∧ L ∉ ad ∧ h.get? L = some o ∧ ∀ vs, o.data ≠ .fields vs
section
variable {C : Cx} {A : Around} {env : Env} {ρ : Loc} {σ : AH} {E : EX}
theorem Frs.mem {ad : List Addr} {h : Heap} {l : List Env} (f : Frs C ad h l) {b : Addr} (hb : b ∈ frs l) : C.G.get? b = none ∧ b ∉ ad ∧ ∃ o, h.get? b = some o ∧ ∀ vs, o.data ≠ .fields vs := by
  obtain ⟨env, he, hf⟩ := List.mem_filterMap.mp hb
  obtain ⟨_, L, o, h1, h2, h3, h4, h5⟩ := f env he
  rw [h1] at hf; cases hf
  exact ⟨h2, h3, o, h4, h5⟩
theorem Nx.notin {ch ad ad1 : List Addr} {σ1 : AH} {s s1 : Shared} (n : Nx C ch ad s ad1 σ1 s1) {b : Addr} {o : Obj} (e : s.heap.get? b = some o) (hb : b ∉ ad) : b ∉ ad1 := by
  obtain ⟨nw, e1, hn⟩ := n.pre
  rw [e1]; intro hm
  rcases List.mem_append.mp hm with hm | hm
  · exact hb hm
  · exact absurd (Heap.lt_size e) (Nat.not_lt.mpr (hn b hm))
theorem Frs.next {ch ad ad1 : List Addr} {σ1 : AH} {s s1 : Shared} {l : List Env} (f : Frs C ad s.heap l) (n : Nx C ch ad s ad1 σ1 s1) (hc : ∀ b ∈ frs l, b ∉ ch) : Frs C ad1 s1.heap l := by
  intro env he
  obtain ⟨hk, L, o, h1, h2, h3, h4, h5⟩ := f env he
  have hb : L ∈ frs l := List.mem_filterMap.mpr ⟨env, he, h1⟩
  exact ⟨hk, L, o, h1, h2, n.notin h4 h3, n.same L o h4 h3 (hc L hb), h5⟩
theorem Frs.fun {ad : List Addr} {h : Heap} {l0 : List Env} : ∀ {l : List Env}, Frs C ad h l → (∀ env ∈ l, env ∈ l0) → h.FunFrames (hideAll h (frs l0)) l
  | [], _, _ => trivial
  | env :: r, f, hs => by
    obtain ⟨hk, L, o, h1, h2, h3, h4, h5⟩ := f env (.head _)
    exact ⟨hk, ⟨L, o, h1, hideAll_none _ (List.mem_filterMap.mpr ⟨env, hs env (.head _), h1⟩), h4, h5⟩, Frs.fun (fun e he => f e (.tail _ he)) (fun e he => hs e (.tail _ he))⟩
theorem HR.hide {ad : List Addr} {h : Heap} {l : List Env} (hr : HR C ad σ h) (f : Frs C ad h l) : HR C ad σ (hideAll h (frs l)) :=
  ⟨hr.ok, fun b o e => hideAll_get _ (hr.keep b o e) (fun hm => by rw [(f.mem hm).1] at e; cases e), hr.len, hr.nd, hr.off, hr.low,
    fun i o a h1 h2 => let ⟨ob, h3, h4⟩ := hr.obj i o a h1 h2; ⟨ob, hideAll_get _ h3 (fun hm => (f.mem hm).2.1 (List.mem_of_getElem? h2)), h4⟩⟩

/-- an exception of the class at PC on its way through the frames l -/
structure Fly (C : Cx) (ch : List Addr) (l : List Env) (PC : Addr) (ad : List Addr) (s : Shared) (ad' : List Addr) (σ' : AH) (x : Addr) (s' : Shared) : Prop where
  eq : ∃ h tk, s' = { s with heap := h, toks := tk }
  pre : ∃ nw, ad' = ad ++ nw ∧ ∀ a ∈ nw, s.heap.objs.size ≤ a
  size : s.heap.objs.size ≤ s'.heap.objs.size
  fl : ∃ B a0, Heap.FlyingW B l x (.ref PC) a0 s'.heap ∧ HR C ad' σ' B ∧ ∀ b o, s.heap.get? b = some o → b ∉ ad → b ∉ ch → b ∉ frs l → B.get? b = some o
  up : ∀ b ∈ frs l, ∀ o, s.heap.get? b = some o → b ∉ ch → ∃ sl, s'.heap.get? b = some { o with slots := sl }
theorem Fly.of_nx {ch ad ad1 ad' : List Addr} {σ1 σ' : AH} {s s1 s' : Shared} {l : List Env} {PC x : Addr} (n : Nx C ch ad s ad1 σ1 s1) (f : Fly C ch l PC ad1 s1 ad' σ' x s') (hl : ∀ b ∈ frs l, b ∉ ad) : Fly C ch l PC ad s ad' σ' x s' := by
  obtain ⟨h1, t1, e1⟩ := n.eq
  obtain ⟨h2, t2, e2⟩ := f.eq
  obtain ⟨n1, p1, q1⟩ := n.pre
  obtain ⟨n2, p2, q2⟩ := f.pre
  obtain ⟨B, a0, g1, g2, g3⟩ := f.fl
  refine ⟨⟨h2, t2, by rw [e2, e1]⟩, ⟨n1 ++ n2, by rw [p2, p1, List.append_assoc], ?_⟩, Nat.le_trans n.size f.size, ⟨B, a0, g1, g2, fun b o e hb hc hf => g3 b o (n.same b o e hb hc) (n.notin e hb) hc hf⟩, fun b hb o e hc => f.up b hb o (n.same b o e (hl b hb) hc) hc⟩
  intro x hx
  rcases List.mem_append.mp hx with hx | hx
  · exact q1 x hx
  · exact Nat.le_trans n.size (q2 x hx)
theorem Fly.weak {ch ad ad' : List Addr} {σ' : AH} {s s' : Shared} {l : List Env} {PC x : Addr} (f : Fly C [] l PC ad s ad' σ' x s') : Fly C ch l PC ad s ad' σ' x s' :=
  let ⟨B, a0, g1, g2, g3⟩ := f.fl
  ⟨f.eq, f.pre, f.size, ⟨B, a0, g1, g2, fun b o e hb _ hf => g3 b o e hb (by simp) hf⟩, fun b hb o e _ => f.up b hb o e (by simp)⟩
theorem Fly.wgs {l1 l2 : List (Str × Value)} {ch ad ad' : List Addr} {σ' : AH} {s s' : Shared} {l : List Env} {PC x : Addr} (ok : (C.wg l2).Ok) (f : Fly (C.wg l1) ch l PC ad s ad' σ' x s') : Fly (C.wg l2) ch l PC ad s ad' σ' x s' :=
  let ⟨B, a0, g1, g2, g3⟩ := f.fl
  ⟨f.eq, f.pre, f.size, ⟨B, a0, g1, ⟨ok, g2.keep, g2.len, g2.nd, g2.off, g2.low, g2.obj⟩, g3⟩, f.up⟩

/- what raises for sure -/
structure RC (C : Cx) (A : Around) (f : Value) (vs : List V) (σ : AH) (PC : Addr) (X : AH → Prop) : Prop where
  run : ∀ ad s xs l, A.frames = some l → Frs C ad s.heap l → HR C ad σ s.heap → RVs ad vs xs → wpAny (model C.prog C.w) A (call f xs) (fun _ _ => False) (fun e s' => ∃ ad' σ' x, e = .ref x ∧ X σ' ∧ Fly C [] l PC ad s ad' σ' x s') s
structure RCc (C : Cx) (A : Around) (f : Value) (vs : List V) (σ : AH) (PC : Addr) (X : AH → Prop) : Prop where
  run : ∀ ad s xs l, A.frames = some l → Frs C ad s.heap l → HR C ad σ s.heap → RVs ad vs xs → codeAny (model C.prog C.w) A (.call f ⟨xs, []⟩) (fun r s' => match r with | .ok _ => False | .error e => ∃ ad' σ' x, e = .ref x ∧ X σ' ∧ Fly C [] l PC ad s ad' σ' x s') s
theorem RCc.toRC {f : Value} {vs : List V} {PC : Addr} {X : AH → Prop} (h : RCc C A f vs σ PC X) : RC C A f vs σ PC X :=
  ⟨fun ad s xs l hl hf hr rv => wpAny_call (codeAny_mono (h.run ad s xs l hl hf hr rv) fun r s' z => by
    rcases r with e | (v | _ | _ | _) <;> first | exact z | exact z.elim)⟩
structure Fx (C : Cx) (A : Around) (env : Env) (outer : List Env) (ad : List Addr) (h : Heap) : Prop where
  st : A.frames = some (env :: outer)
  fr : env.frame = some env.locals
  ou : Frs C ad h outer
  ap : ∀ b ∈ frs outer, b ∉ fa env
theorem Fx.next {outer : List Env} {ad ad1 : List Addr} {σ1 : AH} {s s1 : Shared} (f : Fx C A env outer ad s.heap) (n : Nx C (fa env) ad s ad1 σ1 s1) : Fx C A env outer ad1 s1.heap := ⟨f.st, f.fr, f.ou.next n f.ap, f.ap⟩
theorem ER.loc {ad : List Addr} {h : Heap} (er : ER C env ρ ad h) : ∃ o, h.get? env.locals = some o ∧ ∀ vs, o.data ≠ .fields vs := by
  obtain ⟨m, ⟨o, es, ep, ho, hd, _⟩, _⟩ := er.m
  exact ⟨o, ho, fun vs e => by rw [hd] at e; cases e⟩
theorem Fx.all {outer : List Env} {ad : List Addr} {h : Heap} (f : Fx C A env outer ad h) (er : ER C env ρ ad h) : Frs C ad h (env :: outer) := by
  intro e he
  rcases List.mem_cons.mp he with rfl | he
  · obtain ⟨o, ho, hd⟩ := er.loc
    obtain ⟨h1, h2⟩ := er.off e.locals (by simp [fa])
    exact ⟨by rw [er.kind]; decide, e.locals, o, f.fr, h1, h2, ho, hd⟩
  · exact f.ou e he
theorem frs_cons {outer : List Env} (h : env.frame = some env.locals) {b : Addr} : b ∈ frs (env :: outer) ↔ b = env.locals ∨ b ∈ frs outer := by
  unfold frs
  rw [List.filterMap_cons, h]
  simp
theorem ER.up {ad : List Addr} {h h' : Heap} (er : ER C env ρ ad h) (u : h.UpToSlots h') (hz : h.objs.size ≤ h'.objs.size) : ER C env ρ ad h' := by
  refine ⟨er.kind, er.glob, er.blt, er.nd, er.kd, ?_, ?_, er.cinj, er.cl, er.off, fun a ha => Nat.lt_of_lt_of_le (er.lt a ha) hz, er.nm, er.gk⟩
  · obtain ⟨m, hm, h1⟩ := er.m
    exact ⟨m, u.ns hm, h1⟩
  · intro x c hc
    obtain ⟨o, w, h1, h2, h3⟩ := er.cell x c hc
    obtain ⟨sl, h4⟩ := u c o h1 fun vs e => by rw [h2] at e; cases e
    exact ⟨_, w, h4, h2, h3⟩
theorem ER.fly {outer : List Env} {ad ad' : List Addr} {σ' : AH} {s s' : Shared} {PC x : Addr} (er : ER C env ρ ad s.heap) (hf : env.frame = some env.locals) (ap : ∀ b ∈ frs outer, b ∉ fa env) (f : Fly C [] (env :: outer) PC ad s ad' σ' x s') : ER C env ρ ad' s'.heap := by
  obtain ⟨B, a0, g1, g2, g3⟩ := f.fl
  obtain ⟨nw, p1, q1⟩ := f.pre
  refine ⟨er.kind, er.glob, er.blt, er.nd, er.kd, ?_, ?_, er.cinj, er.cl, ?_, fun a ha => Nat.lt_of_lt_of_le (er.lt a ha) f.size, er.nm, er.gk⟩
  · obtain ⟨m, ⟨o, es, ep, ho, hd, hr⟩, h1⟩ := er.m
    obtain ⟨sl, hs⟩ := f.up env.locals (by rw [frs_cons hf]; exact .inl rfl) o ho (by simp)
    refine ⟨m, ⟨_, es, ep, hs, hd, hr⟩, fun y v hy hk => ?_⟩
    obtain ⟨u, h2, h3⟩ := h1 y v hy hk
    exact ⟨u, h2, by rw [p1]; exact h3.mono⟩
  · intro y c hc
    obtain ⟨o, w, h1, h2, h3⟩ := er.cell y c hc
    refine ⟨o, w, g1.1 c o (g3 c o h1 (er.off c (mem_cells hc)).2 (by simp) ?_), h2, fun v hv hk => ?_⟩
    · rw [frs_cons hf]
      rintro (e | hm)
      · exact er.cl y c hc e
      · exact ap c hm (mem_cells hc)
    · obtain ⟨u, h4, h5⟩ := h3 v hv hk
      exact ⟨u, h4, by rw [p1]; exact h5.mono⟩
  · intro b hb
    refine ⟨(er.off b hb).1, ?_⟩
    rw [p1]; intro hm
    rcases List.mem_append.mp hm with hm | hm
    · exact (er.off b hb).2 hm
    · exact absurd (er.lt b hb) (Nat.not_lt.mpr (q1 b hm))
structure RE (C : Cx) (A : Around) (env : Env) (e : Expr) (ρ : Loc) (σ : AH) (PC : Addr) (X : AH → Prop) : Prop where
  run : ∀ ad s outer, Fx C A env outer ad s.heap → HR C ad σ s.heap → ER C env ρ ad s.heap → wpAny (model C.prog C.w) A (eval e env) (fun _ _ => False) (fun e s' => ∃ ad' σ' x, e = .ref x ∧ X σ' ∧ Fly C [] (env :: outer) PC ad s ad' σ' x s') s
/-- made in this frame, not yet on its way -/
def Mk (C : Cx) (env : Env) (PC : Addr) (ad : List Addr) (s : Shared) (ad' : List Addr) (σ' : AH) (x : Addr) (s' : Shared) : Prop :=
  s.heap.objs.size ≤ s'.heap.objs.size ∧ ∃ s2 vs, Nx C (fa env) ad s ad' σ' s2 ∧ (∃ o, s2.heap.get? env.locals = some o ∧ ∀ vs, o.data ≠ .fields vs) ∧ Heap.MadeExcOf s2.heap s'.heap x (.ref PC) vs ∧ ∃ h', s' = { s2 with heap := h' }
def PX (C : Cx) (env : Env) (outer : List Env) (mk : Bool) (PC : Addr) (X : Loc → AH → Prop) (ad : List Addr) (s : Shared) : EX :=
  fun e s' => ∃ ad' σ' ρ' x, e = .ref x ∧ X ρ' σ' ∧ ((Fly C (fa env) (env :: outer) PC ad s ad' σ' x s' ∧ ER C env ρ' ad' s'.heap) ∨ (mk = true ∧ Mk C env PC ad s ad' σ' x s'))
structure RS (C : Cx) (A : Around) (env : Env) (st : Stmt) (ρ : Loc) (σ : AH) (mk : Bool) (PC : Addr) (X : Loc → AH → Prop) : Prop where
  run : ∀ ad s outer, Fx C A env outer ad s.heap → HR C ad σ s.heap → ER C env ρ ad s.heap → wpAny (model C.prog C.w) A (exec st env) (fun _ _ => False) (PX C env outer mk PC X ad s) s
structure RSs (C : Cx) (A : Around) (env : Env) (st : List Stmt) (ρ : Loc) (σ : AH) (mk : Bool) (PC : Addr) (X : Loc → AH → Prop) : Prop where
  run : ∀ ad s outer, Fx C A env outer ad s.heap → HR C ad σ s.heap → ER C env ρ ad s.heap → wpAny (model C.prog C.w) A (execs st env) (fun _ _ => False) (PX C env outer mk PC X ad s) s
theorem PX.of_nx {outer : List Env} {mk : Bool} {PC : Addr} {X : Loc → AH → Prop} {ad ad1 : List Addr} {σ1 : AH} {s s1 s' : Shared} {e : Value} (n : Nx C (fa env) ad s ad1 σ1 s1) (hl : ∀ b ∈ frs (env :: outer), b ∉ ad) (p : PX C env outer mk PC X ad1 s1 e s') : PX C env outer mk PC X ad s e s' := by
  obtain ⟨ad', σ', ρ', x, rfl, hX, h⟩ := p
  refine ⟨ad', σ', ρ', x, rfl, hX, ?_⟩
  rcases h with ⟨f, er⟩ | ⟨hm, hz, s2, vs, n2, ho, hx, he⟩
  · exact .inl ⟨f.of_nx n hl, er⟩
  · exact .inr ⟨hm, Nat.le_trans n.size hz, s2, vs, n.trans n2, ho, hx, he⟩
theorem Fx.nin {outer : List Env} {ad : List Addr} {h : Heap} (f : Fx C A env outer ad h) (er : ER C env ρ ad h) : ∀ b ∈ frs (env :: outer), b ∉ ad := fun b hb => ((f.all er).mem hb).2.1
end
end Mine

-- part Aw21
set_option autoImplicit false
set_option linter.unusedVariables false
namespace Mine
open PySem PySem.W PyProof.Rows

section
variable {C : Cx} {A : Around} {env : Env} {ρ : Loc} {σ : AH} {E : EX}
theorem RCc_def {f : Addr} {o : Obj} {name qual : Str} {params : Arguments} {body : List Stmt} {scope : Scope} {dV kV doc pm cdv ct : Value} {an : Option Addr} {pn ln : List Str} {gl : List (Str × Value)} {vs dv : List V} {ds : List Value} {PC : Addr} {X : AH → Prop}
    (ho : C.G.get? f = some o) (hd : o.data = .func (mkFd name qual params body scope dV kV doc pm an cdv ct)) (hcd : C.G.CodeRec cdv qual) (hroom : A.depth < recursionLimit)
    (hds : RVs [] dv ds) (hlen : pn.length = vs.length + dv.length) (hgl : ∀ x v, (x, v) ∈ gl → C.mg x = some v ∨ (C.mg x = none ∧ C.mb x = some v))
    (hbind : ∀ (s : Shared) (xs : List Value), (∀ b o, C.G.get? b = some o → s.heap.get? b = some o) → xs.length = vs.length → BindsTo s (mkFd name qual params body scope dV kV doc pm an cdv ct) ⟨xs, []⟩ (pn.zip (xs ++ ds)))
    (hnd : (pn ++ ln).Nodup) (hcn : ((cellsFrom 0 scope.names []).map (·.1)).Nodup)
    (hkd : ((pn ++ ln).all fun x => nmOk x && (scope.names.lookup x == some .local || (scope.names.lookup x == some .cell && ((cellsFrom 0 scope.names []).lookup x).isSome))) = true)
    (hgk : (gl.all fun p => nmOk p.1 && scope.names.lookup p.1 == some .globalImplicit) = true)
    (h : ∀ env, Kn env scope.names → RSs (C.wg gl) (A.deeper env) env body (pn.zip ((vs ++ dv).map some) ++ ln.map fun x => (x, none)) σ true PC (fun _ σ' => X σ'))
    (hco : scope.isCoroutine = false := by rfl) (hgen : scope.isGenerator = false := by rfl) (hk : scope.kind = .function := by rfl) : RCc C A (.ref f) vs σ PC X := by
  refine ⟨?_⟩
  intro ad s xs l hl hF hr rv
  refine def_entry ho hd hcd hroom hds hlen hgl hbind hnd hcn hkd hgk hr rv (fun env s1 hkn hfr keep hsz e1 hfa hr1 er1 => ?_) hco hgen hk
  obtain ⟨h1, tk, e1⟩ := e1
  have nfa : ∀ b o, s.heap.get? b = some o → b ∉ fa env := fun b o e hm => absurd (Heap.lt_size e) (Nat.not_lt.mpr (hfa b hm))
  have nloc : ∀ b o, s.heap.get? b = some o → b ≠ env.locals := fun b o e q => nfa b o e (by rw [q]; simp [fa])
  have ap : ∀ b ∈ frs l, b ∉ fa env := fun b hb => by
    obtain ⟨_, _, o, ho, _⟩ := hF.mem hb
    exact nfa b o ho
  have fx : Fx (C.wg gl) (A.deeper env) env l ad s1.heap := by
    refine ⟨by show A.frames.map _ = _; rw [hl]; rfl, hfr, fun e he => ?_, ap⟩
    obtain ⟨k1, L, o, k2, k3, k4, k5, k6⟩ := hF e he
    exact ⟨k1, L, o, k2, k3, k4, keep L o k5, k6⟩
  refine wpAny_mono ((h env hkn).run ad s1 l fx hr1 er1) (fun _ _ z => z.elim) ?_
  rintro e s' ⟨ad', σ', ρ', x, rfl, hX, hcase⟩
  rcases hcase with ⟨f, er'⟩ | ⟨_, hz, s2, vs2, n, ⟨oL, hoL, hdL⟩, hx, h2, e2⟩
  · obtain ⟨B, a0, g1, g2, g3⟩ := f.fl
    obtain ⟨hh, tk', e3⟩ := f.eq
    obtain ⟨nw, p1, q1⟩ := f.pre
    refine wpAny_sz (wpAny_leaves_onW fx.st hfr g1 fun h' hfl' hup hz' => ⟨ad', σ', x, rfl, hX, ⟨⟨h', tk', by rw [e3, e1]⟩, ⟨nw, p1, fun a ha => Nat.le_trans hsz (q1 a ha)⟩, Nat.le_trans hsz (Nat.le_trans f.size hz'), ⟨B, a0, hfl', g2.gw hr.ok, fun b o e hb _ hf => ?_⟩, fun b hb o e _ => ?_⟩⟩)
    · refine g3 b o (keep b o e) hb (nfa b o e) ?_
      rw [frs_cons hfr]
      rintro (q | q)
      · exact nloc b o e q
      · exact hf q
    · obtain ⟨_, _, o', ho', hd'⟩ := hF.mem hb
      rw [e] at ho'; cases ho'
      obtain ⟨sl, hs⟩ := f.up b (by rw [frs_cons hfr]; exact .inr hb) o (keep b o e) (nfa b o e)
      obtain ⟨sl', hs'⟩ := hup b _ hs hd'
      exact ⟨sl', hs'⟩
  · have F2 : Frs (C.wg gl) ad' s2.heap (env :: l) := by
      intro e he
      rcases List.mem_cons.mp he with rfl | he
      · obtain ⟨k1, k2⟩ := er1.off e.locals (by simp [fa])
        obtain ⟨o1, ho1, _⟩ := er1.loc
        exact ⟨by rw [er1.kind]; decide, e.locals, oL, hfr, k1, n.notin ho1 k2, hoL, hdL⟩
      · exact (fx.ou.next n fx.ap) e he
    obtain ⟨hh, tk', e3⟩ := n.eq
    obtain ⟨nw, p1, q1⟩ := n.pre
    refine wpAny_sz (wpAny_leaves_madeW (base := hideAll s2.heap (frs (env :: l))) fx.st hfr (fun b o q => of_hideAll _ q) (F2.fun fun _ z => z) hx fun h' t hfl' htup hnone hup hz' => ⟨ad', σ', x, rfl, hX, ⟨⟨h', tk', by rw [e2, e3, e1]⟩, ⟨nw, p1, fun a ha => Nat.le_trans hsz (q1 a ha)⟩, Nat.le_trans hsz (Nat.le_trans hz hz'), ⟨_, _, hfl', (n.hr.hide F2).gw hr.ok, fun b o e hb _ hf => ?_⟩, fun b hb o e _ => ?_⟩⟩)
    · refine hideAll_get _ (n.same b o (keep b o e) hb (nfa b o e)) ?_
      rw [frs_cons hfr]
      rintro (q | q)
      · exact nloc b o e q
      · exact hf q
    · obtain ⟨_, hb', o', ho', hd'⟩ := hF.mem hb
      rw [e] at ho'; cases ho'
      exact hup b o (hx.keeps b o (n.same b o (keep b o e) hb' (nfa b o e))) hd'

abbrev EF : EX := fun _ _ => False
theorem evalArgs_ns {f : Value} {e₀ : Expr} {rest : List Expr} {pos : Pos} {s : Shared} {M : Model} {Q : Args → Shared → Prop} (hns : noStar (e₀ :: rest) = true) (h : wpAny M A (spliced (backTo pos (starEach (e₀ :: rest) env))) (fun vs s' => Q ⟨vs, []⟩ s') E s) :
    wpAny M A (evalArgs f true (backTo pos (starEach (e₀ :: rest) env)) []) Q E s := by
  obtain ⟨g1, _⟩ := noStar_cons env hns
  rw [g1] at h ⊢
  exact Calls.evalArgs_plain h
theorem glob_same {C : Cx} {l : List (Str × Value)} {x : Str} {pos : Pos} {v : Value} {ad : List Addr} {s : Shared} {P : Value → Shared → Prop} (hx : (x, v) ∈ l) (hr : HR (C.wg l) ad σ s.heap) (er : ER (C.wg l) env ρ ad s.heap) (h : P v s) : wpAny (model C.prog C.w) A (eval (.Name x pos) env) P E s := by
  obtain ⟨hk, hn⟩ := er.gk x v hx
  refine Calls.Name_function_global er.kind hk ?_ (nmOk_d hn)
  rcases hr.ok.glo x v hx with e | ⟨e1, e2⟩
  · exact Calls.loadGlobal_global (by rw [er.glob]; exact hr.ok.g.keeps hr.keep) e h
  · exact Calls.loadGlobal_builtin (by rw [er.glob]; exact hr.ok.g.keeps hr.keep) e1 (by rw [er.blt]; exact hr.ok.b.keeps hr.keep) e2 h
theorem RC_new {K : Frag} {Cl fI : Addr} {vs : List V} {PC : Addr} {X : AH → Prop} (X0 : K.In C.G) (ok : ClsOk K Cl) (hi : findIn K (.ref Cl) "__init__" = some (some (.ref fI))) (hf : typeIn K (.ref fI) = some (.type "function"))
    (h : ∀ xs, RCc C (A.under (.builtin "type.__call__" ⟨.ref Cl :: xs, []⟩)) (.ref fI) (.ref (σ.length + 1) :: vs) (σ ++ [.ns []] ++ [.inst Cl σ.length]) PC X) : RC C A (.ref Cl) vs σ PC X := by
  refine ⟨?_⟩
  rintro ad ⟨hh, g, dr, t, os⟩ xs l hl hF hr rv
  have X' := X0.keeps hr.keep
  refine wpAny_call (make_core (makes_of X' ok.makes) (looks_findIn X' hi) (fun self => bind_fn X' self hf) (.inl rfl) ?_)
  have n1 := Nx.alloc (s := ⟨hh, g, dr, t, os⟩) (o := .ns []) (ob := emptyDict) hr ⟨#[], 0, rfl, .nil⟩
  have n2 := Nx.alloc (o := .inst Cl σ.length) (ob := instObj Cl hh.objs.size) n1.hr ⟨hh.objs.size, by rw [← hr.len]; simp, rfl⟩
  have n12 := n1.trans n2
  have hsz : (hh.push emptyDict).objs.size = hh.objs.size + 1 := Heap.size_push ..
  have rx : RV (ad ++ [hh.objs.size] ++ [hh.objs.size + 1]) (.ref (σ.length + 1)) (.ref (hh.objs.size + 1)) := ⟨_, by rw [← hr.len]; simp, rfl⟩
  simp only [hsz] at n12 n2
  have hlA : (A.under (.builtin "type.__call__" ⟨.ref Cl :: xs, []⟩)).frames = some l := by
    have e0 : (A.under (.builtin "type.__call__" ⟨.ref Cl :: xs, []⟩)).frames = pushEnvs (Code.envs (.builtin "type.__call__" ⟨.ref Cl :: xs, []⟩)) A.frames := rfl
    rw [e0, hl]; rfl
  refine codeAny_mono ((h xs).run _ _ _ l hlA (hF.next n12 (by simp)) n2.hr (.cons rx (n12.rvs rv))) fun r s' z => ?_
  rcases r with e | f
  · obtain ⟨ad', σ', x, rfl, hX, fl⟩ := z
    exact ⟨ad', σ', x, rfl, hX, fl.of_nx n12 fun b hb => (hF.mem hb).2.1⟩
  · exact z.elim
theorem RE_call {C : Cx} {l : List (Str × Value)} {id : Str} {p pos : Pos} {args : List Expr} {f : Value} {PC : Addr} {X : AH → Prop} (hx : (id, f) ∈ l) (hc : Callable C f) (h : WL (C.wg l) A env args ρ σ (fun vs σ2 => RC (C.wg l) A f vs σ2 PC X) EF) (hns : noStar args = true := by rfl) :
    RE (C.wg l) A env (.Call (.Name id p) args [] pos) ρ σ PC X := by
  refine ⟨?_⟩
  intro ad s outer fx hr er
  refine wpAny_Call_Name_kw ?_
  have := (WE_glob (C := C) (A := A) (env := env) (ρ := ρ) (σ := σ) (E := EF) (pos := p) (Q := fun v σ1 => v = .k f ∧ σ1 = σ) hx ⟨rfl, rfl⟩).run ad s hr er
  refine wpAny_mono this ?_ fun _ _ x => x.elim
  rintro u s1 ⟨ad1, σ1, v, n1, r1, rfl, rfl⟩
  cases r1
  refine callWith_gen (C := C.wg l) hc hns (wpAny_mono (h.run ad1 s1 pos n1.hr (er.next n1)) ?_ fun _ _ x => x.elim)
  rintro us s2 ⟨ad2, σ2, vs, n2, r2, h2⟩
  have n12 := n1.trans n2
  refine ⟨n2.hr.keep, wpAny_mono (h2.run ad2 s2 us (env :: outer) fx.st ((fx.all er).next n12 (by simp)) n2.hr r2) (fun _ _ z => z) ?_⟩
  rintro e s' ⟨ad', σ', x, rfl, hX, fl⟩
  exact ⟨ad', σ', x, rfl, hX, fl.of_nx n12 (fx.nin er)⟩
theorem RE_meth {o : Expr} {name : Str} {apos pos : Pos} {args : List Expr} {PC : Addr} {X : AH → Prop} (h : WE C A env o ρ σ (fun v σ1 => WM C A v name σ1 (fun f first σ2 => Callable C f ∧ WL C A env args ρ σ2 (fun vs σ3 => RC C A f (first ++ vs) σ3 PC X) EF) EF) EF) (h1 : plainBase o = true := by rfl) (hns : noStar args = true := by rfl)
    (h3 : Nat.ble args.length 28 = true := by rfl) (h4 : (apos.endLine == pos.line) = true := by rfl) : RE C A env (.Call (.Attribute o name apos) args [] pos) ρ σ PC X := by
  refine ⟨?_⟩
  intro ad s outer fx hr er
  obtain ⟨pl, he⟩ := meth_eval (o := o) (name := name) (env := env) h1 hns h3 h4
  refine methodCall_KW (pl := pl) ?_ he
  refine wpAny_mono (h.run ad s hr er) ?_ fun _ _ x => x.elim
  rintro u s1 ⟨ad1, σ1, v, n1, r1, h1⟩
  refine wpAny_mono (h1.run ad1 s1 u pl n1.hr r1) ?_ fun _ _ x => x.elim
  rintro fx' s2 ⟨ad2, σ2, first, n2, r2, hc, h2⟩
  have n12 := n1.trans n2
  refine callWith_gen hc hns (wpAny_mono (h2.run ad2 s2 pos n2.hr (er.next n12)) ?_ fun _ _ x => x.elim)
  rintro us s3 ⟨ad3, σ3, vs, n3, r3, h3⟩
  have n13 := n12.trans n3
  refine ⟨n3.hr.keep, wpAny_mono (h3.run ad3 s3 _ (env :: outer) fx.st ((fx.all er).next n13 (by simp)) n3.hr ((n3.rvs r2).append r3)) (fun _ _ z => z) ?_⟩
  rintro e s' ⟨ad', σ', x, rfl, hX, fl⟩
  exact ⟨ad', σ', x, rfl, hX, fl.of_nx n13 (fx.nin er)⟩
/-- a call with arguments as a method's base -/
def callBase : Expr → Bool
  | .Call _ [] _ _ => false
  | _ => true
theorem base_eq {o : Expr} {name : Str} {env : Env} (h : callBase o = true) : attributeBase o name env (eval o env) = eval o env := by
  cases o with
  | Call f as ks p => cases as with
    | nil => cases h
    | cons a r => cases f <;> rfl
  | _ => rfl
theorem meth_eval2 {o : Expr} {name : Str} {apos pos : Pos} {args : List Expr} {env : Env} (h1 : callBase o = true) (h2 : noStar args = true) (h3 : Nat.ble args.length 28 = true) (h4 : (apos.endLine == pos.line) = true) :
    ∃ pl, eval (.Call (.Attribute o name apos) args [] pos) env = (do
      let ov ← eval o env
      standAt apos.atName
      let (f, first) ← holding [ov] (getMethod ov name pl)
      callWith pos f first (backTo pos (starEach args env)) (backToKw pos (keywordEach [] env))) := by
  refine ⟨(do return (← importBound o env).getD true), ?_⟩
  rw [arm_eval_Call]
  have e1 := base_eq (name := name) (env := env) h1
  have e2 : methodCallForm (args.length + ([] : List Keyword).length) (backTo pos (starEach args env)) (backToKw pos (keywordEach [] env)) = true := by
    unfold methodCallForm
    rw [noStar_all env h2]
    have := Nat.le_of_ble_eq_true h3
    simp [backToKw, keywordEach]
    omega
  rw [e1]
  unfold methodCall calleeOf methodCallPos
  rw [e2, h4]
  rfl
theorem WE_methc {Q : V → AH → Prop} {o : Expr} {name : Str} {apos pos : Pos} {args : List Expr} (h : WE C A env o ρ σ (fun v σ1 => WM C A v name σ1 (fun f first σ2 => Callable C f ∧ WL C A env args ρ σ2 (fun vs σ3 => WC C A f (first ++ vs) σ3 Q E) E) E) E) (h1 : callBase o = true := by rfl) (hns : noStar args = true := by rfl)
    (h3 : Nat.ble args.length 28 = true := by rfl) (h4 : (apos.endLine == pos.line) = true := by rfl) :
    WE C A env (.Call (.Attribute o name apos) args [] pos) ρ σ Q E := by
  refine ⟨?_⟩
  intro ad s hr er
  obtain ⟨pl, he⟩ := meth_eval2 (o := o) (name := name) (env := env) h1 hns h3 h4
  refine methodCall_KW (pl := pl) ?_ he
  refine wpAny_mono (h.run ad s hr er) ?_ fun _ _ x => x
  rintro u s1 ⟨ad1, σ1, v, n1, r1, h1⟩
  refine wpAny_mono (h1.run ad1 s1 u pl n1.hr r1) ?_ fun _ _ x => x
  rintro fx s2 ⟨ad2, σ2, first, n2, r2, hc, h2⟩
  exact wpAny_mono (callWith_go hc hns n2.hr ((er.next n1).next n2) r2 h2) (fun u s' p => PE.trans (n1.trans n2) p) fun _ _ x => x
/-- the base of a method's call raises -/
theorem RE_base {o : Expr} {name : Str} {apos pos : Pos} {args : List Expr} {PC : Addr} {X : AH → Prop} (h : RE C A env o ρ σ PC X) (h1 : callBase o = true := by rfl) (hns : noStar args = true := by rfl)
    (h3 : Nat.ble args.length 28 = true := by rfl) (h4 : (apos.endLine == pos.line) = true := by rfl) : RE C A env (.Call (.Attribute o name apos) args [] pos) ρ σ PC X := by
  refine ⟨?_⟩
  intro ad s outer fx hr er
  obtain ⟨pl, he⟩ := meth_eval2 (o := o) (name := name) (env := env) h1 hns h3 h4
  refine methodCall_KW (pl := pl) ?_ he
  exact wpAny_mono (h.run ad s outer fx hr er) (fun _ _ z => z.elim) fun _ _ x => x

/- statements that raise -/
theorem RS.ofE {outer : List Env} {mk : Bool} {PC : Addr} {X : Loc → AH → Prop} {ad ad' : List Addr} {σ' : AH} {s s' : Shared} {x : Addr} (fx : Fx C A env outer ad s.heap) (er : ER C env ρ ad s.heap) (hX : X ρ σ') (fl : Fly C [] (env :: outer) PC ad s ad' σ' x s') : PX C env outer mk PC X ad s (.ref x) s' :=
  ⟨ad', σ', ρ, x, rfl, hX, .inl ⟨fl.weak, er.fly fx.fr fx.ap fl⟩⟩
theorem RS_assign {x : Str} {p pos : Pos} {e : Expr} {mk : Bool} {PC : Addr} {X : Loc → AH → Prop} (h : RE C A env e ρ σ PC (fun σ' => X ρ σ')) (hs : isCompE e = false := by rfl) : RS C A env (.Assign [.Name x p] e pos) ρ σ mk PC X := by
  refine ⟨?_⟩
  intro ad s outer fx hr er
  refine wpAny_Assign_Name (wpAny_mono (h.run ad s outer fx hr er) (fun _ _ z => z.elim) ?_) (swaps_not hs)
  rintro e s' ⟨ad', σ', x, rfl, hX, fl⟩
  exact RS.ofE fx er hX fl
theorem RS_setattr {o e : Expr} {attr : Str} {p pos : Pos} {mk : Bool} {PC : Addr} {X : Loc → AH → Prop} (h : RE C A env e ρ σ PC (fun σ' => X ρ σ')) (hs : isCompE e = false := by rfl) : RS C A env (.Assign [.Attribute o attr p] e pos) ρ σ mk PC X := by
  refine ⟨?_⟩
  intro ad s outer fx hr er
  refine plainObj_wpAny_Assign_Attribute (wpAny_mono (h.run ad s outer fx hr er) (fun _ _ z => z.elim) ?_) (swaps_not hs)
  rintro e s' ⟨ad', σ', x, rfl, hX, fl⟩
  exact RS.ofE fx er hX fl
theorem RS_expr {e : Expr} {pos : Pos} {mk : Bool} {PC : Addr} {X : Loc → AH → Prop} (h : RE C A env e ρ σ PC (fun σ' => X ρ σ')) (hs : isCompE e = false := by rfl) : RS C A env (.Expr e pos) ρ σ mk PC X := by
  refine ⟨?_⟩
  intro ad s outer fx hr er
  refine wpAny_Expr_any (wpAny_mono (h.run ad s outer fx hr er) (fun _ _ z => z.elim) ?_) (by unfold interactive; rw [er.kind]; rfl) (swaps_not hs)
  rintro e s' ⟨ad', σ', x, rfl, hX, fl⟩
  exact RS.ofE fx er hX fl
theorem RS_if {test : Expr} {body orelse : List Stmt} {pos : Pos} {mk : Bool} {PC : Addr} {X : Loc → AH → Prop} (h : WB C A env test ρ σ (fun b σ1 => if b then RSs C A env body ρ σ1 mk PC X else RSs C A env orelse ρ σ1 mk PC X) EF) : RS C A env (.If test body orelse pos) ρ σ mk PC X := by
  refine ⟨?_⟩
  intro ad s outer fx hr er
  refine wpAny_If (wpAny_mono (h.run ad s hr er) ?_ fun _ _ x => x.elim)
  rintro b s1 ⟨ad1, σ1, n1, h1⟩
  cases b with
  | true => exact wpAny_mono (h1.run ad1 s1 outer (fx.next n1.weak) n1.hr (er.next n1)) (fun _ _ z => z) fun _ _ z => PX.of_nx n1.weak (fx.nin er) z
  | false => exact wpAny_mono (h1.run ad1 s1 outer (fx.next n1.weak) n1.hr (er.next n1)) (fun _ _ z => z) fun _ _ z => PX.of_nx n1.weak (fx.nin er) z
theorem RSs_here {st : Stmt} {rest : List Stmt} {mk : Bool} {PC : Addr} {X : Loc → AH → Prop} (h : RS C A env st ρ σ mk PC X) : RSs C A env (st :: rest) ρ σ mk PC X := by
  refine ⟨?_⟩
  intro ad s outer fx hr er
  exact wpAny_execs_cons (wpAny_mono (h.run ad s outer fx hr er) (fun _ _ z => z.elim) fun _ _ x => x)
structure ThR (C : Cx) (A : Around) (env : Env) (rest : List Stmt) (mk : Bool) (PC : Addr) (X : Loc → AH → Prop) (fl : Fl) (ρ : Loc) (σ : AH) : Prop where
  run : match fl with
    | .next => RSs C A env rest ρ σ mk PC X
    | _ => False
theorem ThR_next {rest : List Stmt} {mk : Bool} {PC : Addr} {X : Loc → AH → Prop} (h : RSs C A env rest ρ σ mk PC X) : ThR C A env rest mk PC X .next ρ σ := ⟨h⟩
theorem RSs_next {st : Stmt} {rest : List Stmt} {mk : Bool} {PC : Addr} {X : Loc → AH → Prop} (h : WS C A env st ρ σ (ThR C A env rest mk PC X) EF) : RSs C A env (st :: rest) ρ σ mk PC X := by
  refine ⟨?_⟩
  intro ad s outer fx hr er
  refine wpAny_execs_cons (wpAny_mono (h.run ad s hr er) ?_ fun _ _ x => x.elim)
  rintro f s1 ⟨ad1, σ1, ρ1, fl, n1, e1, r1, ⟨h1⟩⟩
  cases fl with
  | next => cases r1; exact wpAny_mono (h1.run ad1 s1 outer (fx.next n1) n1.hr e1) (fun _ _ z => z.elim) fun _ _ z => PX.of_nx n1 (fx.nin er) z
  | brk => exact h1.elim
  | cont => exact h1.elim
  | ret v => exact h1.elim
theorem RS_raise {C : Cx} {l : List (Str × Value)} {x : Str} {np cpos pos : Pos} {e₀ : Expr} {rest : List Expr} {PC : Addr} {bm : List Value} {newId B initId : String} {X : Loc → AH → Prop} (hx : (x, Value.ref PC) ∈ l) (O : OwnCls x PC bm newId C.mg C.G) (FB : ExcBaseFacts B newId initId bm) (hA : A.handled = none)
    (h : WL (C.wg l) A env (e₀ :: rest) ρ σ (fun vs σ2 => vs.length ≤ sizeLine ∧ X ρ σ2) EF) (hns : noStar (e₀ :: rest) = true := by rfl) : RS (C.wg l) A env (.Raise (some (.Call (.Name x np) (e₀ :: rest) [] cpos)) none pos) ρ σ true PC X := by
  refine ⟨?_⟩
  intro ad s outer fx hr er
  obtain ⟨tl, N, nm, q, bs, hdct, sn, sub, ab, col, dd, k0, k1, k2, k3, k5, mN, hC, hN, hni, T⟩ := O.obj
  refine wpAny_szE (wpAny_Raise_call_subT (C := PC) (nm := nm) (q := q) (N := N) (bs := bs) (bm := tl) (hdct := hdct) (sn := sn) (sub := sub) (ab := ab) (col := col) (dd := dd) (k0 := k0) (k1 := k1) (k2 := k2) (k3 := k3) (k5 := k5)
    FB (mN := mN) (T.hasType FB.hasBase) hA (noStar_any env hns) hni ?_)
  have := (WE_glob (C := C) (A := A) (env := env) (ρ := ρ) (σ := σ) (E := EF) (pos := np) (Q := fun v σ1 => v = .k (.ref PC) ∧ σ1 = σ) hx ⟨rfl, rfl⟩).run ad s hr er
  refine wpAny_mono this ?_ fun _ _ x => x.elim
  rintro u s1 ⟨ad1, σ1, v, n1, r1, rfl, rfl⟩
  cases r1
  refine ⟨rfl, ?_⟩
  refine evalArgs_ns hns ?_
  refine wpAny_mono (h.run ad1 s1 cpos n1.hr (er.next n1)) ?_ fun _ _ x => x.elim
  rintro us s2 ⟨ad2, σ2, vs, n2, r2, hz, hX⟩
  have n12 := n1.trans n2
  have kk := n2.hr.keep
  refine ⟨rfl, by show us.length ≤ _; rw [← r2.length]; exact hz, kk _ _ hC, hN.keeps kk, T.keeps kk, fun h' e hm hsz => ?_⟩
  exact ⟨ad2, σ2, ρ, e, rfl, hX, .inr ⟨rfl, hsz, s2, us, n12.weak, (er.next n12).loc, hm, h', rfl⟩⟩
theorem WS_try_ok {body : List Stmt} {h₀ : ExceptHandler} {hs : List ExceptHandler} {pos : Pos} {Q : Fl → Loc → AH → Prop} (h : WSs C A env body ρ σ Q EF) : WS C A env (.Try body (h₀ :: hs) [] [] pos) ρ σ Q E := by
  refine ⟨?_⟩
  intro ad s hr er
  refine wpAny_Try_except (wpAny_mono (h.run ad s hr er) ?_ fun _ _ x => x.elim)
  rintro f s1 ⟨ad1, σ1, ρ1, fl, n1, e1, r1, h1⟩
  cases fl with
  | next => cases r1; exact wpAny_execs_nil ⟨ad1, σ1, ρ1, .next, n1, e1, rfl, h1⟩
  | brk => cases r1; exact ⟨ad1, σ1, ρ1, .brk, n1, e1, rfl, h1⟩
  | cont => cases r1; exact ⟨ad1, σ1, ρ1, .cont, n1, e1, rfl, h1⟩
  | ret v => obtain ⟨u, rfl, ru⟩ := r1; exact ⟨ad1, σ1, ρ1, .ret v, n1, e1, ⟨u, rfl, ru⟩, h1⟩
theorem WS_try_raise {C : Cx} {l : List (Str × Value)} {K : Frag} {body suite : List Stmt} {b₀ : Stmt} {x : Str} {np hpos pos : Pos} {T : String} {PC : Addr} {hs : List ExceptHandler} {Q : Fl → Loc → AH → Prop} (X0 : K.In C.G) (hx : (x, Value.type T) ∈ l) (hm : exmOne K (.ref PC) (.type T) = some true)
    (hst : A.frames = some [env]) (hfr : env.frame = some env.locals)
    (h : RSs (C.wg l) A env body ρ σ false PC (fun ρ' σ' => ∀ e, WSs (C.wg l) (A.mark (some (.ref e))) env (b₀ :: suite) ρ' σ' Q EF)) :
    WS (C.wg l) A env (.Try body (.ExceptHandler (some (.Name x np)) none (b₀ :: suite) hpos :: hs) [] [] pos) ρ σ Q E := by
  refine ⟨?_⟩
  intro ad s hr er
  have fx : Fx (C.wg l) A env [] ad s.heap := ⟨hst, hfr, (fun _ h => nomatch h), (fun _ h => nomatch h)⟩
  refine wpAny_Try_except (wpAny_mono (h.run ad s [] fx hr er) (fun _ _ z => z.elim) ?_)
  rintro e s1 ⟨ad1, σ1, ρ1, x1, rfl, hX, hc⟩
  rcases hc with ⟨f, er1⟩ | ⟨hf, _⟩
  · obtain ⟨B, a0, g1, g2, g3⟩ := f.fl
    obtain ⟨h1, t1, e1⟩ := f.eq
    obtain ⟨nw, p1, q1⟩ := f.pre
    refine wpAny_sz (wpAny_looks_onW hst hfr g1 fun h₂ w2 u2 z2 => wpAny_sz (wpAny_landsW w2 fun h₃ w3 u3 z3 => ?_))
    dsimp only at z2 z3 u3
    have mkN : ∀ h', B.StaysIn h' → s1.heap.objs.size ≤ h'.objs.size → Nx (C.wg l) (fa env) ad s ad1 σ1 { s1 with heap := h' } := fun h' k z =>
      ⟨⟨h', t1, by rw [e1]⟩, ⟨nw, p1, q1⟩, Nat.le_trans f.size z, fun b o e hb hc => k b o (g3 b o e hb hc fun hm => hc (by
        rw [frs_cons hfr] at hm
        rcases hm with rfl | hm
        · simp [fa]
        · cases hm)), g2.keeps k⟩
    have n3 := mkN h₃ w3.1 (Nat.le_trans z2 z3)
    have er3 : ER (C.wg l) env ρ1 ad1 h₃ := (er1.up u2 z2).up u3 z3
    refine wpAny_handleBy_cons (codeAny_handlers_test ?_) (by intro q; cases q)
    refine glob_same hx n3.hr er3 ?_
    have LT : Looks (model C.prog C.w) h₃ (typeOf (.ref x1)) (.ref PC) := by
      obtain ⟨ob, hob, hcl⟩ := w3.there
      exact hcl ▸ (Looks.ld hob).andThen .now
    refine Looks.here (s := { s1 with heap := h₃ }) (exm_one (X0.keeps n3.hr.keep) LT hm) ?_
    refine codeAny_handlers_suite (wpAny_sz (lands_againW w3 fun h₅ w5 u5 z5 => ?_))
    have n5 := mkN h₅ w5.1 (Nat.le_trans (Nat.le_trans z2 z3) z5)
    have er5 := er3.up u5 z5
    refine wpAny_mono ((hX x1).run ad1 { s1 with heap := h₅ } n5.hr er5) ?_ fun _ _ z => z.elim
    rintro fl s6 ⟨ad6, σ6, ρ6, f6, n6, e6, r6, h6⟩
    exact ⟨ad6, σ6, ρ6, f6, n5.trans n6, e6, r6, h6⟩
  · cases hf
end
end Mine

-- part Aw22
set_option autoImplicit false
set_option linter.unusedVariables false
namespace Mine
open PySem PySem.W PyProof.Rows

section
variable {C : Cx} {A : Around} {env : Env} {ρ : Loc} {σ : AH} {E : EX} {Q : V → AH → Prop}
theorem WC_typeS {x : Str} (h : Q (.k (.type "str")) σ) : WC C A (.type "type") [.str x] σ Q E := by
  refine ⟨?_⟩
  rintro ad s us hr (_ | ⟨⟨t, rfl⟩, _ | _⟩)
  exact call_type_of (typeIs_str _ _ _) (by decide) (PE.here (v := .k (.type "str")) hr rfl h)
theorem WC_typeI {i : Int} (h : Q (.k (.type "int")) σ) : WC C A (.type "type") [.int i] σ Q E := by
  refine ⟨?_⟩
  rintro ad s us hr (_ | ⟨⟨t, rfl⟩, _ | _⟩)
  exact call_type_of (typeIs_int _ _ _) (by decide) (PE.here (v := .k (.type "int")) hr rfl h)
theorem is_self_k {T : String} (h : Q (.bool true) σ) : WOp2 C A (compareOp .Is) (.k (.type T)) (.k (.type T)) σ Q E := by
  refine ⟨?_⟩
  rintro ad s x y hr rfl rfl
  exact wpAny_is_self rfl (PE.here (v := .bool true) hr rfl h)
theorem is_other_k {T U : String} (hne : T ≠ U) (h : Q (.bool false) σ) : WOp2 C A (compareOp .Is) (.k (.type T)) (.k (.type U)) σ Q E := by
  refine ⟨?_⟩
  rintro ad s x y hr rfl rfl
  exact wpAny_is_other rfl (fun e => hne (by injection e)) (PE.here (v := .bool false) hr rfl h)
theorem isNot_self_k {T : String} (h : Q (.bool false) σ) : WOp2 C A (compareOp .IsNot) (.k (.type T)) (.k (.type T)) σ Q E := by
  refine ⟨?_⟩
  rintro ad s x y hr rfl rfl
  exact wpAny_isNot_self rfl (PE.here (v := .bool false) hr rfl h)
theorem isNot_other_k {T U : String} (hne : T ≠ U) (h : Q (.bool true) σ) : WOp2 C A (compareOp .IsNot) (.k (.type T)) (.k (.type U)) σ Q E := by
  refine ⟨?_⟩
  rintro ad s x y hr rfl rfl
  exact wpAny_isNot_other rfl (fun e => hne (by injection e)) (PE.here (v := .bool true) hr rfl h)
theorem add_ss {x y : Str} (hz : x.length + y.length ≤ sizeLine) (h : Q (.str (x ++ y)) σ) : WOp2 C A (binaryOp .Add) (.str x) (.str y) σ Q E := by
  refine ⟨?_⟩
  rintro ad s a b hr ⟨t, rfl⟩ ⟨u, rfl⟩
  exact PyProof.Rows.add_str (fun t' tk => PE.tok (v := .str (x ++ y)) _ hr ⟨_, rfl⟩ h) hz
theorem ne_bb {a b : Bool} (h : Q (.bool (a != b)) σ) : WOp2 C A (compareOp .NotEq) (.bool a) (.bool b) σ Q E := by
  refine ⟨?_⟩
  rintro ad s x y hr rfl rfl
  exact ne_bool (PE.here (v := .bool _) hr rfl h)
theorem WC_strS {x : Str} (h : Q (.str x) σ) : WC C A (.type "str") [.str x] σ Q E := by
  refine ⟨?_⟩
  rintro ad s us hr (_ | ⟨⟨t, rfl⟩, _ | _⟩)
  exact PySem.P.str_of_str (PE.here (v := .str x) hr ⟨t, rfl⟩ h)
theorem WC_strI {i : Int} (hi : i.natAbs.log2 < 1920) (h : Q (.str (Str.ofString (toString i))) σ) : WC C A (.type "str") [.int i] σ Q E := by
  refine ⟨?_⟩
  rintro ad s us hr (_ | ⟨⟨t, rfl⟩, _ | _⟩)
  exact PySem.P.str_of_int hi (PE.tok (v := .str _) _ hr ⟨_, rfl⟩ h)
theorem log_small {i : Int} (h1 : 0 ≤ i) (h2 : i < 1000000) : i.natAbs.log2 < 1920 := by
  by_cases h0 : i.natAbs = 0
  · rw [h0]; decide
  · have : i.natAbs.log2 < 20 := (Nat.log2_lt h0).mpr (by omega)
    omega
theorem WM_join {x : Str} {KK : Value → List V → AH → Prop} (h : KK (.builtin "str.join") [.str x] σ) : WM C A (.str x) "join" σ KK E := by
  refine ⟨?_⟩
  rintro ad s v pl hr ⟨t, rfl⟩
  refine getMethod_builtin (T := "str") (typeIs_str _ _ _) PySem.F.plainAttrs_str PySem.F.slot_str_join PySem.F.type_str_join (fun a e => by cases e) ⟨ad, σ, [.str x], Nx.refl hr, .cons ⟨t, rfl⟩ .nil, h⟩
theorem RVs.toStrs {ad : List Addr} : ∀ {ys : List Str} {vs : List Value}, RVs ad (ys.map .str) vs → StrsAre vs ys
  | [], _, .nil => .nil
  | y :: ys, _, .cons ⟨t, e⟩ h => by subst e; exact .cons _ _ (RVs.toStrs h)
theorem WC_join {x : Str} {v : V} {ys : List Str} (b : ObjAt C σ v (.list (ys.map .str))) (hok : (ys.map (·.length)).sum + ys.length * x.length ≤ 16777216) (h : Q (.str (Txt.join x ys)) σ) : WC C A (.builtin "str.join") [.str x, v] σ Q E := by
  refine ⟨?_⟩
  rintro ad s us hr (_ | ⟨⟨t, rfl⟩, _ | ⟨rv, _ | _⟩⟩)
  obtain ⟨a, vs, rfl, hl, rvs⟩ := b.list hr rv
  exact join_list hl rvs.toStrs hok fun t' k => PE.tok (v := .str _) _ hr ⟨_, rfl⟩ h
/-- the head of a short text -/
theorem WE_head {n : Str} {k : Int} {np p1 p pos : Pos} (h : WE C A env (.Name n np) ρ σ (fun v σ1 => ∃ x, v = .str x ∧ (∀ tk, ((((none : Option (Int × Tok)).map (·.1)).getD 1 == 1 && (slicePicked x none (some (k, tk)) none).length == x.length) = true)) ∧ Q (.str x) σ1) E) :
    WE C A env (.Subscript (.Name n np) (.Slice none (some (.Constant (.int k) 0 p1)) none p) pos) ρ σ Q E := by
  refine ⟨?_⟩
  intro ad s hr er
  refine wpAny_Subscript_str_slice (wpAny_mono (h.run ad s hr er) ?_ fun _ _ x => x)
  rintro u s1 ⟨ad1, σ1, v, n1, r1, x, rfl, hx, hq⟩
  obtain ⟨t, rfl⟩ := r1
  rw [evalPart_none]
  refine wpAny_pure ?_
  rw [evalPart_some]
  have := (WE_int (C := C) (A := A) (env := env) (ρ := ρ) (σ := σ1) (E := E) (pos := p1) (k := 0) (i := k) (Q := fun v σ2 => v = .int k ∧ σ2 = σ1) ⟨rfl, rfl⟩).run ad1 s1 n1.hr (er.next n1)
  refine wpAny_mono this ?_ fun _ _ x => x
  rintro b s2 ⟨ad2, σ2, vb, n2, r2, rfl, rfl⟩
  obtain ⟨tk, rfl⟩ := r2
  refine ⟨x, t, none, some (k, tk), rfl, rfl, rfl, ?_⟩
  unfold sliceMade
  rw [if_pos (hx tk)]
  exact PE.trans (n1.trans n2) ⟨ad2, _, .str x, Nx.push _ n2.hr, ⟨t, rfl⟩, hq⟩
end
end Mine

-- part Aw23
set_option autoImplicit false
set_option linter.unusedVariables false
namespace Mine
open PySem PySem.W PyProof.Rows

theorem RVs.take {ad : List Addr} {xs : List V} {vs : List Value} (h : RVs ad xs vs) : ∀ n : Nat, RVs ad (xs.take n) (vs.take n) := by
  induction h with
  | nil => intro n; simp; exact .nil
  | cons r _ ih =>
    intro n
    cases n with
    | zero => exact .nil
    | succ n => exact .cons r (ih n)
theorem RVs.drop {ad : List Addr} {xs : List V} {vs : List Value} (h : RVs ad xs vs) : ∀ n : Nat, RVs ad (xs.drop n) (vs.drop n) := by
  induction h with
  | nil => intro n; simp; exact .nil
  | cons r h' ih =>
    intro n
    cases n with
    | zero => exact .cons r h'
    | succ n => exact ih n
section
variable {prog : Program} {w : World} {A : Around} {E : Value → Shared → Prop} {s : Shared}
theorem setItem_slice {l sl m : Addr} {items new : Array Value} {n : Nat} {vl vu : Value} {lo hi : Option Int} {Q : Unit → Shared → Prop} (ho : s.heap.get? l = some ⟨.type "list", none, .seq items n, #[]⟩) (hm : s.heap.IsList m new) (hne : l ≠ m)
    (hs : s.heap.IsSliceOf sl vl vu .none) (pl : IsPart vl lo) (pu : IsPart vu hi) (hsz : items.size + new.size ≤ sizeLine)
    (hQ : ∀ h' n', h'.get? l = some ⟨.type "list", none, .seq (items.extract 0 (sliceBounds lo hi none items.size).1.toNat ++ new ++ items.extract (max (sliceBounds lo hi none items.size).1 (sliceBounds lo hi none items.size).2.1).toNat items.size) n', #[]⟩ → Heap.SameBut l s.heap h' → Q () { s with heap := h' }) :
    wpAny (model prog w) A (setItem (.ref l) (.ref sl) (.ref m)) Q E s := by
  have hl : s.heap.IsList l items := ⟨_, ho, rfl, n, rfl⟩
  have hd : (⟨.type "list", none, .seq items n, #[]⟩ : Obj).data = .seq items n := rfl
  obtain ⟨om, hom, hmc, mn, hmd⟩ := id hm
  obtain ⟨os, hos, hcs, hds⟩ := id hs
  have hTs : s.TypeIs (.ref sl) "slice" := ⟨os, hos, hcs⟩
  unfold setItem
  try with_reducible refine wpAny_holding ?_
  first | refine wpAny_bind (wpAny_pure ?_) | skip
  refine wpAny_bind (wpAny_sequenceKey hl.typeIs (by decide) ?_)
  refine wpAny_bind (wpAny_callSpecial?_slot (name := Str.ofString "__setitem__") hl.typeIs PySem.slot_list_setitem
    (wpAny_call_entry PySem.slot_list_setitem hl.typeIs PySem.entry_list_setitem ?_ (PySem.args_list_setitem _ _ _)))
  show wpAny _ _ (Builtin.List.listSubscript? (.ref sl) >>= _) _ _ s
  refine wpAny_bind ?_
  unfold Builtin.List.listSubscript?
  refine wpAny_bind (wpAny_specialOf hTs slice_no_index ?_)
  simp only [Option.isNone_none, if_true]
  refine wpAny_pure ?_
  show wpAny _ _ (typeOf (.ref sl) >>= _) _ _ s
  refine wpAny_bind (wpAny_typeOf hTs ?_)
  rw [if_neg (by decide)]
  rw [listSliceParts_eq]
  have hstep : ¬ ((rawPart none == rawInt 0) = true) := Bool.false_ne_true
  refine wpAny_bind (wpAny_bind (wpAny_field hos hds (x := .none) rfl (wpAny_bind (wpAny_listPart .none ?_))))
  rw [if_neg hstep]
  refine wpAny_bind (wpAny_field hos hds (x := vl) rfl (wpAny_bind (wpAny_listPart pl ?_)))
  refine wpAny_bind (wpAny_field hos hds (x := vu) rfl (wpAny_bind (wpAny_listPart pu (wpAny_pure ?_))))
  dsimp only
  have e1 : Builtin.List.listSameRef (.ref l) (.ref m) = false := by
    show (l == m) = false
    exact beq_eq_false_iff_ne.mpr hne
  rw [e1, if_neg Bool.false_ne_true]
  unfold Builtin.List.listAllItems
  refine wpAny_bind (wpAny_bind (wpAny_typeOf hm.typeIs ?_))
  rw [if_pos (by decide)]
  unfold Builtin.List.listItems
  refine wpAny_bind (wpAny_seqItems hom hmd (wpAny_pure ?_))
  refine wpAny_bind (wpAny_bind (wpAny_seqItems ho hd (wpAny_pure ?_)))
  refine wpAny_bind (wpAny_of_eq (sliceIndices_raw lo hi none items.size (by simp)) ?_)
  have e2 : (sliceBounds lo hi none items.size).2.2 = 1 := rfl
  generalize sliceBounds lo hi none items.size = bd at *
  obtain ⟨st, sp, k⟩ := bd
  dsimp only at e2 hQ ⊢
  subst e2
  rw [if_pos (by decide)]
  refine wpAny_bind (wpAny_rule ?_)
  rw [if_neg (by unfold Builtin.List.listTooLong; simp; omega)]
  obtain ⟨n', hd'⟩ : ∃ n', Obj.mapSeq (fun xs => xs.extract 0 st.toNat ++ new ++ xs.extract (max st sp).toNat xs.size) ⟨.type "list", none, .seq items n, #[]⟩ = ⟨.type "list", none, .seq (items.extract 0 st.toNat ++ new ++ items.extract (max st sp).toNat items.size) n', #[]⟩ := ⟨_, rfl⟩
  have hfin := Heap.get?_update_self (Obj.mapSeq (fun xs => xs.extract 0 st.toNat ++ new ++ xs.extract (max st sp).toNat xs.size)) ho (by rw [hd']; rfl)
  rw [hd'] at hfin
  refine wpAny_bind (wpAny_updateSeq ho hd ?_ (by omega) ?_)
  · refine wpAny_bind (wpAny_letGo ?_)
    exact wpAny_pure ⟨.none, rfl, wpAny_pure (hQ _ n' hfin (Heap.SameBut.update ..))⟩
  · simp [Array.size_extract]
    omega
end
section
variable {C : Cx} {A : Around} {env : Env} {ρ : Loc} {σ : AH} {E : EX} {Q : V → AH → Prop}
theorem swaps_attr {e o : Expr} {a : Str} {p : Pos} {l : Nat} {env : Env} : swapsWith e (some (.Attribute o a p)) l env = pure false := by
  cases e <;> rfl
theorem swaps_sub {e o i : Expr} {p : Pos} {l : Nat} {env : Env} : swapsWith e (some (.Subscript o i p)) l env = pure false := by
  cases e <;> rfl
theorem WS_setattrC {o e : Expr} {attr : Str} {p pos : Pos} {Q : Fl → Loc → AH → Prop} (h : WE C A env e ρ σ (fun x σ1 => WE C A env o ρ σ1 (fun v σ2 => WSt C A v attr x σ2 (fun σ3 => Q .next ρ σ3) E) E) E) : WS C A env (.Assign [.Attribute o attr p] e pos) ρ σ Q E := by
  refine ⟨?_⟩
  intro ad s hr er
  refine plainObj_wpAny_Assign_Attribute (wpAny_mono (h.run ad s hr er) ?_ fun _ _ x => x) swaps_attr
  rintro x s1 ⟨ad1, σ1, vx, n1, r1, h1⟩
  refine wpAny_mono (h1.run ad1 s1 n1.hr (er.next n1)) ?_ fun _ _ x => x
  rintro ov s2 ⟨ad2, σ2, vo, n2, r2, h2⟩
  refine wpAny_mono (h2.run ad2 s2 ov x n2.hr r2 (n2.rv r1)) ?_ fun _ _ x => x
  rintro _ s3 ⟨ad3, σ3, n3, h3⟩
  exact PS.ofE er (n1.trans (n2.trans n3)) (fl := .next) rfl h3
theorem WS_setslice {o e : Expr} {lo hi : Option Expr} {sp p pos : Pos} {Q : Fl → Loc → AH → Prop} (h : WE C A env e ρ σ (fun x σ1 => WE C A env o ρ σ1 (fun v σ2 => WO C A env lo ρ σ2 (fun l σ3 => WO C A env hi ρ σ3 (fun u σ4 =>
      ∃ j xs ys a b, v = .ref j ∧ x ≠ .ref j ∧ σ4[j]? = some (.list xs) ∧ ObjAt C σ4 x (.list ys) ∧ l = some a ∧ u = some b ∧ 0 ≤ a ∧ a ≤ b ∧ b ≤ xs.length ∧ xs.length + ys.length ≤ sizeLine ∧ Q .next ρ (σ4.set j (.list (xs.take a.toNat ++ ys ++ xs.drop b.toNat)))) E) E) E) E)
    (hs : isCompE e = false := by rfl) : WS C A env (.Assign [.Subscript o (.Slice lo hi none sp) p] e pos) ρ σ Q E := by
  refine ⟨?_⟩
  intro ad s hr er
  refine wpAny_Assign_Subscript (wpAny_mono (h.run ad s hr er) ?_ fun _ _ x => x) swaps_sub
  rintro x s1 ⟨ad1, σ1, vx, n1, r1, h1⟩
  have er1 := er.next n1
  refine wpAny_mono (h1.run ad1 s1 n1.hr er1) ?_ fun _ _ x => x
  rintro ov s2 ⟨ad2, σ2, vo, n2, r2, h2⟩
  have er2 := er1.next n2
  refine wpAny_Slice (wpAny_mono (h2.run ad2 s2 n2.hr er2) ?_ fun _ _ x => x)
  rintro lv s3 ⟨ad3, σ3, kl, n3, p3, h3⟩
  refine wpAny_mono (h3.run ad3 s3 n3.hr (er2.next n3)) ?_ fun _ _ x => x
  rintro uv s4 ⟨ad4, σ4, ku, n4, p4, j, xs, ys, a, b, rfl, hxj, hj, hx, rfl, rfl, h0, hab, hb, hz, hq⟩
  rw [evalPart_none]
  refine wpAny_pure ?_
  have np := Nx.push (C := C) (s := s4) { cls := .type "slice", data := .fields #[lv, uv, .none] } n4.hr
  have n24 := (n3.trans n4).trans np
  obtain ⟨aj, haj, rfl⟩ := n24.rv r2
  obtain ⟨m, new, rfl, hm, rvn⟩ := hx.list np.hr ((n2.trans n24).rv r1)
  obtain ⟨ob, ho, vs, k, rfl, rvs⟩ := np.hr.obj j _ aj hj haj
  have hvs : vs.size = xs.length := by have := rvs.length; simp at this; omega
  have hns : new.size = ys.length := by have := rvn.length; simp at this; omega
  have hne : aj ≠ m := by
    rintro rfl
    cases vx with
    | ref i =>
      obtain ⟨a', h1', h2'⟩ := (n2.trans n24).rv r1
      cases h2'
      exact hxj (by rw [(List.getElem?_inj (List.getElem?_eq_some_iff.mp haj).1 np.hr.nd).mp (haj.trans h1'.symm)])
    | k v =>
      have e := (n2.trans n24).rv r1
      cases e
      obtain ⟨vs', ⟨o', ho', _⟩, _⟩ := np.hr.ok.gob _ _ hx
      rw [np.hr.off _ (List.mem_of_getElem? haj)] at ho'
      cases ho'
    | _ => exact hx.elim
  refine setItem_slice ho hm hne (Heap.IsSliceOf.new ..) p3 p4 (by omega) fun h' n' hg hs' => ?_
  have hb1 : (sliceBounds (some a) (some b) none vs.size) = (a, b, 1) := by
    rw [hvs]
    simp [sliceBounds]
    omega
  rw [hb1] at hg
  refine PS.ofE er (n1.trans (n2.trans (n24.trans (Nx.set (tk := s4.toks) (o := .list (xs.take a.toNat ++ ys ++ xs.drop b.toNat)) np.hr haj hs' hg ⟨_, n', rfl, ?_⟩)))) (fl := .next) rfl hq
  rw [Array.toList_append, Array.toList_append, Array.toList_extract, Array.toList_extract, show max a b = b by omega, hvs]
  have e5 : vs.toList.extract 0 a.toNat = vs.toList.take a.toNat := by simp [List.extract]
  have e6 : vs.toList.extract b.toNat xs.length = vs.toList.drop b.toNat := by
    show (vs.toList.drop b.toNat).take (xs.length - b.toNat) = _
    refine List.take_of_length_le ?_
    rw [List.length_drop, Array.length_toList]
    omega
  rw [e5, e6]
  exact ((rvs.take _).append rvn).append (rvs.drop _)
end
end Mine

-- part Aw24
set_option autoImplicit false
set_option linter.unusedVariables false
namespace Mine
open PySem PySem.W PyProof.Rows

theorem get_mid {σ J : AH} {o : O} {n : Nat} (e : n = σ.length) : (σ ++ [o] ++ J)[n]? = some o := by
  subst e; rw [List.append_assoc, List.getElem?_append_right (Nat.le_refl _)]; simp
theorem set_mid {σ J : AH} {o o' : O} {n : Nat} (e : n = σ.length) : (σ ++ [o] ++ J).set n o' = σ ++ [o'] ++ J := by
  subst e; rw [List.append_assoc, List.set_append_right _ _ (Nat.le_refl _)]; simp
theorem exNat {n : Nat} {P : Nat → Prop} (h : P n) : ∃ m : Nat, [V.int n] = [V.int m] ∧ P m := ⟨n, rfl, h⟩
theorem rngSize0 (n : Nat) : (Builtin.Range.rangeSize 0 n 1).toNat = n := by
  unfold Builtin.Range.rangeSize
  simp
  split <;> omega

section
variable {C : Cx} {A : Around} {env : Env} {ρ : Loc} {σ : AH} {E : EX} {Q : V → AH → Prop}
theorem WL.conseq {es : List Expr} {Q Q' : List V → AH → Prop} (h : WL C A env es ρ σ Q E) (hq : ∀ v σ1, Q v σ1 → Q' v σ1) : WL C A env es ρ σ Q' E := by
  refine ⟨?_⟩
  intro ad s pos hr er
  refine wpAny_mono (h.run ad s pos hr er) ?_ fun _ _ x => x
  rintro u s1 ⟨ad1, σ1, v, n1, r1, h1⟩
  exact ⟨ad1, σ1, v, n1, r1, hq _ _ h1⟩
theorem WItr_rng {C : Cx} {l : List (Str × Value)} {id : Str} {p pos : Pos} {args : List Expr} {K : Nat → (Nat → V) → (AH → Prop) → AH → Prop} (hA : A.handled = none) (hf : (id, Value.type "range") ∈ l)
    (h : WL (C.wg l) A env args ρ σ (fun vs σ1 => ∃ n : Nat, vs = [.int n] ∧ n ≤ 2 ^ 60 ∧ K n (fun i => .int (i : Nat)) (fun _ => True) σ1) E)
    (hns : noStar args = true := by rfl) : WItr (C.wg l) A env (.Call (.Name id p) args [] pos) ρ σ K E := by
  refine WItr_range hA hf (h.conseq ?_) hns
  rintro vs σ1 ⟨n, rfl, hn, hk⟩
  refine ⟨0, n, 1, rfl, by decide, by decide, by omega, by decide, ?_⟩
  rw [rngSize0]
  have e : (fun i : Nat => V.int (0 + (i : Int) * 1)) = fun i : Nat => V.int i := by funext i; congr 1; omega
  rw [e]; exact hk
theorem listSub_bool {prog : Program} {w : World} {s : Shared} {b : Bool} {Q : Option Int → Shared → Prop} (h : Q (some (if b = true then 1 else 0)) s) :
    wpAny (model prog w) A (Builtin.List.listSubscript? (.bool b)) Q E s := by
  unfold Builtin.List.listSubscript?
  refine wpAny_bind (wpAny_specialOf (T := "bool") (PySem.typeIs_bool s b) PySem.F.slot_bool_index.lookup ?_)
  show wpAny _ A (asIndex (.bool b) >>= _) Q E s
  refine wpAny_bind (wpAny_of_eq (a := if b = true then 1 else 0) (by cases b <;> rfl) ?_)
  cases b <;> exact wpAny_pure h
theorem getItem_bool {prog : Program} {w : World} {s : Shared} {l : Addr} {items : Array Value} {b : Bool} {x : Value} {Q : Value → Shared → Prop} (hl : s.heap.IsList l items)
    (hx : items[(if b = true then 1 else 0 : Nat)]? = some x) (h : Q x s) : wpAny (model prog w) A (getItem (.ref l) (.bool b)) Q E s := by
  obtain ⟨o, ho, hc, ne, hd⟩ := id hl
  unfold getItem
  try with_reducible refine wpAny_holding ?_
  first | refine wpAny_bind (wpAny_pure ?_) | skip
  refine wpAny_bind (wpAny_sequenceKey hl.typeIs (by decide) ?_)
  refine wpAny_bind (wpAny_callSpecial?_slot (name := Str.ofString "__getitem__") hl.typeIs slot_list_getitem
    (wpAny_call_entry slot_list_getitem hl.typeIs entry_list_getitem ?_ (args_list_getitem _ _)))
  show wpAny _ _ (Builtin.List.listSubscript? (.bool b) >>= _) _ _ s
  refine wpAny_bind (listSub_bool ?_)
  generalize hj : (if b = true then 1 else 0 : Nat) = j at hx
  have e : (if b = true then (1 : Int) else 0) = Int.ofNat j := by subst hj; cases b <;> rfl
  rw [e]
  show wpAny _ _ ((seqItemAt l j >>= fun r => pure (r.map (j, ·))) >>= _) _ _ s
  refine wpAny_bind (wpAny_bind (wpAny_seqItemAt ho hd (wpAny_pure ?_)))
  rw [hx]
  first
    | exact wpAny_bind (wpAny_pure (wpAny_pure ⟨x, rfl, wpAny_pure h⟩))
    | exact wpAny_pure ⟨x, rfl, wpAny_pure h⟩
/-- an item of a list written out, by a truth value -/
theorem WE_menuB {es : List Expr} {slice : Expr} {lp pos : Pos} (h : WL C A env es ρ σ (fun vs σ1 => vs.length ≤ sizeLine ∧ WE C A env slice ρ σ1 (fun b σ2 => ∃ c x, b = .bool c ∧ vs[(if c = true then 1 else 0 : Nat)]? = some x ∧ Q x σ2) E) E)
    (hs : isSliceE slice = false := by rfl) : WE C A env (.Subscript (.List es lp) slice pos) ρ σ Q E := by
  refine ⟨?_⟩
  intro ad s hr er
  refine Subscript_ (List_ (wpAny_mono (h.run ad s lp hr er) ?_ fun _ _ x => x))
  rintro us s1 ⟨ad1, σ1, vs, n1, r1, hz, h1⟩
  refine wpAny_newObj_type ?_ (by show us.toArray.size ≤ sizeLine; rw [List.size_toArray, ← r1.length]; exact hz)
  have n2 : Nx C [] ad1 s1 ad1 σ1 { s1 with heap := s1.heap.push { cls := .type "list", data := .seq us.toArray } } := Nx.push _ n1.hr
  have n12 := n1.trans n2
  refine wpAny_mono (h1.run ad1 _ n2.hr (er.next n12)) ?_ fun _ _ x => x
  rintro b s3 ⟨ad3, σ3, vb, n3, r3, k, x, rfl, hx, hq⟩
  cases r3
  have hl : s3.heap.IsList s1.heap.objs.size us.toArray := by
    refine ⟨_, n3.same s1.heap.objs.size _ (Heap.get?_push_size _ rfl) ?_ (by simp), rfl, _, rfl⟩
    exact (n1.hr.fresh (Nat.le_refl _)).2
  obtain ⟨u, hu, ru⟩ := r1.get hx
  have n13 := n12.trans n3
  exact tail_any hl.typeIs slot_list_getitem.lookup (getItem_bool hl (by simpa using hu) ⟨ad3, σ3, x, n13, n3.rv (n2.rv ru), hq⟩) (slice_not hs _ _)
def ixOf : V → Option Nat
  | .int i => if 0 ≤ i ∧ i < 2 ^ 63 then some i.toNat else none
  | .bool b => some (if b = true then 1 else 0)
  | _ => none
theorem ixI {k : Int} {x : V} {vs : List V} {P : V → Prop} (h0 : 0 ≤ k) (h1 : k < 2 ^ 63) (hx : vs[k.toNat]? = some x) (h : P x) : ∃ j y, ixOf (.int k) = some j ∧ vs[j]? = some y ∧ P y :=
  ⟨k.toNat, x, (show (if 0 ≤ k ∧ k < 2 ^ 63 then some k.toNat else none) = some k.toNat from if_pos ⟨h0, h1⟩), hx, h⟩
theorem ixB {c : Bool} {x : V} {vs : List V} {P : V → Prop} (hx : vs[(if c = true then 1 else 0 : Nat)]? = some x) (h : P x) : ∃ j y, ixOf (.bool c) = some j ∧ vs[j]? = some y ∧ P y := ⟨_, x, rfl, hx, h⟩
/-- an item of a list written out, by a number or a truth value -/
theorem WE_menuX {es : List Expr} {slice : Expr} {lp pos : Pos} (h : WL C A env es ρ σ (fun vs σ1 => vs.length ≤ sizeLine ∧ WE C A env slice ρ σ1 (fun b σ2 => ∃ k x, ixOf b = some k ∧ vs[k]? = some x ∧ Q x σ2) E) E)
    (hs : isSliceE slice = false := by rfl) : WE C A env (.Subscript (.List es lp) slice pos) ρ σ Q E := by
  refine ⟨?_⟩
  intro ad s hr er
  refine Subscript_ (List_ (wpAny_mono (h.run ad s lp hr er) ?_ fun _ _ x => x))
  rintro us s1 ⟨ad1, σ1, vs, n1, r1, hz, h1⟩
  refine wpAny_newObj_type ?_ (by show us.toArray.size ≤ sizeLine; rw [List.size_toArray, ← r1.length]; exact hz)
  have n2 : Nx C [] ad1 s1 ad1 σ1 { s1 with heap := s1.heap.push { cls := .type "list", data := .seq us.toArray } } := Nx.push _ n1.hr
  have n12 := n1.trans n2
  refine wpAny_mono (h1.run ad1 _ n2.hr (er.next n12)) ?_ fun _ _ x => x
  rintro b s3 ⟨ad3, σ3, vb, n3, r3, k, x, hk, hx, hq⟩
  have hl : s3.heap.IsList s1.heap.objs.size us.toArray := by
    refine ⟨_, n3.same s1.heap.objs.size _ (Heap.get?_push_size _ rfl) ?_ (by simp), rfl, _, rfl⟩
    exact (n1.hr.fresh (Nat.le_refl _)).2
  obtain ⟨u, hu, ru⟩ := r1.get hx
  have n13 := n12.trans n3
  cases vb with
  | int i =>
    obtain ⟨t, rfl⟩ := r3
    have hk : (if 0 ≤ i ∧ i < 2 ^ 63 then some i.toNat else none) = some k := hk
    by_cases hi : 0 ≤ i ∧ i < 2 ^ 63
    · rw [if_pos hi] at hk
      cases hk
      exact tail_any hl.typeIs slot_list_getitem.lookup (wpAny_getItem_list hl hi.1 hi.2 (by simpa using hu) ⟨ad3, σ3, x, n13, n3.rv (n2.rv ru), hq⟩) (slice_not hs _ _)
    · rw [if_neg hi] at hk
      cases hk
  | bool c =>
    cases r3
    cases hk
    exact tail_any hl.typeIs slot_list_getitem.lookup (getItem_bool hl (by simpa using hu) ⟨ad3, σ3, x, n13, n3.rv (n2.rv ru), hq⟩) (slice_not hs _ _)
  | _ => cases hk
/-- a chain of two, as a value -/
theorem WE_Compare2 {l r r' : Expr} {op op' : CmpOp} {pos : Pos}
    (h : WE C A env l ρ σ (fun a σ1 => WE C A env r ρ σ1 (fun b σ2 => WOp2 C A (compareOp op) a b σ2 (fun c σ3 => WTr C A c σ3 (fun t σ4 =>
      if t = true then WE C A env r' ρ σ4 (fun b' σ5 => WOp2 C A (compareOp op') b b' σ5 Q E) E else Q c σ4) E) E) E) E)
    (hm : isSetE r' = false := by rfl) : WE C A env (.Compare l [op, op'] [r, r'] pos) ρ σ Q E := by
  refine ⟨?_⟩
  intro ad s hr er
  refine Compare_chain (wpAny_mono (h.run ad s hr er) ?_ fun _ _ x => x) (marks_not hm)
  rintro a s1 ⟨ad1, σ1, va, n1, r1, h1⟩
  refine chain_link (wpAny_mono (h1.run ad1 s1 n1.hr (er.next n1)) ?_ fun _ _ x => x)
  rintro b s2 ⟨ad2, σ2, vb, n2, r2, h2⟩
  refine wpAny_mono (h2.run ad2 s2 a b n2.hr (n2.rv r1) r2) ?_ fun _ _ x => x
  rintro c s3 ⟨ad3, σ3, vc, n3, r3, h3⟩
  refine wpAny_mono (h3.run ad3 s3 c n3.hr r3) ?_ fun _ _ x => x
  rintro t s4 ⟨ad4, σ4, n4, h4⟩
  have n14 := ((n1.trans n2).trans n3).trans n4
  cases t with
  | false => exact ⟨ad4, σ4, vc, n14, n4.rv r3, h4⟩
  | true =>
    refine chain_last (wpAny_mono (h4.run ad4 s4 n4.hr (er.next n14)) ?_ fun _ _ x => x)
    rintro b' s5 ⟨ad5, σ5, vb', n5, r5, h5⟩
    exact wpAny_mono (h5.run ad5 s5 b b' n5.hr (n5.rv (n4.rv (n3.rv r2))) r5) (fun u s' p => PE.trans (n14.trans n5) p) fun _ _ x => x
theorem Rd.list_inv {v : V} {ds : List PyData} (h : Rd C σ v (.list ds)) : ∃ xs, ObjAt C σ v (.list xs) ∧ RdAll C σ xs ds := by
  cases h with
  | list o r => exact ⟨_, o, r⟩
theorem RdAll.range_inv {n : Nat} {g : Nat → PyData} : ∀ {xs : List V}, RdAll C σ xs ((List.range n).map g) → ∃ f : Nat → V, xs = (List.range n).map f ∧ ∀ k, k < n → Rd C σ (f k) (g k) := by
  have gen : ∀ (ds : List PyData) (xs : List V), RdAll C σ xs ds → xs.length = ds.length ∧ ∀ k (h1 : k < ds.length) (h2 : k < xs.length), Rd C σ xs[k] ds[k] := by
    intro ds
    induction ds with
    | nil => intro xs h; cases h; exact ⟨rfl, fun k h => absurd h (Nat.not_lt_zero _)⟩
    | cons d r ih =>
      intro xs h
      cases h with
      | @cons v d vs ds a b =>
        obtain ⟨i1, i2⟩ := ih vs b
        refine ⟨by simp [i1], fun k h1 h2 => ?_⟩
        cases k with
        | zero => exact a
        | succ k => exact i2 k (by simpa using h1) (by simpa using h2)
  intro xs h
  obtain ⟨h1, h2⟩ := gen _ _ h
  have h1' : xs.length = n := by simpa using h1
  refine ⟨fun k => xs.getD k .none, ?_, fun k hk => ?_⟩
  · refine List.ext_getElem (by simp [h1']) fun i a b => ?_
    simp [a]
  · have := h2 k (by simpa using hk) (by omega)
    simp at this
    simpa [List.getD, show k < xs.length by omega] using this
theorem RdAll.range {n : Nat} {f : Nat → V} {g : Nat → PyData} (h : ∀ k, k < n → Rd C σ (f k) (g k)) : RdAll C σ ((List.range n).map f) ((List.range n).map g) := by
  have gen : ∀ l : List Nat, (∀ k ∈ l, k < n) → RdAll C σ (l.map f) (l.map g) := by
    intro l
    induction l with
    | nil => intro _; exact .nil
    | cons x r ih => intro hl; exact .cons (h x (hl x (.head _))) (ih fun k hk => hl k (.tail _ hk))
  exact gen _ fun k hk => List.mem_range.mp hk
theorem Rd.ints_inv {v : V} {r : List Int} (h : Rd C σ v (.list (r.map PyData.int))) : ObjAt C σ v (.list (r.map V.int)) := by
  obtain ⟨xs, o, ra⟩ := h.list_inv
  have : ∀ (r : List Int) (xs : List V), RdAll C σ xs (r.map PyData.int) → xs = r.map V.int := by
    intro r
    induction r with
    | nil => intro xs h; cases h; rfl
    | cons i r ih =>
      intro xs h
      rw [List.map_cons] at h
      cases h with
      | cons a b => cases a; rw [ih _ b]; rfl
  rw [this r xs ra] at o
  exact o
end
end Mine

-- part Aw25
set_option autoImplicit false
set_option linter.unusedVariables false
namespace Mine
open PySem PySem.W PyProof.Rows

theorem lenS {n : Nat} : ∀ {xs : List Value}, xs.length = n + 1 → ∃ x r, xs = x :: r ∧ r.length = n
  | x :: r, h => ⟨x, r, rfl, Nat.succ.inj h⟩
theorem len0 {xs : List Value} (h : xs.length = 0) : xs = [] := List.eq_nil_of_length_eq_zero h
theorem len1 {xs : List Value} (h : xs.length = 1) : ∃ x0, xs = [x0] := let ⟨x, r, e, h2⟩ := lenS h; ⟨x, by rw [e, len0 h2]⟩
theorem len2 {xs : List Value} (h : xs.length = 2) : ∃ x0 x1, xs = [x0, x1] := let ⟨x, r, e, h2⟩ := lenS h; let ⟨y0, e2⟩ := len1 h2; ⟨x, y0, by rw [e, e2]⟩
theorem len3 {xs : List Value} (h : xs.length = 3) : ∃ x0 x1 x2, xs = [x0, x1, x2] := let ⟨x, r, e, h2⟩ := lenS h; let ⟨y0, y1, e2⟩ := len2 h2; ⟨x, y0, y1, by rw [e, e2]⟩
theorem len4 {xs : List Value} (h : xs.length = 4) : ∃ x0 x1 x2 x3, xs = [x0, x1, x2, x3] := let ⟨x, r, e, h2⟩ := lenS h; let ⟨y0, y1, y2, e2⟩ := len3 h2; ⟨x, y0, y1, y2, by rw [e, e2]⟩
theorem len5 {xs : List Value} (h : xs.length = 5) : ∃ x0 x1 x2 x3 x4, xs = [x0, x1, x2, x3, x4] := let ⟨x, r, e, h2⟩ := lenS h; let ⟨y0, y1, y2, y3, e2⟩ := len4 h2; ⟨x, y0, y1, y2, y3, by rw [e, e2]⟩
theorem len6 {xs : List Value} (h : xs.length = 6) : ∃ x0 x1 x2 x3 x4 x5, xs = [x0, x1, x2, x3, x4, x5] := let ⟨x, r, e, h2⟩ := lenS h; let ⟨y0, y1, y2, y3, y4, e2⟩ := len5 h2; ⟨x, y0, y1, y2, y3, y4, by rw [e, e2]⟩
theorem len7 {xs : List Value} (h : xs.length = 7) : ∃ x0 x1 x2 x3 x4 x5 x6, xs = [x0, x1, x2, x3, x4, x5, x6] := let ⟨x, r, e, h2⟩ := lenS h; let ⟨y0, y1, y2, y3, y4, y5, e2⟩ := len6 h2; ⟨x, y0, y1, y2, y3, y4, y5, by rw [e, e2]⟩
theorem fm_range {α : Type} (xs : List α) (s : Nat) : ∀ c, s + c ≤ xs.length → ((List.range c).map (fun k => s + k)).filterMap (xs[·]?) = (xs.drop s).take c
  | 0, _ => by simp
  | c + 1, h => by
    have ih := fm_range xs s c (by omega)
    have hl : s + c < xs.length := by omega
    rw [List.range_succ, List.map_append, List.filterMap_append, ih, List.take_add_one]
    simp [List.getElem?_drop, hl]
theorem pickV_mid {α : Type} (xs : List α) {a b : Int} (h0 : 0 ≤ a) (hab : a ≤ b) : pickV xs (some a) (some b) none = (xs.drop a.toNat).take (b - a).toNat := by
  have e : sliceBounds (some a) (some b) none xs.length = (min a xs.length, min b xs.length, 1) := by
    simp [sliceBounds]; omega
  unfold pickV
  rw [e]
  dsimp only
  have e2 : sliceRange (min a xs.length) (min b xs.length) 1 = (List.range (min b xs.length - min a xs.length).toNat).map (fun k => (min a xs.length).toNat + k) := by
    unfold sliceRange
    have ec : (if (1 : Int) > 0 then (if min a xs.length < min b xs.length then (min b xs.length - min a xs.length + 1 - 1) / 1 else 0) else (if min a xs.length > min b xs.length then (min a xs.length - min b xs.length - 1 - 1) / (-1) else 0)).toNat = (min b xs.length - min a xs.length).toNat := by
      simp
      split <;> omega
    dsimp only
    rw [ec]
    refine List.map_congr_left fun k _ => ?_
    omega
  rw [e2, fm_range _ _ _ (by omega)]
  by_cases ha : a ≤ xs.length
  · have e3 : (min a (xs.length : Int)).toNat = a.toNat := by omega
    rw [e3]
    by_cases hb : b ≤ xs.length
    · congr 1; omega
    · rw [List.take_of_length_le (by rw [List.length_drop]; omega), List.take_of_length_le (by rw [List.length_drop]; omega)]
  · rw [List.drop_eq_nil_of_le (by omega), List.drop_eq_nil_of_le (by omega)]
    simp
theorem sliceRange_nat (a b : Nat) (h : a ≤ b) : sliceRange a b 1 = (List.range (b - a)).map (fun k => a + k) := by
  obtain ⟨c, rfl⟩ : ∃ c, b = a + c := ⟨b - a, by omega⟩
  unfold sliceRange
  have e : (if (1 : Int) > 0 then (if (a : Int) < ((a + c : Nat) : Int) then (((a + c : Nat) : Int) - a + 1 - 1) / 1 else 0) else (if (a : Int) > ((a + c : Nat) : Int) then ((a : Int) - ((a + c : Nat) : Int) - 1 - 1) / (-1) else 0)).toNat = c := by
    rw [if_pos (by decide), Int.ediv_one]
    split <;> omega
  dsimp only
  rw [e, Nat.add_sub_cancel_left]
  refine List.map_congr_left fun k _ => ?_
  rw [Int.one_mul]; rfl
theorem pickV_nat {α : Type} (xs : List α) {a b : Nat} (hab : a ≤ b) (hb : b ≤ xs.length) : pickV xs (some (a : Int)) (some (b : Int)) none = (xs.drop a).take (b - a) := by
  have cl : ∀ n m : Nat, n ≤ m → max (0 : Int) (min (if (n : Int) < 0 then (n : Int) + m else n) m) = n := fun n m h => by rw [if_neg (by omega)]; omega
  have e : sliceBounds (some (a : Int)) (some (b : Int)) none xs.length = ((a : Int), (b : Int), (1 : Int)) := by
    show (max (0 : Int) (min (if (a : Int) < 0 then (a : Int) + xs.length else a) xs.length), max (0 : Int) (min (if (b : Int) < 0 then (b : Int) + xs.length else b) xs.length), (1 : Int)) = _
    rw [cl a _ (Nat.le_trans hab hb), cl b _ hb]
  unfold pickV
  rw [e]
  dsimp only
  rw [sliceRange_nat a b hab, fm_range _ _ _ (by omega)]
section
variable {C : Cx} {A : Around} {env : Env} {ρ : Loc} {σ : AH} {E : EX} {Q : V → AH → Prop}
mutual
theorem Rd.turn {C C' : Cx} {σ σ' : AH} (ho : ∀ v o, ObjAt C σ v o → ObjAt C' σ' v o) : ∀ {v : V} {d : PyData}, Rd C σ v d → Rd C' σ' v d
  | _, _, .none => .none
  | _, _, .bool => .bool
  | _, _, .int => .int
  | _, _, .str => .str
  | _, _, .list o r => .list (ho _ _ o) (RdAll.turn ho r)
  | _, _, .tuple o r => .tuple (ho _ _ o) (RdAll.turn ho r)
theorem RdAll.turn {C C' : Cx} {σ σ' : AH} (ho : ∀ v o, ObjAt C σ v o → ObjAt C' σ' v o) : ∀ {v : List V} {d : List PyData}, RdAll C σ v d → RdAll C' σ' v d
  | _, _, .nil => .nil
  | _, _, .cons r rs => .cons (Rd.turn ho r) (RdAll.turn ho rs)
end
theorem Rd.up {J : AH} {v : V} {d : PyData} (h : Rd C σ v d) : Rd C (σ ++ J) v d := h.turn fun _ _ o => o.up
theorem RdAll.up {J : AH} {v : List V} {d : List PyData} (h : RdAll C σ v d) : RdAll C (σ ++ J) v d := h.turn fun _ _ o => o.up
theorem Rd.wg {l : List (Str × Value)} {v : V} {d : PyData} (h : Rd C σ v d) : Rd (C.wg l) σ v d := h.turn fun v o q => by cases v <;> exact q
theorem RdAll.wg {l : List (Str × Value)} {v : List V} {d : List PyData} (h : RdAll C σ v d) : RdAll (C.wg l) σ v d := h.turn fun v o q => by cases v <;> exact q
theorem Rd.gw {l : List (Str × Value)} {v : V} {d : PyData} (h : Rd (C.wg l) σ v d) : Rd C σ v d := h.turn fun v o q => by cases v <;> exact q
theorem RdAll.gw {l : List (Str × Value)} {v : List V} {d : List PyData} (h : RdAll (C.wg l) σ v d) : RdAll C σ v d := h.turn fun v o q => by cases v <;> exact q
theorem RdAll.snoc {vs : List V} {ds : List PyData} {v : V} {d : PyData} (h : RdAll C σ vs ds) (hv : Rd C σ v d) : RdAll C σ (vs ++ [v]) (ds ++ [d]) := by
  induction vs generalizing ds with
  | nil => cases h; exact .cons hv .nil
  | cons a r ih => cases h with
    | cons x y => exact .cons x (ih y)
theorem RdAll.len {vs : List V} {ds : List PyData} (h : RdAll C σ vs ds) : vs.length = ds.length := by
  induction vs generalizing ds with
  | nil => cases h; rfl
  | cons a r ih => cases h with
    | cons x y => simp [ih y]
theorem RdAll.get {vs : List V} {ds : List PyData} (h : RdAll C σ vs ds) : ∀ {i : Nat} {d : PyData}, ds[i]? = some d → ∃ v, vs[i]? = some v ∧ Rd C σ v d := by
  induction vs generalizing ds with
  | nil => cases h; intro i d h; simp at h
  | cons a r ih => cases h with
    | cons x y =>
      intro i d hd
      cases i with
      | zero => simp at hd; subst hd; exact ⟨a, rfl, x⟩
      | succ i => simp at hd; obtain ⟨v, h1, h2⟩ := ih y hd; exact ⟨v, by simpa using h1, h2⟩
theorem RdAll.ints_inv {r : List Int} {xs : List V} (h : RdAll C σ xs (r.map PyData.int)) : xs = r.map V.int := by
  induction r generalizing xs with
  | nil => cases h; rfl
  | cons i r ih =>
    rw [List.map_cons] at h
    cases h with
    | cons a b => cases a; rw [ih b]; rfl
/-- a comprehension whose elements are data; the heap but grows -/
theorem CompGo_data {l2 : List (Str × Value)} {sc : Scope} {x : Str} {elt : Expr} {capt : Loc} {K : List V → AH → Prop} {n : Nat} {P : Nat → V} {Cd : AH → Prop} {σ1 : AH} (f : Nat → PyData) (hz : n ≤ sizeLine) (hcd : ∀ J, Cd (σ1 ++ J))
    (h : ∀ i pv J, i < n → P i = pv → ∀ cenv, Kn cenv (relab sc.names) → WE (C.wg l2) A cenv elt ((x, some pv) :: capt) (σ1 ++ J) (fun v σ3 => ∃ J', σ3 = σ1 ++ J ++ J' ∧ Rd C σ3 v (f i)) (fun _ _ => False))
    (hk : ∀ J acc, RdAll C (σ1 ++ J) acc ((List.range n).map f) → K acc (σ1 ++ J)) : CompGo C A l2 sc x [] elt capt K n P Cd σ1 := by
  refine ⟨hz, fun i acc σ' => ∃ J, σ' = σ1 ++ J ∧ RdAll C σ' acc ((List.range i).map f), ⟨[], by simp, .nil⟩, ?_, ?_⟩
  · rintro i acc σ' pv hi hp ⟨J, rfl, hr⟩
    refine ⟨hcd J, fun cenv hc => WIf_nil ?_⟩
    rw [if_pos rfl]
    refine (h i pv J hi hp cenv hc).conseq ?_
    rintro v σ3 ⟨J', rfl, rv⟩
    refine ⟨J ++ J', by simp, ?_⟩
    rw [List.range_succ, List.map_append]
    exact hr.up.snoc rv
  · rintro acc σ' ⟨J, rfl, hr⟩
    exact ⟨hcd J, hk J acc hr⟩
end
end Mine

-- part Aw26
set_option autoImplicit false
set_option linter.unusedVariables false
namespace Mine
open PySem PySem.W PyProof.Rows

/-- the comprehension's names are as wished: several targets -/
def compOkG (onames : List (Str × NameKind)) (sc : Scope) (xs : List Str) (capt gl : List Str) : Bool :=
  sc.names.all (fun p => p.2 != .cell && (p.2 != .local || sc.names.lookup p.1 == some .local) && (p.2 != .free || (capt.contains p.1 && onames.lookup p.1 == some .cell)))
  && xs.all (fun x => sc.names.lookup x == some .local && nmOk x && !capt.contains x)
  && capt.all (fun y => nmOk y && sc.names.lookup y == some .free)
  && gl.all (fun y => nmOk y && sc.names.lookup y == some .globalImplicit)
  && decide xs.Nodup
structure CompOkG (onames : List (Str × NameKind)) (sc : Scope) (xs : List Str) (capt gl : List Str) : Prop where
  nocell : ∀ y ∈ sc.names, y.2 ≠ .cell
  locs : ∀ y ∈ sc.names, y.2 = .local → sc.names.lookup y.1 = some .local
  free : ∀ n, (n, NameKind.free) ∈ sc.names → n ∈ capt ∧ onames.lookup n = some .cell
  xl : ∀ x ∈ xs, sc.names.lookup x = some .local
  xn : ∀ x ∈ xs, nmOk x = true
  xc : ∀ x ∈ xs, x ∉ capt
  xd : xs.Nodup
  cap : ∀ y ∈ capt, nmOk y = true ∧ sc.names.lookup y = some .free
  glo : ∀ y ∈ gl, nmOk y = true ∧ sc.names.lookup y = some .globalImplicit
theorem compOkG.ok {onames : List (Str × NameKind)} {sc : Scope} {xs : List Str} {capt gl : List Str} (h : compOkG onames sc xs capt gl = true) : CompOkG onames sc xs capt gl := by
  unfold compOkG at h
  simp only [Bool.and_eq_true, List.all_eq_true, Bool.or_eq_true, bne_iff_ne, beq_iff_eq, Bool.not_eq_true', List.contains_eq_mem, decide_eq_true_eq, decide_eq_false_iff_not] at h
  obtain ⟨⟨⟨⟨h1, h2⟩, h5⟩, h6⟩, h7⟩ := h
  refine ⟨fun y hy => (h1 y hy).1.1, fun y hy e => ?_, fun n hn => ?_, fun x hx => (h2 x hx).1.1, fun x hx => (h2 x hx).1.2, fun x hx => (h2 x hx).2, h7, h5, h6⟩
  · exact ((h1 y hy).1.2).resolve_left fun h => h e
  · exact ((h1 _ hn).2).resolve_left fun h => h rfl
/-- a value stored to a comprehension's target binds the names xs to vs -/
structure TgtOk (C : Cx) (A : Around) (target : Expr) (xs : List Str) (pv : V) (vs : List V) (σ : AH) : Prop where
  len : xs.length = vs.length
  run : ∀ ad (s : Shared) u (cenv : Env) m (Q : Unit → Shared → Prop) (E : EX), HR C ad σ s.heap → RV ad pv u → (∀ x ∈ xs, cenv.kindOf x = some .local) → cenv.scope.kind = .function → s.heap.Ns cenv.locals m → cenv.locals ∉ ad → C.G.get? cenv.locals = none →
    (∀ h' tk m2 us, RVs ad vs us → h'.Ns cenv.locals m2 → (∀ p ∈ xs.zip us, m2 p.1 = some p.2) → (∀ b o, b ≠ cenv.locals → s.heap.get? b = some o → h'.get? b = some o) → s.heap.objs.size ≤ h'.objs.size → Q () { s with heap := h', toks := tk }) →
    wpAny (model C.prog C.w) A (assign target cenv u) Q E s
section
variable {C : Cx} {A : Around} {env : Env} {ρ : Loc} {σ : AH} {E : EX} {Q : V → AH → Prop}
theorem compLoopG {prog : Program} {w : World} {R : Result → Shared → Prop} {s : Shared} {elt target iter : Expr} {ifs : List Expr} {scope : Scope} {pos : Pos} {it acc : Value} (I : Nat → Shared → Prop)
    (turn : ∀ n s, I n s → wpAny (model prog w) A (pyNext it) (fun r s₁ => match r with
      | none => R (.ok .next) s₁
      | some v => wpAny (model prog w) A (letOwnedTupleGo target it v) (fun _ s₁' => wpAny (model prog w) A (assign target env v) (fun _ s₂ =>
          wpAny (model prog w) A (forIn ifs true fun c r => if r = true then do let ok ← isTrue c env (eval c env); pure (ForInStep.yield ok) else pure (ForInStep.yield r)) (fun ok s₃ =>
            if ok = true then wpAny (model prog w) A (eval elt env) (fun x s₄ =>
              wpAny (model prog w) A (call (.builtin "list.append") [acc, x]) (fun _ s₅ => ∃ m, m < n ∧ I m s₅) (notedBy (model prog w) A env fun e s' => R (.error e) s') s₄) (notedBy (model prog w) A env fun e s' => R (.error e) s') s₃
            else ∃ m, m < n ∧ I m s₃) (notedBy (model prog w) A env fun e s' => R (.error e) s') s₂) (notedBy (model prog w) A env fun e s' => R (.error e) s') s₁') (notedBy (model prog w) A env fun e s' => R (.error e) s') s₁) (notedBy (model prog w) A env fun e s' => R (.error e) s') s)
    (n : Nat) (h : I n s) : codeAny (model prog w) A (.compLoop (.ListComp elt [⟨target, iter, ifs, 0⟩] scope pos) 0 it acc env) R s := by
  refine codeAny_loop rfl I (fun n s hI => ?_) n h
  show wpAny _ A ((compTurn (.ListComp elt [⟨target, iter, ifs, 0⟩] scope pos) 0 it acc env).onRaise (fun x => do noteFrame x env; theTreesLotGoes x)) _ _ s
  refine wpAny_noted ?_
  rw [compTurn_list]
  refine wpAny_bind (wpAny_standAt (wpAny_bind (wpAny_mono (turn n s hI) (fun r s₁ h₁ => ?_) fun _ _ h' => h')))
  cases r with
  | none => exact wpAny_pure h₁
  | some v =>
    refine wpAny_bind (wpAny_mono h₁ (fun _ s₁' h₁' => ?_) fun _ _ h' => h')
    refine wpAny_bind (wpAny_mono h₁' (fun _ s₂ h₂ => wpAny_bind (wpAny_mono h₂ (fun ok s₃ h₃ => ?_) fun _ _ h' => h')) fun _ _ h' => h')
    cases ok with
    | false => exact wpAny_pure ⟨rfl, h₃⟩
    | true => exact wpAny_bind (wpAny_bind (wpAny_mono h₃ (fun x s₄ h₄ => wpAny_bind (wpAny_mono h₄ (fun _ s₅ h₅ => wpAny_pure (wpAny_pure ⟨rfl, h₅⟩)) fun _ _ h' => h')) fun _ _ h' => h'))
theorem TgtOk_name {x : Str} {p : Pos} {v : V} : TgtOk C A (.Name x p) [x] v [v] σ := by
  refine ⟨rfl, ?_⟩
  intro ad s u cenv m Q E hr ru hk hkd hn _ _ hQ
  refine wpAny_assign_Name (wpAny_storeName_local (hk x (.head _)) hn (fun h' hn' hs => ?_) (by rw [hkd]; rfl))
  refine hQ h' _ _ [u] (.cons ru .nil) hn' ?_ hs.extBut (Nat.le_of_eq hs.1.symm)
  intro q hq
  simp only [List.zip_cons_cons, List.zip_nil_right, List.mem_singleton] at hq
  subst hq; simp
theorem names_store {cenv : Env} (hkd : cenv.scope.kind = .function) : ∀ (ts : List (Str × Pos)) (us : List Value) (s : Shared) (m : Str → Option Value) (Q : Unit → Shared → Prop) (E : EX), (ts.map (·.1)).Nodup → (∀ x ∈ ts.map (·.1), cenv.kindOf x = some .local) → ts.length = us.length → s.heap.Ns cenv.locals m →
    (∀ h' tk m2, h'.Ns cenv.locals m2 → (∀ p ∈ (ts.map (·.1)).zip us, m2 p.1 = some p.2) → (∀ z, z ∉ ts.map (·.1) → m2 z = m z) → (∀ b o, b ≠ cenv.locals → s.heap.get? b = some o → h'.get? b = some o) → s.heap.objs.size ≤ h'.objs.size → Q () { s with heap := h', toks := tk }) →
    wpAny (model C.prog C.w) A (assignInOrder ((assignEach (ts.map fun t => Expr.Name t.1 t.2) cenv).map (·.2)) us) Q E s := by
  intro ts
  induction ts with
  | nil =>
    intro us s m Q E _ _ hl hn hQ
    have e : us = [] := List.eq_nil_of_length_eq_zero hl.symm
    subst e
    have := hQ s.heap s.toks m hn (by simp) (fun _ _ => rfl) (fun _ _ _ e => e) (Nat.le_refl _)
    exact wpAny_pure this
  | cons t ts ih =>
    intro us s m Q E nd hk hl hn hQ
    obtain ⟨u, us', rfl, hl2⟩ := lenS hl.symm
    have nd' := List.nodup_cons.mp nd
    show wpAny _ A (assignInOrder (assign (.Name t.1 t.2) cenv :: _) (u :: us')) _ E s
    unfold assignInOrder
    refine wpAny_bind (wpAny_holding (wpAny_assign_Name (wpAny_storeName_local (hk t.1 (.head _)) hn (fun h' hn' hs => ?_) (by rw [hkd]; rfl))))
    refine ih us' _ _ Q E nd'.2 (fun x hx => hk x (.tail _ hx)) hl2.symm hn' fun h2 tk m2 q1 q2 q3 q4 q5 => ?_
    refine hQ h2 tk m2 q1 ?_ ?_ (fun b o hb e => q4 b o hb (hs.extBut b o hb e)) (Nat.le_trans (Nat.le_of_eq hs.1.symm) q5)
    · intro p hp
      rw [List.map_cons, List.zip_cons_cons] at hp
      rcases List.mem_cons.mp hp with rfl | hp
      · rw [q3 t.1 nd'.1]; simp
      · exact q2 p hp
    · intro z hz
      rw [List.map_cons, List.mem_cons, not_or] at hz
      rw [q3 z hz.2]; simp [hz.1]
theorem TgtOk_tuple {ts : List (Str × Pos)} {k : Nat} {p : Pos} {v : V} {vs : List V} (hA : A.handled = none) (b : ObjAt C σ v (.tuple vs)) (hnd : (ts.map (·.1)).Nodup) (hl : ts.length = vs.length) (hst : noStar (ts.map fun t => Expr.Name t.1 t.2) = true) : TgtOk C A (.Tuple (ts.map fun t => Expr.Name t.1 t.2) k p) (ts.map (·.1)) v vs σ := by
  refine ⟨by rw [List.length_map]; exact hl, ?_⟩
  intro ad s u cenv m Q E hr ru hk hkd hn hCa hCG hQ
  obtain ⟨a, us, rfl, hl', rvs⟩ := b.tup hr ru
  rw [arm_assign_Tuple]
  refine wpAny_bind (wpAny_standAt ?_)
  unfold unpack
  have e : (assignEach (ts.map fun t => Expr.Name t.1 t.2) cenv).length = us.size := by rw [noStar_len cenv hst, List.length_map, hl, ← Array.length_toList, ← rvs.length]
  rw [e, noStar_idx cenv hst]
  refine wpAny_bind (wpAny_holding (wpAny_sz (wpAny_unpackItems_tuple hA hl' fun h' he hz => ?_)))
  have hk1 : ∀ b o, s.heap.get? b = some o → h'.get? b = some o := fun b o e => he b o (Nat.ne_of_lt (Heap.lt_size e)) e
  refine names_store hkd ts us.toList _ m Q E hnd hk (by rw [Array.length_toList, ← Array.length_toList, ← rvs.length]; exact hl) (hn.at' fun o e => hk1 _ o e) fun h2 tk m2 q1 q2 q3 q4 q5 => ?_
  exact hQ h2 tk m2 us.toList rvs q1 q2 (fun b o hb e => q4 b o hb (hk1 b o e)) (Nat.le_trans hz q5)
/-- the env within a comprehension -/
theorem comp_erG {l l2 : List (Str × Value)} {onames : List (Str × NameKind)} {sc : Scope} {xs : List Str} {capt : Loc} {ad : List Addr} {h : Heap} {Cl : Addr} {m : Str → Option Value} {vs : List V} {us : List Value} (hkn : Kn env onames)
    (ok : CompOkG onames sc xs (capt.map (·.1)) (l2.map (·.1))) (hkind : sc.kind = .function) (hnd : (capt.map (·.1)).Nodup) (hcap : ∀ p ∈ capt, p ∈ ρ) (er : ER (C.wg l) env ρ ad h)
    (hn : h.Ns Cl m) (hu : ∀ p ∈ xs.zip us, m p.1 = some p.2) (rv : RVs ad vs us) (hlen : xs.length = vs.length) (hG : C.G.get? Cl = none) (had : Cl ∉ ad) (hCl : Cl ∉ fa env) (hlt : Cl < h.objs.size) :
    ER (C.wg l2) (compEnvC sc (clOf env sc.names []) Cl env) (xs.zip (vs.map some) ++ capt) ad h ∧ Kn (compEnvC sc (clOf env sc.names []) Cl env) (relab sc.names) := by
  have hcell : ∀ n, (n, NameKind.free) ∈ sc.names → env.kindOf n = some .cell := fun n hn => hkn n _ (ok.free n hn).2
  have hsome : ∀ n, (n, NameKind.free) ∈ sc.names → (env.cells.lookup n).isSome = true := by
    intro n hn
    obtain ⟨p, hp, rfl⟩ := List.mem_map.mp (ok.free n hn).1
    rcases er.kd p.1 p.2 (hcap p hp) with e | ⟨_, e⟩
    · rw [hcell _ hn] at e; cases e
    · exact e
  have hmem := clOf_mem (env := env) (ns := sc.names) (cs := []) hsome (by simp)
  have hlk : ∀ y c, (clOf env sc.names []).lookup y = some c → env.cells.lookup y = some c := fun y c e => hmem (y, c) (mem_of_lookup e)
  have relabE : (relabel sc env).names = relab sc.names := by
    show List.map _ _ = List.map _ _
    refine List.map_congr_left fun p hp => ?_
    obtain ⟨n, k⟩ := p
    by_cases hk : (k == NameKind.free) = true
    · have hk' : k = .free := by simpa using hk
      subst hk'
      simp [hcell n hp, er.kind]
    · simp [hk]
  have kn : Kn (compEnvC sc (clOf env sc.names []) Cl env) (relab sc.names) := by
    intro y k e
    show (relabel sc env).names.lookup y = _
    rw [relabE]; exact e
  have kf : ∀ y ∈ capt.map (·.1), (compEnvC sc (clOf env sc.names []) Cl env).kindOf y = some .cell := fun y hy => kn y _ (relab_lookup (ok.cap y hy).2)
  have zn : (xs.zip (vs.map some)).map (·.1) = xs := zip_names (by rw [List.length_map]; exact hlen)
  have zm : ∀ y w, (y, w) ∈ xs.zip (vs.map some) → y ∈ xs := fun y w hy => by rw [← zn]; exact List.mem_map.mpr ⟨_, hy, rfl⟩
  refine ⟨⟨hkind, er.glob, er.blt, ?_, ?_, ⟨m, hn, ?_⟩, ?_, ?_, ?_, ?_, ?_, ?_, ?_⟩, kn⟩
  · rw [List.map_append, zn]
    refine List.nodup_append.mpr ⟨ok.xd, hnd, ?_⟩
    intro a ha b hb e
    subst e
    exact ok.xc a ha hb
  · intro y w hy
    rcases List.mem_append.mp hy with hy | hy
    · exact .inl (kn y _ (relab_lookup (ok.xl y (zm y w hy))))
    · have hy' : y ∈ capt.map (·.1) := List.mem_map.mpr ⟨_, hy, rfl⟩
      exact .inr ⟨.inl (kf y hy'), clOf_some (.inl (mem_of_lookup (ok.cap y hy').2))⟩
  · intro y w hy hk
    rcases List.mem_append.mp hy with hy | hy
    · obtain ⟨u, h1, h2⟩ := zip_mem rv hy
      exact ⟨u, hu _ h1, h2⟩
    · rw [kf y (List.mem_map.mpr ⟨_, hy, rfl⟩)] at hk; cases hk
  · intro y c hc
    obtain ⟨o, w, h1, h2, h3⟩ := er.cell y c (hlk y c hc)
    refine ⟨o, w, h1, h2, fun z hz hk => ?_⟩
    rcases List.mem_append.mp hz with hz | hz
    · exact absurd (kn y _ (relab_lookup (ok.xl y (zm y _ hz)))) hk
    · refine h3 z (hcap _ hz) ?_
      have := hcell y (mem_of_lookup (ok.cap y (List.mem_map.mpr ⟨_, hz, rfl⟩)).2)
      rw [this]; decide
  · intro y z c h1 h2
    exact er.cinj y z c (hlk _ _ h1) (hlk _ _ h2)
  · intro y c hc e
    refine hCl ?_
    rw [← show c = Cl from e]
    exact mem_cells (hlk y c hc)
  · intro a ha
    rcases List.mem_cons.mp ha with e | ha
    · subst e; exact ⟨hG, had⟩
    · obtain ⟨p, hp, rfl⟩ := List.mem_map.mp ha
      exact er.off _ (mem_cells (hmem p hp))
  · intro a ha
    rcases List.mem_cons.mp ha with e | ha
    · subst e; exact hlt
    · obtain ⟨p, hp, rfl⟩ := List.mem_map.mp ha
      exact er.lt _ (mem_cells (hmem p hp))
  · intro y w hy
    rcases List.mem_append.mp hy with hy | hy
    · exact ok.xn y (zm y w hy)
    · exact (ok.cap y (List.mem_map.mpr ⟨_, hy, rfl⟩)).1
  · intro y w hy
    have := ok.glo y (List.mem_map.mpr ⟨_, hy, rfl⟩)
    exact ⟨kn y _ (relab_lookup this.2), this.1⟩
theorem comp_coreG {l l2 : List (Str × Value)} {onames : List (Str × NameKind)} {sc : Scope} {xs : List Str} {target : Expr} {elt iter : Expr} {ifs : List Expr} {pos : Pos} {capt : Loc} {ad : List Addr} {s2 : Shared} {I : Addr} {n : Nat} {P : Nat → V} {Cd : AH → Prop}
    {St : Nat → Heap → Prop} {RR : Value → Addr → Result → Shared → Prop} {Inv : Nat → List V → AH → Prop} {vls : Nat → List V}
    (hkn : Kn env onames) (ok : CompOkG onames sc xs (capt.map (·.1)) (l2.map (·.1))) (hkind : sc.kind = .function) (hnd : (capt.map (·.1)).Nodup) (hcap : ∀ p ∈ capt, p ∈ ρ) (hl2 : ∀ p ∈ l2, p ∈ l ∨ GloIs C p)
    (hr : HR (C.wg l) ad σ s2.heap) (er : ER (C.wg l) env ρ ad s2.heap) (wk : Wk (C.wg l) A ad I n P Cd St) (st0 : St 0 s2.heap) (hI : I ∉ ad) (hIfa : I ∉ fa env) (hIG : C.G.get? I = none) (hsz : n ≤ sizeLine) (inv0 : Inv 0 [] σ)
    (turn : ∀ i acc σ', i < n → Inv i acc σ' → Cd σ' ∧ TgtOk (C.wg l) A target xs (P i) (vls i) σ' ∧ ∀ cenv, Kn cenv (relab sc.names) → WIf (C.wg l2) A cenv true ifs (xs.zip ((vls i).map some) ++ capt) σ'
      (fun b σ2 => if b = true then WE (C.wg l2) A cenv elt (xs.zip ((vls i).map some) ++ capt) σ2 (fun v σ3 => Inv (i + 1) (acc ++ [v]) σ3) (fun _ _ => False) else Inv (i + 1) acc σ2) (fun _ _ => False))
    (hcd : ∀ acc σ', Inv n acc σ' → Cd σ')
    (hRR : ∀ D Cl ad' σ' vs s' m, s'.heap.Ns Cl m → s2.heap.objs.size ≤ Cl → Cl ∉ ad' → Nx (C.wg l) [I] ad s2 ad' (σ' ++ [.list vs]) s' → RV ad' (.ref σ'.length) (.ref D) → Inv n vs σ' → RR (.ref D) Cl (.ok .next) s') :
    wpAny (model C.prog C.w) A (newList []) (fun acc s3 => wpAny (model C.prog C.w) A (newFunctionEnv sc env.globals (clOf env sc.names []) [] env.qual none .none (some env)) (fun cenv s4 =>
      codeAny (model C.prog C.w) A (.compStart (.ListComp elt [⟨target, iter, ifs, 0⟩] sc pos) 0 (.ref I) acc { cenv with scope := relabel sc env }) (RR acc cenv.locals) s4) E s3) E s2 := by
  refine wpAny_newObj_type (wpAny_newFunctionEnv ok.nocell (by intro y hy; simp at hy) (fun h1 hns1 hsb1 => ?_) hkind)
  dsimp only at hns1 hsb1 ⊢
  generalize hH2 : s2.heap.push { cls := .type "list", dict := none, data := .seq ([] : List Value).toArray } = H2 at hns1 hsb1 ⊢
  have hC : H2.objs.size = s2.heap.objs.size + 1 := by rw [← hH2, Heap.size_push]
  have hDC : s2.heap.objs.size ≠ H2.objs.size := by omega
  have old : ∀ b o, s2.heap.get? b = some o → h1.get? b = some o := fun b o e => hsb1.extBut b o (adr_ne (.inl (by have := nlt (Heap.lt_size e); omega))) (Heap.get?_push_of_some _ (hH2 ▸ Heap.get?_push_of_some _ e))
  have hacc : h1.PlainList s2.heap.objs.size #[] := ⟨_, hsb1.extBut _ _ hDC (Heap.get?_push_of_some _ (hH2 ▸ Heap.get?_push_size _ rfl))⟩
  have hz1 : s2.heap.objs.size + 2 ≤ h1.objs.size := by
    have := hsb1.1
    rw [Heap.size_push] at this
    omega
  obtain ⟨oI, hoI⟩ := wk.ex _ _ st0
  have hIlt := nlt (Heap.lt_size hoI)
  have fD := hr.fresh (Nat.le_refl s2.heap.objs.size)
  have fC := hr.fresh (a := H2.objs.size) (by omega)
  have hClfa : H2.objs.size ∉ fa env := fun hm => absurd (er.lt _ hm) (Nat.not_lt.mpr (by omega))
  have st1 : St 0 h1 := wk.own _ _ _ st0 ((old I oI hoI).trans hoI.symm)
  have n1 : ∀ t, Nx (C.wg l) [I] ad s2 ad σ { s2 with heap := h1, toks := t } := fun t => ⟨⟨h1, t, rfl⟩, ⟨[], by simp, by simp⟩, by show s2.heap.objs.size ≤ h1.objs.size; omega, fun b o e _ _ => old b o e, hr.keeps old⟩
  have loop : ∀ s3 : Shared, s3 = { s2 with heap := h1, toks := s2.toks + ([] : List (Str × Value)).length } →
      codeAny (model C.prog C.w) A (.compLoop (.ListComp elt [⟨target, iter, ifs, 0⟩] sc pos) 0 (.ref I) (.ref s2.heap.objs.size) (compEnvC sc (clOf env sc.names []) H2.objs.size env)) (RR (.ref s2.heap.objs.size) H2.objs.size) s3 := by
    rintro s3 rfl
    refine compLoopG (fun k s' => ∃ i ad' σ' accV accU m', k = n - i ∧ i ≤ n ∧ Nx (C.wg l) [I] ad s2 ad' σ' s' ∧ s2.heap.objs.size ∉ ad' ∧ H2.objs.size ∉ ad' ∧ I ∉ ad' ∧ s'.heap.Ns H2.objs.size m' ∧ s'.heap.PlainList s2.heap.objs.size accU ∧
      RVs ad' accV accU.toList ∧ St i s'.heap ∧ Inv i accV σ' ∧ accV.length ≤ i) ?_ n ⟨0, ad, σ, [], #[], _, rfl, Nat.zero_le _, n1 _, fD.2, fC.2, hI, hns1, hacc, .nil, st1, inv0, Nat.le_refl _⟩
    rintro k s' ⟨i, ad', σ', accV, accU, m', rfl, hi, n3, hD', hC', hI', hns', hpl', rvs', st', inv', hlen'⟩
    have neI : ∀ b o, C.G.get? b = some o ∨ b ∈ ad' → b ≠ I := by
      rintro b o (e | e) rfl
      · rw [hIG] at e; cases e
      · exact hI' e
    have neC : ∀ b o, C.G.get? b = some o ∨ b ∈ ad' → b ≠ H2.objs.size := by
      rintro b o (e | e) rfl
      · rw [fC.1] at e; cases e
      · exact hC' e
    have neD : ∀ b o, C.G.get? b = some o ∨ b ∈ ad' → b ≠ s2.heap.objs.size := by
      rintro b o (e | e) rfl
      · rw [fD.1] at e; cases e
      · exact hD' e
    by_cases hlt : i < n
    · obtain ⟨cd, tg, tb⟩ := turn i accV σ' hlt inv'
      refine wk.item i ad' σ' s' _ _ hlt (let ⟨nw, p, _⟩ := n3.pre; ⟨nw, p⟩) n3.hr cd st' fun u h' tk ru st'' hsb => ?_
      refine wk.tup (i + 1) { s' with heap := h', toks := tk } _ _ _ _ st'' ?_
      have hrI : HR (C.wg l) ad' σ' h' := n3.hr.same fun b o hb e => hsb.extBut b o (neI b o hb) e
      refine tg.run ad' { s' with heap := h', toks := tk } u (compEnvC sc (clOf env sc.names []) H2.objs.size env) m' _ _ hrI ru (fun x hx => lookup_relabel_local (ok.xl x hx)) (show sc.kind = _ from hkind) (hns'.at' fun o e => hsb.extBut _ o (adr_ne (.inr (by omega))) e) hC' fC.1 fun h2 tk2 m2 us rus hn2 hm2 hs2 hsz2 => ?_
      have k2 : ∀ b o, b ≠ I → b ≠ H2.objs.size → s'.heap.get? b = some o → h2.get? b = some o := fun b o h1 h2 e => hs2 b o h2 (hsb.extBut b o h1 e)
      have hr4 : HR (C.wg l) ad' σ' h2 := n3.hr.same fun b o hb e => k2 b o (neI b o hb) (neC b o hb) e
      have hz4 : s'.heap.objs.size ≤ h2.objs.size := by
        have a1 := hsb.1
        have a2 : h'.objs.size ≤ h2.objs.size := hsz2
        omega
      have hz5 : H2.objs.size < h2.objs.size := Nat.lt_of_lt_of_le hns'.lt hz4
      have er4 : ER (C.wg l) env ρ ad' h2 := er.keep n3.pre (fun b hb o e => k2 b o (fun e' => hIfa (e' ▸ hb)) (fun e' => hClfa (e' ▸ hb)) (n3.same b o e (er.off b hb).2 (by simp; rintro rfl; exact hIfa hb))) (by have := n3.size; omega)
      obtain ⟨erc, kn⟩ := comp_erG (l2 := l2) hkn ok hkind hnd hcap er4 hn2 hm2 rus tg.len fC.1 hC' hClfa hz5
      have st4 : St (i + 1) h2 := wk.own _ _ _ st'' (by
        obtain ⟨oI', hoI'⟩ := wk.ex _ _ st''
        rw [hoI']; exact hs2 _ _ (adr_ne (b := H2.objs.size) (.inl (by omega))) hoI')
      have hpl4 : h2.PlainList s2.heap.objs.size accU := by
        obtain ⟨c, hc⟩ := hpl'
        exact ⟨c, k2 _ _ (adr_ne (.inr (by omega))) hDC hc⟩
      refine wpAny_mono ((tb _ kn).run ad' _ (hr4.toWg hl2) erc) ?_ fun _ _ f => f.elim
      rintro b s5 ⟨ad5, σ5, n5, h5⟩
      have n35 := fun t => (n3.touch (tk := t) hr4 (by omega) (fun b o h1 h2 e => k2 b o h1 (adr_ne (.inl (by have h2' := nlt h2; omega))) e))
      have done5 : ∀ (adN : List Addr) (σN : AH) (sN : Shared) t, Nx (C.wg l2) [] ad' { s' with heap := h2, toks := t } adN σN sN →
          Nx (C.wg l) [I] ad s2 adN σN sN ∧ s2.heap.objs.size ∉ adN ∧ H2.objs.size ∉ adN ∧ I ∉ adN ∧ sN.heap.Ns H2.objs.size m2 ∧ sN.heap.PlainList s2.heap.objs.size accU ∧ St (i + 1) sN.heap ∧ ∃ nw, adN = ad' ++ nw := by
        intro adN σN sN t nN
        have nN' := nN.toWg hr.ok
        obtain ⟨nw, p, q⟩ := nN.pre
        have notin : ∀ a, a ∉ ad' → a < h2.objs.size → a ∉ adN := by
          intro a h1 h2 hm
          rw [p] at hm
          rcases List.mem_append.mp hm with hm | hm
          · exact h1 hm
          · exact absurd (q a hm) (Nat.not_le.mpr h2)
        have hs3 := n3.size
        have hz3 : H2.objs.size < h2.objs.size := hz5
        refine ⟨(n35 t).trans (nN'.wider (by simp)), notin _ hD' (Nat.lt_trans (show s2.heap.objs.size < H2.objs.size by omega) hz3), notin _ hC' hz3, notin _ hI' (Nat.lt_trans (Nat.lt_trans hIlt (show s2.heap.objs.size < H2.objs.size by omega)) hz3), hn2.at' fun o e => nN.same _ o e hC' (by simp), ?_, ?_, nw, p⟩
        · obtain ⟨c, hc⟩ := hpl4
          exact ⟨c, nN.same _ _ hc hD' (by simp)⟩
        · obtain ⟨oI', hoI'⟩ := wk.ex _ _ st4
          exact wk.own _ _ _ st4 ((nN.same _ _ hoI' hI' (by simp)).trans hoI'.symm)
      cases b with
      | false =>
        obtain ⟨a1, a2, a3, a4, a5, a6, a7, nw, a8⟩ := done5 ad5 σ5 s5 _ n5
        exact ⟨n - (i + 1), by omega, i + 1, ad5, σ5, accV, accU, _, rfl, hlt, a1, a2, a3, a4, a5, a6, by rw [a8]; exact rvs'.mono, a7, h5, by omega⟩
      | true =>
        have h5' : WE (C.wg l2) A _ elt (xs.zip ((vls i).map some) ++ capt) σ5 (fun v σ3 => Inv (i + 1) (accV ++ [v]) σ3) (fun _ _ => False) := h5
        refine wpAny_mono (h5'.run ad5 s5 n5.hr (erc.next n5)) ?_ fun _ _ f => f.elim
        rintro y s6 ⟨ad6, σ6, v, n6, r6, inv6⟩
        obtain ⟨a1, a2, a3, a4, a5, a6, a7, nw, a8⟩ := done5 ad6 σ6 s6 _ (n5.trans n6)
        refine wpAny_list_append_plain a6 (fun h' hp hs => ?_) (by rw [← Array.length_toList, ← rvs'.length]; omega)
        have hr7 : HR (C.wg l) ad6 σ6 h' := a1.hr.same fun b o hb e => hs.extBut b o (by
          rintro rfl
          rcases hb with e | e
          · have : C.G.get? s2.heap.objs.size = some o := e
            rw [fD.1] at this; cases this
          · exact a2 e) e
        refine ⟨n - (i + 1), by omega, i + 1, ad6, σ6, accV ++ [v], accU.push y, _, rfl, hlt, a1.touch hr7 (Nat.le_of_eq hs.1.symm) (fun b o h1 h2 e => hs.extBut b o (adr_ne (.inl (nlt h2))) e), a2, a3, a4, a5.at' fun o e => hs.extBut _ o (Ne.symm hDC) e, hp, ?_, ?_, inv6, by simp; omega⟩
        · rw [Array.toList_push, a8]
          exact rvs'.mono.append (.cons (a8 ▸ r6) .nil)
        · obtain ⟨oI', hoI'⟩ := wk.ex _ _ a7
          exact wk.own _ _ _ a7 ((hs.extBut _ _ (adr_ne (.inl (by omega))) hoI').trans hoI'.symm)
    · obtain rfl : i = n := by omega
      refine wpAny_sz (wk.done ad' σ' s' _ _ (let ⟨nw, p, _⟩ := n3.pre; ⟨nw, p⟩) n3.hr (hcd _ _ inv') st' fun h' tk hk hz => ?_)
      obtain ⟨c, hc⟩ := hpl'
      have hc' := hk _ _ (adr_ne (.inr (by omega))) hc
      have hr4 : HR (C.wg l) ad' σ' h' := n3.hr.same fun b o hb e => hk b o (neI b o hb) e
      have n4 := n3.touch (tk := tk) hr4 hz fun b o h1 _ e => hk b o h1 e
      have hr5 := HR.own (o := .list accV) hr4 hc' fD.1 hD' (hr.freshLow (Nat.le_refl _)) ⟨_, c, rfl, rvs'⟩
      have hlen : σ'.length = ad'.length := hr4.len.symm
      obtain ⟨nw, p, q⟩ := n3.pre
      refine hRR _ _ (ad' ++ [s2.heap.objs.size]) σ' accV _ m' (hns'.at' fun o e => hk _ o (adr_ne (.inr (by omega))) e) (show (s2.heap.objs.size : Nat) ≤ H2.objs.size by omega) ?_ ⟨n4.eq, ⟨nw ++ [s2.heap.objs.size], by rw [p, List.append_assoc], ?_⟩, n4.size, n4.same, hr5⟩ (RV.last hlen) inv'
      · intro hm
        rcases List.mem_append.mp hm with hm | hm
        · exact hC' hm
        · simp at hm; omega
      · intro a ha
        rcases List.mem_append.mp ha with ha | ha
        · exact q a ha
        · simp at ha; exact Nat.le_of_eq ha.symm
  exact codeAny_compStart_list (loop _ rfl) (wk.self 0 _ _ _ st1 (loop _ rfl))

theorem comp_closedG {l l2 : List (Str × Value)} {onames : List (Str × NameKind)} {sc : Scope} {xs : List Str} {capt : Loc} {ad : List Addr} {h : Heap} (hkn : Kn env onames) (ok : CompOkG onames sc xs (capt.map (·.1)) (l2.map (·.1))) (hcap : ∀ p ∈ capt, p ∈ ρ) (er : ER (C.wg l) env ρ ad h) :
    closureFor sc env = pure (clOf env sc.names []) := by
  refine closure_of fun n hn => ?_
  obtain ⟨p, hp, rfl⟩ := List.mem_map.mp (ok.free n hn).1
  rcases er.kd p.1 p.2 (hcap p hp) with e | ⟨_, e⟩
  · rw [hkn _ _ (ok.free _ hn).2] at e; cases e
  · exact e
/-- what a comprehension asks -/
def CompGoG (C : Cx) (A : Around) (l l2 : List (Str × Value)) (sc : Scope) (xs : List Str) (target : Expr) (ifs : List Expr) (elt : Expr) (capt : Loc) (K : List V → AH → Prop) (n : Nat) (P : Nat → V) (Cd : AH → Prop) (σ1 : AH) : Prop :=
  n ≤ sizeLine ∧ ∃ (vls : Nat → List V) (Inv : Nat → List V → AH → Prop), Inv 0 [] σ1 ∧ (∀ i acc σ', i < n → Inv i acc σ' → Cd σ' ∧ TgtOk (C.wg l) A target xs (P i) (vls i) σ' ∧ ∀ cenv, Kn cenv (relab sc.names) → WIf (C.wg l2) A cenv true ifs (xs.zip ((vls i).map some) ++ capt) σ'
      (fun b σ2 => if b = true then WE (C.wg l2) A cenv elt (xs.zip ((vls i).map some) ++ capt) σ2 (fun v σ3 => Inv (i + 1) (acc ++ [v]) σ3) (fun _ _ => False) else Inv (i + 1) acc σ2) (fun _ _ => False)) ∧
    ∀ acc σ', Inv n acc σ' → Cd σ' ∧ K acc σ'
theorem WE_ListCompG {l l2 : List (Str × Value)} {onames : List (Str × NameKind)} {sc : Scope} {xs : List Str} {target : Expr} {elt iter : Expr} {ifs : List Expr} {pos : Pos} {capt : Loc}
    (hkn : Kn env onames) (ok : CompOkG onames sc xs (capt.map (·.1)) (l2.map (·.1))) (hnd : (capt.map (·.1)).Nodup) (hcap : ∀ p ∈ capt, p ∈ ρ) (hl2 : ∀ p ∈ l2, p ∈ l ∨ GloIs C p)
    (h : WItr (C.wg l) A env iter ρ σ (CompGoG C A l l2 sc xs target ifs elt capt (fun acc σ' => Q (.ref σ'.length) (σ' ++ [.list acc]))) E)
    (hkind : sc.kind = .function := by rfl) (hs : isSetE iter = false := by rfl) : WE (C.wg l) A env (.ListComp elt [⟨target, iter, ifs, 0⟩] sc pos) ρ σ Q E := by
  refine ⟨?_⟩
  intro ad s hr er
  rw [eval_ListComp]
  refine wpAny_comprehension_free (use := none) rfl (folded_not hs) (comp_closedG hkn ok hcap er) hkind ok.locs (wpAny_mono (h.run ad s hr er) (fun xv s1 h1 => wpAny_mono h1 ?_ fun _ _ e => e) fun _ _ e => e)
  rintro it s2 ⟨ad1, σ1, n, P, Cd, I, St, rfl, wk, st0, hI, hIad, n2, hsz, vls, Inv, inv0, turn, fin⟩
  have er2 := er.next n2
  have hIfa : I ∉ fa env := fun hm => absurd (er.lt I hm) (Nat.not_lt.mpr hI)
  have hIG : C.G.get? I = none := (hr.fresh hI).1
  refine comp_coreG (C := C) (RR := fun acc Cl => compPost (model C.prog C.w) A E none (PE (C.wg l) ad s Q) acc Cl) hkn ok hkind hnd hcap hl2 n2.hr er2 wk st0 hIad hIfa hIG hsz inv0 (vls := vls) (fun i acc σ' hi hv => turn i acc σ' hi hv) (fun acc σ' hi => (fin acc σ' hi).1) ?_
  intro D Cl ad' σ' vs s' m hn hCl hClad n3 rv inv
  refine ⟨m, hn, fun h' hs' => ?_⟩
  have hClG : C.G.get? Cl = none := (n2.hr.fresh hCl).1
  have hr' : HR (C.wg l) ad' (σ' ++ [.list vs]) h' := n3.hr.same fun b o hb e => hs'.extBut b o (by
    rintro rfl
    rcases hb with e | e
    · have : C.G.get? b = some o := e
      rw [hClG] at this; cases this
    · exact hClad e) e
  have n4 := n3.touch (tk := s'.toks) hr' (Nat.le_of_eq hs'.1.symm) fun b o _ h2 e => hs'.extBut b o (adr_ne (.inl (Nat.lt_of_lt_of_le h2 hCl))) e
  exact ⟨ad', _, _, Nx.drop1 n2 hI n4, rv, (fin vs σ' inv).2⟩
theorem CompOk.toG {onames : List (Str × NameKind)} {sc : Scope} {x : Str} {capt gl : List Str} (h : CompOk onames sc x capt gl) : CompOkG onames sc [x] capt gl :=
  ⟨h.nocell, h.locs, h.free, (fun y hy => by rw [List.mem_singleton.mp hy]; exact h.xl), (fun y hy => by rw [List.mem_singleton.mp hy]; exact h.xn), (fun y hy => by rw [List.mem_singleton.mp hy]; exact h.xc), by simp, h.cap, h.glo⟩
theorem CompGo.toG {l l2 : List (Str × Value)} {sc : Scope} {x : Str} {px : Pos} {elt : Expr} {ifs : List Expr} {capt : Loc} {K : List V → AH → Prop} {n : Nat} {P : Nat → V} {Cd : AH → Prop} {σ1 : AH} (h : CompGo C A l2 sc x ifs elt capt K n P Cd σ1) : CompGoG C A l l2 sc [x] (.Name x px) ifs elt capt K n P Cd σ1 := by
  obtain ⟨hz, Inv, h0, turn, fin⟩ := h
  refine ⟨hz, fun i => [P i], Inv, h0, fun i acc σ' hi hv => ?_, fin⟩
  obtain ⟨cd, t⟩ := turn i acc σ' (P i) hi rfl hv
  exact ⟨cd, TgtOk_name, t⟩
theorem WItr.conseq {iter : Expr} {K K' : Nat → (Nat → V) → (AH → Prop) → AH → Prop} (h : WItr C A env iter ρ σ K E) (hk : ∀ n P Cd σ1, K n P Cd σ1 → K' n P Cd σ1) : WItr C A env iter ρ σ K' E := by
  refine ⟨fun ad s hr er => wpAny_mono (h.run ad s hr er) (fun x s1 h1 => wpAny_mono h1 ?_ fun _ _ e => e) fun _ _ e => e⟩
  rintro it s2 ⟨ad1, σ1, n, P, Cd, I, St, e, wk, st0, hI, hIad, n2, k⟩
  exact ⟨ad1, σ1, n, P, Cd, I, St, e, wk, st0, hI, hIad, n2, hk _ _ _ _ k⟩
theorem WE_ListComp2g {l l2 : List (Str × Value)} {onames : List (Str × NameKind)} {sc : Scope} {x : Str} {px : Pos} {elt iter : Expr} {ifs : List Expr} {pos : Pos} {capt : Loc}
    (hkn : Kn env onames) (hok : compOk onames sc x (capt.map (·.1)) (l2.map (·.1)) = true) (hnd : (capt.map (·.1)).Nodup) (hcap : ∀ p ∈ capt, p ∈ ρ) (hl2 : ∀ p ∈ l2, p ∈ l ∨ GloIs C p)
    (h : WItr (C.wg l) A env iter ρ σ (CompGo C A l2 sc x ifs elt capt (fun acc σ' => Q (.ref σ'.length) (σ' ++ [.list acc]))) E)
    (hkind : sc.kind = .function := by rfl) (hs : isSetE iter = false := by rfl) : WE (C.wg l) A env (.ListComp elt [⟨.Name x px, iter, ifs, 0⟩] sc pos) ρ σ Q E :=
  WE_ListCompG hkn (compOk.ok hok).toG hnd hcap hl2 (h.conseq fun _ _ _ _ k => k.toG) hkind hs
end
end Mine

-- part Xs1
set_option autoImplicit false
set_option linter.unusedVariables false
namespace Mine
open PySem PySem.W

/- texts: parted and joined -/
def Free (c : Nat) (a : Str) : Prop := c ∉ a.cps.toList
theorem cut_uniq {c : Nat} : ∀ {a b X Y : List Nat}, c ∉ a → c ∉ b → a ++ c :: X = b ++ c :: Y → a = b ∧ X = Y
  | [], [], X, Y, _, _, e => by simpa using e
  | [], y :: b, X, Y, _, hb, e => by
    simp only [List.nil_append, List.cons_append, List.cons.injEq] at e
    exact absurd (e.1 ▸ List.mem_cons_self) hb
  | x :: a, [], X, Y, ha, _, e => by
    simp only [List.nil_append, List.cons_append, List.cons.injEq] at e
    exact absurd (e.1 ▸ List.mem_cons_self) ha
  | x :: a, y :: b, X, Y, ha, hb, e => by
    simp only [List.cons_append, List.cons.injEq] at e
    have := cut_uniq (fun h => ha (List.mem_cons_of_mem _ h)) (fun h => hb (List.mem_cons_of_mem _ h)) e.2
    exact ⟨by rw [e.1, this.1], this.2⟩
theorem join_two (c : Nat) (a b : Str) (r : List Str) : (Str.join ⟨#[c]⟩ (a :: b :: r)).cps.toList = a.cps.toList ++ c :: (Str.join ⟨#[c]⟩ (b :: r)).cps.toList := by
  show (a ++ ⟨#[c]⟩ ++ Str.join ⟨#[c]⟩ (b :: r)).cps.toList = _
  simp [Str.cps_append]
theorem str_ext {a b : Str} (h : a.cps.toList = b.cps.toList) : a = b := Str.ext' (Array.toList_inj.mp h)
theorem join_uniq {c : Nat} : ∀ {l1 l2 : List Str}, l1 ≠ [] → l2 ≠ [] → (∀ a ∈ l1, Free c a) → (∀ a ∈ l2, Free c a) → Str.join ⟨#[c]⟩ l1 = Str.join ⟨#[c]⟩ l2 → l1 = l2
  | [], _, h, _, _, _, _ => absurd rfl h
  | _ :: _, [], _, h, _, _, _ => absurd rfl h
  | [a], [b], _, _, _, _, e => by rw [show a = b from e]
  | [a], b :: b2 :: r, _, _, h1, _, e => by
    have e' : a = Str.join ⟨#[c]⟩ (b :: b2 :: r) := e
    refine absurd ?_ (h1 a (.head _))
    show c ∈ a.cps.toList
    rw [e', join_two]; simp
  | a :: a2 :: r, [b], _, _, _, h2, e => by
    have e' : Str.join ⟨#[c]⟩ (a :: a2 :: r) = b := e
    refine absurd ?_ (h2 b (.head _))
    show c ∈ b.cps.toList
    rw [← e', join_two]; simp
  | a :: a2 :: r, b :: b2 :: r', _, _, h1, h2, e => by
    have e' := congrArg (fun s : Str => s.cps.toList) e
    simp only [join_two] at e'
    obtain ⟨h3, h4⟩ := cut_uniq (h1 a (.head _)) (h2 b (.head _)) e'
    rw [str_ext h3, join_uniq (by simp) (by simp) (fun x hx => h1 x (.tail _ hx)) (fun x hx => h2 x (.tail _ hx)) (str_ext h4)]
theorem split_join {c : Nat} {ls : List Str} (hne : ls ≠ []) (hpos : 0 < (Str.join ⟨#[c]⟩ ls).length) (hf : ∀ a ∈ ls, Free c a) : Txt.split (Txt.join ⟨#[c]⟩ ls) ⟨#[c]⟩ = ls := by
  have ej : Txt.join ⟨#[c]⟩ ls = Str.join ⟨#[c]⟩ ls := StrLaws.glued_eq_join _ _
  rw [ej]
  refine join_uniq ?_ hne (fun a ha => StrLaws.split_free _ c a ha) hf (StrLaws.join_split _ _)
  intro h0
  have := StrLaws.join_split (Str.join ⟨#[c]⟩ ls) ⟨#[c]⟩
  rw [h0] at this
  rw [← this] at hpos
  exact absurd hpos (by simp [Str.join, Str.empty, Str.length])
/- words -/
def Plain (a : Str) : Prop := a.length ≠ 0 ∧ a.cps.toList.all (fun c => !Unicode.isSpace c) = true
theorem sp32 : Unicode.isSpace 32 = true := by decide +kernel
theorem scan_words : ∀ {ws : List Str} {a : Str} {pre : List Str}, ws ≠ [] → (∀ w ∈ ws, Plain w) → KWd.scan a = (pre, Str.empty) → ∃ r z, ws = r ++ [z] ∧ KWd.scan (a ++ Str.join ⟨#[32]⟩ ws) = (pre ++ r, z)
  | [], _, _, h, _, _ => absurd rfl h
  | [w], a, pre, _, h, e => ⟨[], w, rfl, by
    have := KWk.scan_plain e (h w (.head _)).2
    rw [Str.empty_append] at this
    simpa [Str.join] using this⟩
  | w :: w2 :: r, a, pre, _, h, e => by
    have h1 := KWk.scan_plain e (h w (.head _)).2
    rw [Str.empty_append] at h1
    have h2 := KWd.scan_blank h1 sp32 (h w (.head _)).1
    obtain ⟨r', z, e1, e2⟩ := scan_words (ws := w2 :: r) (by simp) (fun x hx => h x (.tail _ hx)) h2
    refine ⟨w :: r', z, by rw [e1]; rfl, ?_⟩
    show KWd.scan (a ++ (w ++ ⟨#[32]⟩ ++ Str.join ⟨#[32]⟩ (w2 :: r))) = _
    rw [← Str.append_assoc, ← Str.append_assoc, e2]
    simp
theorem words_join {ws : List Str} (hne : ws ≠ []) (h : ∀ w ∈ ws, Plain w) : Txt.words (Txt.join ⟨#[32]⟩ ws) = ws := by
  have ej : Txt.join ⟨#[32]⟩ ws = Str.join ⟨#[32]⟩ ws := StrLaws.glued_eq_join _ _
  rw [ej]
  obtain ⟨r, z, e1, e2⟩ := scan_words hne h KWd.scan_empty
  rw [Str.empty_append] at e2
  rw [KWd.words_of e2, if_neg (h z (by rw [e1]; simp)).1, e1]; simp
theorem strip_pos {x : Str} {c : Nat} {l : List Nat} (hx : x.cps.toList = c :: l) (hc : Unicode.isSpace c = false) : Txt.strip x ≠ Str.empty := by
  have hlen : 0 < x.length := by
    have : x.cps.toList.length = x.length := by simp [Str.length]
    rw [hx] at this; simp at this; omega
  have h0 : x.cps.getD 0 0 = c := by
    have := PyProof.Rows.getD_list x 0
    rw [hx] at this; exact this.symm
  obtain ⟨a1, a2, a3⟩ := PyProof.Rows.lo_facts Unicode.isSpace x
  have lo : stripLo Unicode.isSpace true x = 0 := by
    rcases Nat.eq_zero_or_pos (stripLo Unicode.isSpace true x) with h | h
    · exact h
    · have := a2 0 h; rw [h0, hc] at this; cases this
  obtain ⟨b1, b2, b3, b4⟩ := PyProof.Rows.hi_facts Unicode.isSpace x 0 (Nat.zero_le _)
  have hi : 0 < stripHi Unicode.isSpace true x 0 := by
    rcases Nat.eq_zero_or_pos (stripHi Unicode.isSpace true x 0) with h | h
    · have := b3 0 (by omega) hlen; rw [h0, hc] at this; cases this
    · exact h
  intro e
  unfold Txt.strip at e
  rw [PyProof.Rows.stripBy_eq, lo] at e
  have := congrArg Str.length e
  rw [KWd.sub_len' x b2] at this
  have h9 : Str.length Str.empty = 0 := rfl
  omega
/- numbers as texts -/
abbrev nm (n : Int) : Str := Str.ofString (toString n)
theorem nm_signs {n : Int} (h0 : 0 ≤ n) : ∀ c ∈ (nm n).cps.toList, 48 ≤ c ∧ c ≤ 57 := by
  obtain ⟨m, rfl⟩ := Int.eq_ofNat_of_zero_le h0
  intro c hc
  rw [KIN.signs_num] at hc
  obtain ⟨ch, hch, e⟩ := List.mem_map.mp hc
  have r := PyProof.Rows.digit_range (Nat.isDigit_of_mem_toDigits (by decide) (by decide) hch)
  rw [← e]
  exact r
theorem nm_len {n : Int} (h0 : 0 ≤ n) (h1 : n < 1000) : 0 < (nm n).length ∧ (nm n).length ≤ 3 := by
  obtain ⟨m, rfl⟩ := Int.eq_ofNat_of_zero_le h0
  have : ∀ m, m < 1000 → 0 < (nm ((m : Nat) : Int)).length ∧ (nm ((m : Nat) : Int)).length ≤ 3 := by decide +kernel
  exact this m (by omega)
theorem nm_plain {n : Int} (h0 : 0 ≤ n) (h1 : n < 1000) : Plain (nm n) := by
  refine ⟨by have := (nm_len h0 h1).1; omega, ?_⟩
  rw [List.all_eq_true]
  intro c hc
  have := nm_signs h0 c hc
  rw [KWk.nosp (by omega) (by omega)]; rfl
theorem nm_free {n : Int} (h0 : 0 ≤ n) : Free 10 (nm n) := fun h => by have := nm_signs h0 _ h; omega
theorem join_mem {c : Nat} : ∀ {ws : List Str} {x : Nat}, x ∈ (Str.join ⟨#[c]⟩ ws).cps.toList → x = c ∨ ∃ w ∈ ws, x ∈ w.cps.toList
  | [], x, h => by simp [Str.join, Str.empty] at h
  | [w], x, h => .inr ⟨w, .head _, h⟩
  | w :: w2 :: r, x, h => by
    rw [join_two] at h
    rcases List.mem_append.mp h with h | h
    · exact .inr ⟨w, .head _, h⟩
    · rcases List.mem_cons.mp h with h | h
      · exact .inl h
      · rcases join_mem h with h | ⟨w', h1, h2⟩
        · exact .inl h
        · exact .inr ⟨w', .tail _ h1, h2⟩
theorem join_head {c : Nat} {w : Str} {r : List Str} : ∃ l, (Str.join ⟨#[c]⟩ (w :: r)).cps.toList = w.cps.toList ++ l := by
  cases r with
  | nil => exact ⟨[], by simp [Str.join]⟩
  | cons b r => exact ⟨_, join_two c w b r⟩
/-- a line of numbers -/
def lineOf (r : List Int) : Str := Txt.join ⟨#[32]⟩ (r.map nm)
theorem lineOf_eq (r : List Int) : lineOf r = Str.join ⟨#[32]⟩ (r.map nm) := StrLaws.glued_eq_join _ _
def Small (r : List Int) : Prop := r ≠ [] ∧ ∀ x ∈ r, 0 ≤ x ∧ x < 1000
theorem lineOf_words {r : List Int} (h : Small r) : Txt.words (lineOf r) = r.map nm :=
  words_join (by simp [h.1]) fun w hw => by obtain ⟨x, hx, rfl⟩ := List.mem_map.mp hw; exact nm_plain (h.2 x hx).1 (h.2 x hx).2
theorem lineOf_free {r : List Int} (h : Small r) : Free 10 (lineOf r) := by
  intro hm
  rw [lineOf_eq] at hm
  rcases join_mem hm with e | ⟨w, hw, hx⟩
  · cases e
  · obtain ⟨x, hx', rfl⟩ := List.mem_map.mp hw
    exact nm_free (h.2 x hx').1 hx
theorem lineOf_first {r : List Int} (h : Small r) : ∃ c l, (lineOf r).cps.toList = c :: l ∧ 48 ≤ c ∧ c ≤ 57 := by
  obtain ⟨hne, hs⟩ := h
  cases r with
  | nil => exact absurd rfl hne
  | cons x r =>
    have hx := hs x (.head _)
    rw [lineOf_eq]
    obtain ⟨l, e⟩ := join_head (c := 32) (w := nm x) (r := r.map nm)
    rw [show (x :: r).map nm = nm x :: r.map nm from rfl, e]
    have hl := (nm_len hx.1 hx.2).1
    have hlen : (nm x).cps.toList.length = (nm x).length := by simp [Str.length]
    cases hc : (nm x).cps.toList with
    | nil => rw [hc] at hlen; simp at hlen; omega
    | cons c t =>
      have := nm_signs hx.1 c (by rw [hc]; exact List.mem_cons_self)
      exact ⟨c, t ++ l, rfl, this.1, this.2⟩
theorem lineOf_strip {r : List Int} (h : Small r) : Txt.strip (lineOf r) ≠ Str.empty := by
  obtain ⟨c, l, e, h1, h2⟩ := lineOf_first h
  exact strip_pos e (KWk.nosp (by omega) (by omega))
theorem lineOf_len {r : List Int} (h : Small r) : (lineOf r).length ≤ 4 * r.length := by
  rw [lineOf_eq]
  refine Nat.le_trans (StrLaws.join_length_le _ _) ?_
  have h1 := StrLaws.sumLen_le (B := 3) (r.map nm) fun y hy => by obtain ⟨x, hx, rfl⟩ := List.mem_map.mp hy; exact (nm_len (h.2 x hx).1 (h.2 x hx).2).2
  have h2 : (⟨#[32]⟩ : Str).length = 1 := rfl
  rw [h2]
  simp only [List.length_map] at h1 ⊢
  omega
theorem lines_split {rs : List (List Int)} (hne : rs ≠ []) (h : ∀ r ∈ rs, Small r) : Txt.split (Txt.join ⟨#[10]⟩ (rs.map lineOf)) ⟨#[10]⟩ = rs.map lineOf := by
  refine split_join (by simp [hne]) ?_ fun a ha => by obtain ⟨r, hr, rfl⟩ := List.mem_map.mp ha; exact lineOf_free (h r hr)
  cases rs with
  | nil => exact absurd rfl hne
  | cons r rs =>
    obtain ⟨l, e⟩ := join_head (c := 10) (w := lineOf r) (r := rs.map lineOf)
    obtain ⟨c, t, e2, _, _⟩ := lineOf_first (h r (.head _))
    have : (Str.join ⟨#[10]⟩ (lineOf r :: rs.map lineOf)).cps.toList.length = (Str.join ⟨#[10]⟩ (lineOf r :: rs.map lineOf)).length := by simp [Str.length]
    rw [e, e2] at this
    simp at this
    show 0 < (Str.join ⟨#[10]⟩ (lineOf r :: rs.map lineOf)).length
    omega
end Mine

-- part Xs0
set_option autoImplicit false
set_option linter.unusedVariables false
namespace Mine
open PySem PySem.W PyProof.Rows

section
variable {C : Cx} {A : Around} {env : Env} {ρ : Loc} {σ : AH} {E : EX}
theorem RS_return {e : Expr} {pos : Pos} {mk : Bool} {PC : Addr} {X : Loc → AH → Prop} (h : RE C A env e ρ σ PC (fun σ' => X ρ σ')) : RS C A env (.Return (some e) pos) ρ σ mk PC X := by
  refine ⟨?_⟩
  intro ad s outer fx hr er
  refine wpAny_Return_some (wpAny_mono (h.run ad s outer fx hr er) (fun _ _ z => z.elim) ?_)
  rintro e s1 ⟨ad1, σ1, x1, rfl, hX, f⟩
  exact RS.ofE fx er hX f
/-- a try whose handler names a class of the program -/
theorem WS_try_raiseK {C : Cx} {l : List (Str × Value)} {K : Frag} {body suite : List Stmt} {b₀ : Stmt} {x : Str} {np hpos pos : Pos} {hv : Value} {PC : Addr} {hs : List ExceptHandler} {Q : Fl → Loc → AH → Prop} (X0 : K.In C.G) (hx : (x, hv) ∈ l) (hm : exmOne K (.ref PC) hv = some true)
    (hst : A.frames = some [env]) (hfr : env.frame = some env.locals)
    (h : RSs (C.wg l) A env body ρ σ false PC (fun ρ' σ' => ∀ e, WSs (C.wg l) (A.mark (some (.ref e))) env (b₀ :: suite) ρ' σ' Q EF)) :
    WS (C.wg l) A env (.Try body (.ExceptHandler (some (.Name x np)) none (b₀ :: suite) hpos :: hs) [] [] pos) ρ σ Q E := by
  refine ⟨?_⟩
  intro ad s hr er
  have fx : Fx (C.wg l) A env [] ad s.heap := ⟨hst, hfr, (fun _ h => nomatch h), (fun _ h => nomatch h)⟩
  refine wpAny_Try_except (wpAny_mono (h.run ad s [] fx hr er) (fun _ _ z => z.elim) ?_)
  rintro e s1 ⟨ad1, σ1, ρ1, x1, rfl, hX, hc⟩
  rcases hc with ⟨f, er1⟩ | ⟨hf, _⟩
  · obtain ⟨B, a0, g1, g2, g3⟩ := f.fl
    obtain ⟨h1, t1, e1⟩ := f.eq
    obtain ⟨nw, p1, q1⟩ := f.pre
    refine wpAny_sz (wpAny_looks_onW hst hfr g1 fun h₂ w2 u2 z2 => wpAny_sz (wpAny_landsW w2 fun h₃ w3 u3 z3 => ?_))
    dsimp only at z2 z3 u3
    have mkN : ∀ h', B.StaysIn h' → s1.heap.objs.size ≤ h'.objs.size → Nx (C.wg l) (fa env) ad s ad1 σ1 { s1 with heap := h' } := fun h' k z =>
      ⟨⟨h', t1, by rw [e1]⟩, ⟨nw, p1, q1⟩, Nat.le_trans f.size z, fun b o e hb hc => k b o (g3 b o e hb hc fun hm => hc (by
        rw [frs_cons hfr] at hm
        rcases hm with rfl | hm
        · simp [fa]
        · cases hm)), g2.keeps k⟩
    have n3 := mkN h₃ w3.1 (Nat.le_trans z2 z3)
    have er3 : ER (C.wg l) env ρ1 ad1 h₃ := (er1.up u2 z2).up u3 z3
    refine wpAny_handleBy_cons (codeAny_handlers_test ?_) (by intro q; cases q)
    refine glob_same hx n3.hr er3 ?_
    have LT : Looks (model C.prog C.w) h₃ (typeOf (.ref x1)) (.ref PC) := by
      obtain ⟨ob, hob, hcl⟩ := w3.there
      exact hcl ▸ (Looks.ld hob).andThen .now
    refine Looks.here (s := { s1 with heap := h₃ }) (exm_one (X0.keeps n3.hr.keep) LT hm) ?_
    refine codeAny_handlers_suite (wpAny_sz (lands_againW w3 fun h₅ w5 u5 z5 => ?_))
    have n5 := mkN h₅ w5.1 (Nat.le_trans (Nat.le_trans z2 z3) z5)
    have er5 := er3.up u5 z5
    refine wpAny_mono ((hX x1).run ad1 { s1 with heap := h₅ } n5.hr er5) ?_ fun _ _ z => z.elim
    rintro fl s6 ⟨ad6, σ6, ρ6, f6, n6, e6, r6, h6⟩
    exact ⟨ad6, σ6, ρ6, f6, n5.trans n6, e6, r6, h6⟩
  · cases hf

/- texts -/
theorem strs_rvs {ad : List Addr} : ∀ (l : List (Str × Tok)), RVs ad ((l.map (·.1)).map .str) (strValues l)
  | [] => .nil
  | (x, t) :: l => .cons ⟨t, rfl⟩ (strs_rvs l)
theorem Nx.strs {ad : List Addr} {s : Shared} {l : List (Str × Tok)} {k : Nat} (hr : HR C ad σ s.heap) : Nx C [] ad s (ad ++ [s.heap.objs.size]) (σ ++ [.list ((l.map (·.1)).map .str)]) { s with toks := k, heap := s.heap.push { cls := .type "list", data := .seq (strValues l).toArray } } :=
  (Nx.tok k hr).trans (Nx.alloc (s := { s with toks := k }) hr (o := .list ((l.map (·.1)).map .str)) ⟨_, _, rfl, by simpa using strs_rvs l⟩)
theorem WM_split {x : Str} {KK : Value → List V → AH → Prop} (h : KK (.builtin "str.split") [.str x] σ) : WM C A (.str x) "split" σ KK E := by
  refine ⟨?_⟩
  rintro ad s v pl hr ⟨t, rfl⟩
  refine getMethod_builtin (T := "str") (typeIs_str _ _ _) PySem.F.plainAttrs_str PySem.F.slot_str_split PySem.F.type_str_split (fun a e => by cases e) ⟨ad, σ, [.str x], Nx.refl hr, .cons ⟨t, rfl⟩ .nil, h⟩
theorem WM_strip {x : Str} {KK : Value → List V → AH → Prop} (h : KK (.builtin "str.strip") [.str x] σ) : WM C A (.str x) "strip" σ KK E := by
  refine ⟨?_⟩
  rintro ad s v pl hr ⟨t, rfl⟩
  refine getMethod_builtin (T := "str") (typeIs_str _ _ _) PySem.F.plainAttrs_str PySem.F.slot_str_strip PySem.F.type_str_strip (fun a e => by cases e) ⟨ad, σ, [.str x], Nx.refl hr, .cons ⟨t, rfl⟩ .nil, h⟩
theorem WC_strip {x : Str} {Q : V → AH → Prop} (hz : x.length ≤ sizeLine) (h : Q (.str (Txt.strip x)) σ) : WC C A (.builtin "str.strip") [.str x] σ Q E := by
  refine ⟨?_⟩
  rintro ad s us hr (_ | ⟨⟨t, rfl⟩, _ | _⟩)
  exact SC.strip (fun t' k => PE.tok (v := .str _) _ hr ⟨_, rfl⟩ h) hz
theorem WC_split0 {x : Str} {ws : List Str} {Q : V → AH → Prop} (hw : Txt.words x = ws) (hz : x.length < sizeLine) (h : Q (.ref σ.length) (σ ++ [.list (ws.map .str)])) : WC C A (.builtin "str.split") [.str x] σ Q E := by
  refine ⟨?_⟩
  rintro ad s us hr (_ | ⟨⟨t, rfl⟩, _ | _⟩)
  have h2 : (Builtin.Str.spaceWords x (x.length + 1)).length ≤ sizeLine := Nat.le_trans (StrLaws.len_le_wsum _) (Nat.le_trans (StrLaws.sw_weight x).1 hz)
  refine call_meets F.slot_str_split (typeIs_str _ _ _) F.entry_str_split (F.args_str_split_1 _) (meets_str_split_space x t (Nat.le_of_lt hz) h2) ?_
  cases hv : Builtin.Str.spaceWords x (x.length + 1) == [(0, x.length)]
  · simp only [Bool.false_eq_true, if_false]
    rw [strsFrom_eq]
    have e : (numbered s.toks (PySem.wordsOf x)).map (·.1) = ws := ((numbered_texts _ _).trans (if_neg (ne_true_of_eq_false hv)).symm).trans hw
    rw [← e] at h
    exact ⟨_, _, _, Nx.strs hr, RV.last hr.len.symm, h⟩
  · simp only [if_true]
    have e : [(x, t)].map (·.1) = ws := ((if_pos hv).symm : [x] = Txt.words x).trans hw
    rw [← e] at h
    exact ⟨_, _, _, Nx.strs (l := [(x, t)]) (k := s.toks) hr, RV.last hr.len.symm, h⟩
theorem WC_split1 {x y : Str} {ws : List Str} {Q : V → AH → Prop} (hw : Txt.split x y = ws) (hy : (y.length == 0) = false) (hz : x.length ≤ sizeLine) (hz2 : ws.length ≤ sizeLine) (h : Q (.ref σ.length) (σ ++ [.list (ws.map .str)])) : WC C A (.builtin "str.split") [.str x, .str y] σ Q E := by
  refine ⟨?_⟩
  rintro ad s us hr (_ | ⟨⟨t, rfl⟩, _ | ⟨⟨u, rfl⟩, _ | _⟩⟩)
  cases h1 : (decide (x.length < y.length) || decide (PySem.Builtin.Str.strKind x < PySem.Builtin.Str.strKind y))
  · cases hf : (Builtin.Str.occurrences x y 0 x.length (x.length + 1)).isEmpty
    · have hs : Txt.split x y = _ := (if_neg (ne_true_of_eq_false h1)).trans (if_neg (ne_true_of_eq_false hf))
      refine call_meets F.slot_str_split (typeIs_str _ _ _) F.entry_str_split (F.args_str_split_2 _ _) (meets_str_split_sep x y t u h1 hy hf hz (by rw [← hs, hw]; exact hz2)) ?_
      show wants _ E _ { s with toks := _, heap := s.heap.push { cls := .type "list", data := .seq (strsFrom s.toks (Builtin.Str.partsBetween x (Builtin.Str.occurrences x y 0 x.length (x.length + 1)) y.length)).toArray } }
      rw [strsFrom_eq]
      have e : (numbered s.toks (Builtin.Str.partsBetween x (Builtin.Str.occurrences x y 0 x.length (x.length + 1)) y.length)).map (·.1) = ws := ((numbered_texts _ _).trans hs.symm).trans hw
      rw [← e] at h
      exact ⟨_, _, _, Nx.strs hr, RV.last hr.len.symm, h⟩
    · have e : [(x, t)].map (·.1) = ws := (((if_neg (ne_true_of_eq_false h1)).trans (if_pos hf)).symm : [x] = Txt.split x y).trans hw
      rw [← e] at h
      exact call_meets F.slot_str_split (typeIs_str _ _ _) F.entry_str_split (F.args_str_split_2 _ _) (meets_str_split_not_found x y t u h1 hy hf) ⟨_, _, _, Nx.strs (l := [(x, t)]) (k := s.toks) hr, RV.last hr.len.symm, h⟩
  · have e : [(x, t)].map (·.1) = ws := ((if_pos h1).symm : [x] = Txt.split x y).trans hw
    rw [← e] at h
    exact call_meets F.slot_str_split (typeIs_str _ _ _) F.entry_str_split (F.args_str_split_2 _ _) (meets_str_split_cannot_occur x y t u h1) ⟨_, _, _, Nx.strs (l := [(x, t)]) (k := s.toks) hr, RV.last hr.len.symm, h⟩
theorem WC_lenS {x : Str} {Q : V → AH → Prop} (hz : x.length ≤ sizeLine) (h : Q (.int x.length) σ) : WC C A (.builtin "len") [.str x] σ Q E := by
  refine ⟨?_⟩
  rintro ad s us hr (_ | ⟨⟨t, rfl⟩, _ | _⟩)
  exact PySem.P.len_str (by have e3 : sizeLine = 16777216 := rfl; omega) (PE.tok (v := .int _) _ hr ⟨_, rfl⟩ h)
theorem WC_intS {x : Str} {n : Int} {Q : V → AH → Prop} (hn : PySem.intText? x = some n) (hl : x.length ≤ 640) (h : Q (.int n) σ) : WC C A (.type "int") [.str x] σ Q E := by
  refine ⟨?_⟩
  rintro ad s us hr (_ | ⟨⟨t, rfl⟩, _ | _⟩)
  exact KIN.call_text hn hl (PE.tok (v := .int _) _ hr ⟨_, rfl⟩ h)
theorem nin_ss {x y : Str} {Q : V → AH → Prop} (h : Q (.bool (!Txt.contains x y)) σ) : WOp2 C A (compareOp .NotIn) (.str y) (.str x) σ Q E := by
  refine ⟨?_⟩
  rintro ad s a b hr ⟨t, rfl⟩ ⟨u, rfl⟩
  exact PySem.P.notIn_str (PE.here (v := .bool _) hr rfl h)
theorem Itb_str {x : Str} (hA : A.handled = none) (ha : x.cps.all (· < 128) = true) : Itb C A (.str x) σ x.cps.size (fun i => .str ⟨#[x.cps.getD i 0]⟩) (fun _ => True) E := by
  refine ⟨?_⟩
  rintro ad s v hr ⟨t, rfl⟩
  refine wpAny_pyIter_ascii ha ⟨s.heap.objs.size, fun i h => h.IsStrIter s.heap.objs.size "str_ascii_iterator" x t i, rfl, ?_, ⟨_, Heap.get?_push_size _ rfl, rfl, rfl⟩, Nat.le_refl _, Nx.push _ hr⟩
  refine ⟨?_, ?_, ?_, ?_, fun i s Q E st hQ => wpAny_pyIter_striter_ascii st hQ, ?_⟩
  · rintro i h h' ⟨o, ho, r⟩ e
    exact ⟨o, by rw [e]; exact ho, r⟩
  · rintro i h ⟨o, ho, r⟩; exact ⟨o, ho⟩
  · rintro i ad' σ' s' Q E' hi ⟨nw, rfl⟩ hr' b' st hQ
    exact wpAny_pyNext_ascii_item st (c := x.cps.getD i 0) (by simp [Array.getD, hi]) fun h' hit hs => hQ _ h' _ ⟨_, rfl⟩ hit hs
  · rintro ad' σ' s' Q E' ⟨nw, rfl⟩ hr' b' st hQ
    exact wpAny_pyNext_ascii_end hA st (by simp) fun h' he => hQ h' s'.toks fun b o hb e => he b o hb e
  · rintro i s' t u Q E' ⟨o, ho, hc, hd⟩ hq
    exact notOwned ho (by rw [hc, hd]; rfl) hq
end
end Mine

-- part Xs2
set_option autoImplicit false
set_option linter.unusedVariables false
namespace Mine
open PySem PySem.W PyProof.Rows

/- an exception that a loop of this frame has seen -/
theorem wpAny_backW {M : Model} {A : Around} {s : Shared} {env : Env} {base : Heap} {l : List Env} {e L : Addr} {cls a0 : Value} {E : EX} (hf : env.frame = some L) (hh : Heap.HeldW base l e cls a0 L s.heap)
    (hQ : ∀ h', Heap.HeldW base l e cls a0 L h' → s.heap.UpToSlots h' → s.heap.objs.size ≤ h'.objs.size → E (.ref e) { s with heap := h' }) : cameBackBy M A env E (.ref e) s := by
  obtain ⟨hkb, hen, hl, oe, vs, T, oT, ts, he, hcls, hd, h1, hnT, hTe, hT, hdT, h3⟩ := hh
  have hsz3 : 3 < ts.size := (Array.getElem?_eq_some_iff.mp h3).1
  have other : ∀ b, b ≠ T → (s.heap.update T (Obj.mapFields (·.setIfInBounds 3 ((some L : Option Addr).elim Value.none fun f => rawInt f)))).get? b = s.heap.get? b :=
    fun b hb => Heap.get?_update_other _ _ (Ne.symm hb)
  have noRecord : ∀ b o, s.heap.get? b = some o → (∀ vs, o.data ≠ .fields vs) → b ≠ T := fun b o hb hnf q => by
    rw [q, hT] at hb; injection hb with hb; subst hb; exact hnf ts hdT
  unfold cameBackBy
  refine wpAny_bind (wpAny_field he hd h1 ?_)
  rw [if_neg (show ¬ ((Value.ref T == Value.none) = true) from by simp)]
  rw [hf]
  show wpAny M A (setFlight (.ref e) (some L)) _ _ s
  unfold setFlight
  refine wpAny_bind (wpAny_field he hd h1 ?_)
  rw [if_pos (show (Value.ref T != Value.none) = true from by simp)]
  refine wpAny_setField hT hdT hsz3 (hQ _ ⟨fun b o hbo => (other b fun q => by rw [q, hnT] at hbo; cases hbo).trans (hkb b o hbo), hen,
    (hl.of_keeps fun b o hb hnf => ⟨o, (other b (noRecord b o hb hnf)).trans hb, rfl⟩), ?_⟩ (fun b o hb hnf => ⟨o.slots, (other b (noRecord b o hb hnf)).trans hb⟩) (by rw [size_upd]; exact Nat.le_refl _))
  exact ⟨oe, vs, T, _, _, (other e (Ne.symm hTe)).trans he, hcls, hd, h1, hnT, hTe, Heap.get?_update_self _ hT (Obj.isFreed_of_fields (Obj.data_mapFields hdT _)), Obj.data_mapFields hdT _, by simp [hsz3]⟩

structure Hld (C : Cx) (env : Env) (outer : List Env) (PC : Addr) (ad : List Addr) (s : Shared) (ad' : List Addr) (σ' : AH) (x : Addr) (s' : Shared) : Prop where
  eq : ∃ h tk, s' = { s with heap := h, toks := tk }
  pre : ∃ nw, ad' = ad ++ nw ∧ ∀ a ∈ nw, s.heap.objs.size ≤ a
  size : s.heap.objs.size ≤ s'.heap.objs.size
  fl : ∃ B a0, Heap.HeldW B (env :: outer) x (.ref PC) a0 env.locals s'.heap ∧ HR C ad' σ' B ∧ ∀ b o, s.heap.get? b = some o → b ∉ ad → b ∉ fa env → b ∉ frs (env :: outer) → B.get? b = some o
  up : ∀ b ∈ frs outer, ∀ o, s.heap.get? b = some o → (∀ vs, o.data ≠ .fields vs) → ∃ sl, s'.heap.get? b = some { o with slots := sl }
def HX (C : Cx) (env : Env) (outer : List Env) (PC : Addr) (X : AH → Prop) (ad : List Addr) (s : Shared) : EX :=
  fun e s' => ∃ ad' σ' x, e = .ref x ∧ X σ' ∧ Hld C env outer PC ad s ad' σ' x s'
section
variable {C : Cx} {A : Around} {env : Env} {ρ : Loc} {σ : AH} {E : EX}
theorem Hld.of_nx {outer : List Env} {ad ad1 ad' : List Addr} {σ1 σ' : AH} {s s1 s' : Shared} {PC x : Addr} (n : Nx C (fa env) ad s ad1 σ1 s1) (f : Hld C env outer PC ad1 s1 ad' σ' x s') (hl : ∀ b ∈ frs outer, b ∉ ad ∧ b ∉ fa env) : Hld C env outer PC ad s ad' σ' x s' := by
  obtain ⟨h1, t1, e1⟩ := n.eq
  obtain ⟨h2, t2, e2⟩ := f.eq
  obtain ⟨n1, p1, q1⟩ := n.pre
  obtain ⟨n2, p2, q2⟩ := f.pre
  obtain ⟨B, a0, g1, g2, g3⟩ := f.fl
  refine ⟨⟨h2, t2, by rw [e2, e1]⟩, ⟨n1 ++ n2, by rw [p2, p1, List.append_assoc], ?_⟩, Nat.le_trans n.size f.size, ⟨B, a0, g1, g2, fun b o e hb hc hf => g3 b o (n.same b o e hb hc) (n.notin e hb) hc hf⟩, fun b hb o e hd => f.up b hb o (n.same b o e (hl b hb).1 (hl b hb).2) hd⟩
  intro x hx
  rcases List.mem_append.mp hx with hx | hx
  · exact q1 x hx
  · exact Nat.le_trans n.size (q2 x hx)
theorem Hld.slots {outer : List Env} {ad ad' : List Addr} {σ' : AH} {s s' : Shared} {PC x : Addr} {B : Heap} {a0 : Value} {h' : Heap} (f : Hld C env outer PC ad s ad' σ' x s') (hB : HR C ad' σ' B ∧ ∀ b o, s.heap.get? b = some o → b ∉ ad → b ∉ fa env → b ∉ frs (env :: outer) → B.get? b = some o) (hw : Heap.HeldW B (env :: outer) x (.ref PC) a0 env.locals h') (hu : s'.heap.UpToSlots h') (hz : s'.heap.objs.size ≤ h'.objs.size) : Hld C env outer PC ad s ad' σ' x { s' with heap := h' } := by
  obtain ⟨h2, t2, e2⟩ := f.eq
  refine ⟨⟨h', t2, by rw [e2]⟩, f.pre, Nat.le_trans f.size hz, ⟨B, a0, hw, hB.1, hB.2⟩, fun b hb o e hd => ?_⟩
  obtain ⟨sl, hs⟩ := f.up b hb o e hd
  obtain ⟨sl', hs'⟩ := hu b _ hs hd
  exact ⟨sl', hs'⟩
/-- it goes on out of a loop -/
theorem hold_again {outer : List Env} {ad ad' : List Addr} {σ' : AH} {s s' : Shared} {PC x : Addr} {X : AH → Prop} (hfr : env.frame = some env.locals) (hX : X σ') (f : Hld C env outer PC ad s ad' σ' x s') : ELoop C A env (HX C env outer PC X ad s) (.ref x) s' := by
  obtain ⟨B, a0, g1, g2, g3⟩ := f.fl
  refine wpAny_noteFrame_againW hfr g1.2.2.2 ?_
  exact wpAny_backW hfr g1 fun h' w u z => ⟨ad', σ', x, rfl, hX, f.slots ⟨g2, g3⟩ w u z⟩
theorem hold_first {outer : List Env} {ad ad' : List Addr} {σ' : AH} {s s' : Shared} {PC x : Addr} {X : AH → Prop} (fx : Fx C A env outer ad s.heap) (hX : X σ') (f : Fly C (fa env) (env :: outer) PC ad s ad' σ' x s') : ELoop C A env (HX C env outer PC X ad s) (.ref x) s' := by
  obtain ⟨B, a0, g1, g2, g3⟩ := f.fl
  obtain ⟨h1, t1, e1⟩ := f.eq
  refine wpAny_sz (wpAny_looks_onW fx.st fx.fr g1 fun h₂ w2 u2 z2 => ?_)
  dsimp only at z2 u2
  have F : Hld C env outer PC ad s ad' σ' x { s' with heap := h₂ } := by
    refine ⟨⟨h₂, t1, by rw [e1]⟩, f.pre, Nat.le_trans f.size z2, ⟨B, a0, w2, g2, g3⟩, fun b hb o e hd => ?_⟩
    obtain ⟨sl, hs⟩ := f.up b (by rw [frs_cons fx.fr]; exact .inr hb) o e (fx.ap b hb)
    obtain ⟨sl', hs'⟩ := u2 b _ hs hd
    exact ⟨sl', hs'⟩
  exact wpAny_backW fx.fr w2 fun h' w u z => ⟨ad', σ', x, rfl, hX, F.slots ⟨g2, g3⟩ w u z⟩

structure RH (C : Cx) (A : Around) (env : Env) (st : Stmt) (ρ : Loc) (σ : AH) (PC : Addr) (X : AH → Prop) : Prop where
  run : ∀ ad s outer, Fx C A env outer ad s.heap → HR C ad σ s.heap → ER C env ρ ad s.heap → wpAny (model C.prog C.w) A (exec st env) (fun _ _ => False) (HX C env outer PC X ad s) s
structure RHs (C : Cx) (A : Around) (env : Env) (st : List Stmt) (ρ : Loc) (σ : AH) (PC : Addr) (X : AH → Prop) : Prop where
  run : ∀ ad s outer, Fx C A env outer ad s.heap → HR C ad σ s.heap → ER C env ρ ad s.heap → wpAny (model C.prog C.w) A (execs st env) (fun _ _ => False) (HX C env outer PC X ad s) s
theorem Fx.out {outer : List Env} {ad : List Addr} {h : Heap} (f : Fx C A env outer ad h) : ∀ b ∈ frs outer, b ∉ ad ∧ b ∉ fa env := fun b hb => ⟨(f.ou.mem hb).2.1, f.ap b hb⟩
theorem RHs_here {st : Stmt} {rest : List Stmt} {PC : Addr} {X : AH → Prop} (h : RH C A env st ρ σ PC X) : RHs C A env (st :: rest) ρ σ PC X := by
  refine ⟨?_⟩
  intro ad s outer fx hr er
  exact wpAny_execs_cons (wpAny_mono (h.run ad s outer fx hr er) (fun _ _ z => z.elim) fun _ _ x => x)
structure ThH (C : Cx) (A : Around) (env : Env) (rest : List Stmt) (PC : Addr) (X : AH → Prop) (fl : Fl) (ρ : Loc) (σ : AH) : Prop where
  run : match fl with
    | .next => RHs C A env rest ρ σ PC X
    | _ => False
theorem ThH_next {rest : List Stmt} {PC : Addr} {X : AH → Prop} (h : RHs C A env rest ρ σ PC X) : ThH C A env rest PC X .next ρ σ := ⟨h⟩
def isForS : Stmt → Bool
  | .For .. => true
  | _ => false
theorem RHs_next {st : Stmt} {rest : List Stmt} {PC : Addr} {X : AH → Prop} (h : WS C A env st ρ σ (ThH C A env rest PC X) EF) (hs : isForS st = false := by rfl) : RHs C A env (st :: rest) ρ σ PC X := by
  refine ⟨?_⟩
  intro ad s outer fx hr er
  refine wpAny_execs_cons (wpAny_mono (h.run ad s hr er) ?_ fun _ _ x => x.elim)
  rintro f s1 ⟨ad1, σ1, ρ1, fl, n1, e1, r1, ⟨h1⟩⟩
  cases fl with
  | next => cases r1; exact wpAny_mono (h1.run ad1 s1 outer (fx.next n1) n1.hr e1) (fun _ _ z => z.elim) fun _ _ ⟨ad', σ', x, e, hX, f⟩ => ⟨ad', σ', x, e, hX, f.of_nx n1 fx.out⟩
  | brk => exact h1.elim
  | cont => exact h1.elim
  | ret v => exact h1.elim
/-- a loop whose body raises at the turn m -/
theorem RH_for {target iter : Expr} {body : List Stmt} {pos : Pos} {PC : Addr} {X : AH → Prop}
    (h : WItr C A env iter ρ σ (fun n P Cd σ1 => ∃ (Inv : Nat → Loc → AH → Prop) (m : Nat), m < n ∧ Inv 0 ρ σ1 ∧
      (∀ i ρ' σ', i < m → Inv i ρ' σ' → Cd σ' ∧ WAs C A env target (P i) ρ' σ' (fun ρ2 σ2 => WSs C A env body ρ2 σ2 (LoopPost (Inv (i + 1)) (fun _ _ _ => False)) EF) EF) ∧
      (∀ ρ' σ', Inv m ρ' σ' → Cd σ' ∧ WAs C A env target (P m) ρ' σ' (fun ρ2 σ2 => RSs C A env body ρ2 σ2 false PC (fun _ σ' => X σ') ∨ RHs C A env body ρ2 σ2 PC X) EF)) EF)
    (hs : isSetE iter = false := by rfl) : RH C A env (.For target iter body [] pos) ρ σ PC X := by
  refine ⟨?_⟩
  intro ad s outer fx hr er
  refine wpAny_For (wpAny_mono (h.run ad s hr er) ?_ fun _ _ x => x.elim) (folded_not hs)
  intro x s1 hx
  refine wpAny_mono hx ?_ fun _ _ x => x.elim
  rintro it s2 ⟨ad1, σ1, n, P, Cd, I, St, rfl, wk, st0, hI, hIad, n2, Inv, m, hm, inv0, turn, bad⟩
  have er2 := er.next n2
  have hIfa : I ∉ fa env := fun hm => absurd (er.lt I hm) (Nat.not_lt.mpr hI)
  have hIG : C.G.get? I = none := (hr.fresh hI).1
  refine codeAny_forLoop_any (fun k s3 => ∃ i ad3 σ3 ρ3, k = m - i ∧ i ≤ m ∧ Nx C (I :: fa env) ad1 s2 ad3 σ3 s3 ∧ ER C env ρ3 ad3 s3.heap ∧ St i s3.heap ∧ I ∉ ad3 ∧ Inv i ρ3 σ3) ?_ m
    ⟨0, ad1, σ1, ρ, rfl, Nat.zero_le _, Nx.refl n2.hr, er2, st0, hIad, inv0⟩
  rintro k s3 ⟨i, ad3, σ3, ρ3, rfl, hi, n3, er3, st3, hI3, inv3⟩
  by_cases hlt : i < m
  · obtain ⟨cd, tb⟩ := turn i ρ3 σ3 hlt inv3
    refine wk.item i ad3 σ3 s3 _ _ (Nat.lt_trans hlt hm) (let ⟨nw, p, _⟩ := n3.pre; ⟨nw, p⟩) n3.hr cd st3 fun u h' tk ru st' hsb => ?_
    have n4 : Nx C [I] ad3 s3 ad3 σ3 { s3 with heap := h', toks := tk } := Nx.iter n3.hr hI3 hIG (Nat.le_of_eq hsb.1.symm) hsb.extBut
    have er4 := er3.iter n4 hIfa
    refine wk.tup (i + 1) _ _ _ _ _ st' ?_
    refine wpAny_mono (tb.run ad3 _ u n4.hr er4 ru) ?_ fun _ _ x => x.elim
    rintro _ s5 ⟨ad5, σ5, ρ5, n5, er5, wb⟩
    refine wpAny_mono (wb.run ad5 s5 n5.hr er5) ?_ fun _ _ x => x.elim
    rintro f s6 ⟨ad6, σ6, ρ6, fl, n6, er6, rf, ⟨hq⟩⟩
    have n56 := n5.trans n6
    have n46 : Nx C (I :: fa env) ad3 s3 ad6 σ6 s6 := (n4.wider (by simp)).trans (n56.wider fun b hb => List.mem_cons_of_mem _ hb)
    have n36 := n3.trans n46
    obtain ⟨oI, hoI⟩ := wk.ex _ _ st'
    have hI6 : I ∉ ad6 := by
      obtain ⟨nw, p, q⟩ := n56.pre
      rw [p]
      intro hm
      rcases List.mem_append.mp hm with hm | hm
      · exact hI3 hm
      · exact absurd (Heap.lt_size hoI) (Nat.not_lt.mpr (q I hm))
    have st6 : St (i + 1) s6.heap := wk.own _ _ _ st' ((n56.same I oI hoI hI3 hIfa).trans hoI.symm)
    cases fl with
    | next => cases rf; exact ⟨m - (i + 1), by omega, i + 1, ad6, σ6, ρ6, rfl, hlt, n36, er6, st6, hI6, hq⟩
    | cont => cases rf; exact ⟨m - (i + 1), by omega, i + 1, ad6, σ6, ρ6, rfl, hlt, n36, er6, st6, hI6, hq⟩
    | brk => exact hq.elim
    | ret v => exact hq.elim
  · obtain rfl : i = m := by omega
    obtain ⟨cd, tb⟩ := bad ρ3 σ3 inv3
    refine wk.item i ad3 σ3 s3 _ _ hm (let ⟨nw, p, _⟩ := n3.pre; ⟨nw, p⟩) n3.hr cd st3 fun u h' tk ru st' hsb => ?_
    have n4 : Nx C [I] ad3 s3 ad3 σ3 { s3 with heap := h', toks := tk } := Nx.iter n3.hr hI3 hIG (Nat.le_of_eq hsb.1.symm) hsb.extBut
    have er4 := er3.iter n4 hIfa
    refine wk.tup (i + 1) _ _ _ _ _ st' ?_
    refine wpAny_mono (tb.run ad3 _ u n4.hr er4 ru) ?_ fun _ _ x => x.elim
    rintro _ s5 ⟨ad5, σ5, ρ5, n5, er5, wb⟩
    have n05 : Nx C (fa env) ad s ad5 σ5 s5 := Nx.drop1 n2 hI (n3.trans ((n4.wider (by simp)).trans (n5.wider fun b hb => List.mem_cons_of_mem _ hb)))
    have fx5 := fx.next n05
    rcases wb with wb | wb
    · refine wpAny_mono (wb.run ad5 s5 outer fx5 n5.hr er5) (fun _ _ z => z.elim) ?_
      rintro e s6 ⟨ad6, σ6, ρ6, x6, rfl, hX, ⟨f, _⟩ | ⟨hf, _⟩⟩
      · exact hold_first fx hX (f.of_nx n05 (fx.nin er))
      · cases hf
    · refine wpAny_mono (wb.run ad5 s5 outer fx5 n5.hr er5) (fun _ _ z => z.elim) ?_
      rintro e s6 ⟨ad6, σ6, x6, rfl, hX, f⟩
      exact hold_again fx.fr hX (f.of_nx n05 fx.out)
theorem RCcH_def {f : Addr} {o : Obj} {name qual : Str} {params : Arguments} {body : List Stmt} {scope : Scope} {dV kV doc pm cdv ct : Value} {an : Option Addr} {pn ln : List Str} {gl : List (Str × Value)} {vs dv : List V} {ds : List Value} {PC : Addr} {X : AH → Prop}
    (ho : C.G.get? f = some o) (hd : o.data = .func (mkFd name qual params body scope dV kV doc pm an cdv ct)) (hcd : C.G.CodeRec cdv qual) (hroom : A.depth < recursionLimit)
    (hds : RVs [] dv ds) (hlen : pn.length = vs.length + dv.length) (hgl : ∀ x v, (x, v) ∈ gl → C.mg x = some v ∨ (C.mg x = none ∧ C.mb x = some v))
    (hbind : ∀ (s : Shared) (xs : List Value), (∀ b o, C.G.get? b = some o → s.heap.get? b = some o) → xs.length = vs.length → BindsTo s (mkFd name qual params body scope dV kV doc pm an cdv ct) ⟨xs, []⟩ (pn.zip (xs ++ ds)))
    (hnd : (pn ++ ln).Nodup) (hcn : ((cellsFrom 0 scope.names []).map (·.1)).Nodup)
    (hkd : ((pn ++ ln).all fun x => nmOk x && (scope.names.lookup x == some .local || (scope.names.lookup x == some .cell && ((cellsFrom 0 scope.names []).lookup x).isSome))) = true)
    (hgk : (gl.all fun p => nmOk p.1 && scope.names.lookup p.1 == some .globalImplicit) = true)
    (h : ∀ env, Kn env scope.names → RHs (C.wg gl) (A.deeper env) env body (pn.zip ((vs ++ dv).map some) ++ ln.map fun x => (x, none)) σ PC X)
    (hco : scope.isCoroutine = false := by rfl) (hgen : scope.isGenerator = false := by rfl) (hk : scope.kind = .function := by rfl) : RCc C A (.ref f) vs σ PC X := by
  refine ⟨?_⟩
  intro ad s xs l hl hF hr rv
  refine def_entry ho hd hcd hroom hds hlen hgl hbind hnd hcn hkd hgk hr rv (fun env s1 hkn hfr keep hsz e1 hfa hr1 er1 => ?_) hco hgen hk
  obtain ⟨h1, tk, e1⟩ := e1
  have nfa : ∀ b o, s.heap.get? b = some o → b ∉ fa env := fun b o e hm => absurd (Heap.lt_size e) (Nat.not_lt.mpr (hfa b hm))
  have nloc : ∀ b o, s.heap.get? b = some o → b ≠ env.locals := fun b o e q => nfa b o e (by rw [q]; simp [fa])
  have ap : ∀ b ∈ frs l, b ∉ fa env := fun b hb => by
    obtain ⟨_, _, o, ho, _⟩ := hF.mem hb
    exact nfa b o ho
  have fx : Fx (C.wg gl) (A.deeper env) env l ad s1.heap := by
    refine ⟨by show A.frames.map _ = _; rw [hl]; rfl, hfr, fun e he => ?_, ap⟩
    obtain ⟨k1, L, o, k2, k3, k4, k5, k6⟩ := hF e he
    exact ⟨k1, L, o, k2, k3, k4, keep L o k5, k6⟩
  refine wpAny_mono ((h env hkn).run ad s1 l fx hr1 er1) (fun _ _ z => z.elim) ?_
  rintro e s' ⟨ad', σ', x, rfl, hX, f⟩
  obtain ⟨B, a0, g1, g2, g3⟩ := f.fl
  obtain ⟨hh, tk', e3⟩ := f.eq
  obtain ⟨nw, p1, q1⟩ := f.pre
  unfold leaving
  refine wpAny_bind (wpAny_noteFrame_againW hfr g1.2.2.2 ?_)
  refine wpAny_sz (wpAny_landsW g1 fun h' hfl' hup hz' => ?_)
  obtain ⟨k1, k2, ⟨_, _, k3⟩, k4⟩ := hfl'
  refine ⟨ad', σ', x, rfl, hX, ⟨⟨h', tk', by rw [e3, e1]⟩, ⟨nw, p1, fun a ha => Nat.le_trans hsz (q1 a ha)⟩, Nat.le_trans hsz (Nat.le_trans f.size hz'), ⟨B, a0, ⟨k1, k2, k3, k4⟩, g2.gw hr.ok, fun b o e hb _ hf => ?_⟩, fun b hb o e _ => ?_⟩⟩
  · refine g3 b o (keep b o e) hb (nfa b o e) ?_
    rw [frs_cons hfr]
    rintro (q | q)
    · exact nloc b o e q
    · exact hf q
  · obtain ⟨_, _, o', ho', hd'⟩ := hF.mem hb
    rw [e] at ho'; cases ho'
    obtain ⟨sl, hs⟩ := f.up b hb o (keep b o e) hd'
    obtain ⟨sl', hs'⟩ := hup b _ hs hd'
    exact ⟨sl', hs'⟩
end
end Mine

-- part Xs3
set_option autoImplicit false
set_option linter.unusedVariables false
namespace Mine
open PySem PySem.W PyProof.Rows

section
variable {C : Cx} {A : Around} {env : Env} {ρ : Loc} {σ : AH} {E : EX}
theorem WAs_list {ts : List Expr} {k : Nat} {p : Pos} {v : V} {vs : List V} {Q : Loc → AH → Prop} (hA : A.handled = none) (b : ObjAt C σ v (.list vs)) (h : WAsL C A env ts vs ρ σ Q E)
    (hn : ts.length = vs.length := by rfl) (hst : noStar ts = true := by rfl) : WAs C A env (.Tuple ts k p) v ρ σ Q E := by
  refine ⟨?_⟩
  intro ad s u hr er rv
  obtain ⟨a, us, rfl, hl, rvs⟩ := b.list hr rv
  rw [arm_assign_Tuple]
  refine wpAny_bind (wpAny_standAt ?_)
  unfold unpack
  have e : (assignEach ts env).length = us.size := by rw [noStar_len env hst, hn, ← Array.length_toList, ← rvs.length]
  rw [e, noStar_idx env hst]
  refine wpAny_bind (wpAny_holding (wpAny_sz (kun_itemsOf hA hl fun h' he hz => ?_)))
  have hk : ∀ b o, s.heap.get? b = some o → h'.get? b = some o := fun b o e => he b o (Nat.ne_of_lt (Heap.lt_size e)) e
  have n1 : Nx C [] ad s ad σ { s with heap := h' } := Nx.keeps (tk := s.toks) hz hr hk
  refine wpAny_mono (h.run ad _ _ n1.hr (er.next n1) rvs) ?_ fun _ _ x => x
  rintro _ s2 ⟨ad2, σ2, ρ2, n2, er2, h2⟩
  exact ⟨ad2, σ2, ρ2, n1.weak.trans n2, er2, h2⟩
theorem WE_attrc {Q : V → AH → Prop} {value : Expr} {attr : Str} {pos : Pos} (h : WE C A env value ρ σ (fun v σ1 => WAt C A v attr σ1 Q E) E) (hv : callBase value = true := by rfl) : WE C A env (.Attribute value attr pos) ρ σ Q E := by
  refine ⟨?_⟩
  intro ad s hr er
  have e1 := base_eq (name := attr) (env := env) hv
  refine Attribute_any_ (wpAny_mono (h.run ad s hr er) ?_ fun _ _ x => x) (by rw [arm_eval_Attribute, e1])
  rintro u s1 ⟨ad1, σ1, v, n1, r1, h1⟩
  exact wpAny_mono (h1.run ad1 s1 u n1.hr r1) (fun u s' p => PE.trans n1 p) fun _ _ x => x
theorem is_noneN {Q : V → AH → Prop} (h : Q (.bool true) σ) : WOp2 C A (compareOp .Is) .none .none σ Q E := by
  refine ⟨?_⟩
  rintro ad s a b hr rfl rfl
  exact is_none_none (PE.here (v := .bool _) hr rfl h)
theorem is_noneR {Q : V → AH → Prop} {j : Nat} (h : Q (.bool false) σ) : WOp2 C A (compareOp .Is) (.ref j) .none σ Q E := by
  refine ⟨?_⟩
  rintro ad s x y hr ⟨a, ha, rfl⟩ rfl
  exact is_none_gen (PE.here (v := .bool false) hr rfl h)
end
/- sizes and texts of this law -/
theorem sp_eq : Str.ofString " " = ⟨#[32]⟩ := by decide +kernel
theorem nl_eq : Str.ofString "\n" = ⟨#[10]⟩ := by decide +kernel
theorem head_line (a b c : Int) : nm a ++ Str.ofString " " ++ nm b ++ Str.ofString " " ++ nm c = lineOf [a, b, c] := by
  rw [lineOf_eq, sp_eq]
  show _ = nm a ++ ⟨#[32]⟩ ++ (nm b ++ ⟨#[32]⟩ ++ nm c)
  simp only [Str.append_assoc]
theorem nm_sum {r : List Int} (h : ∀ x ∈ r, 0 ≤ x ∧ x < 1000) (hl : r.length ≤ 512) : ((r.map nm).map (·.length)).sum + (r.map nm).length * (Str.ofString " ").length ≤ 16777216 := by
  have h1 := StrLaws.sumLen_le (B := 3) (r.map nm) fun y hy => by obtain ⟨x, hx, rfl⟩ := List.mem_map.mp hy; exact (nm_len (h x hx).1 (h x hx).2).2
  have h2 : (Str.ofString " ").length = 1 := by decide +kernel
  rw [h2]
  simp only [List.length_map] at h1 ⊢
  omega
def rowsOf (N W H : Nat) (r : List Int) (k : Nat) : List (List Int) := [(N : Int), W, H] :: List.replicate k r
structure Fit (N W H : Nat) (r : List Int) : Prop where
  n : N = 1 ∨ N = 3
  h : 1 ≤ H ∧ H ≤ 512
  w : 1 ≤ W ∧ W ≤ 512
  len : r.length = W
  s : ∀ x ∈ r, 0 ≤ x ∧ x ≤ 255
theorem Fit.nh {N W H : Nat} {r : List Int} (f : Fit N W H r) : N * H ≤ 1536 := by
  have := f.h; rcases f.n with h | h <;> subst h <;> omega
theorem Fit.small {N W H : Nat} {r : List Int} (f : Fit N W H r) : Small r :=
  ⟨by intro e; have := f.len; rw [e] at this; have := f.w; simp at *; omega, fun x hx => by have := f.s x hx; omega⟩
theorem Fit.head {N W H : Nat} {r : List Int} (f : Fit N W H r) : Small [(N : Int), W, H] := by
  refine ⟨by simp, fun x hx => ?_⟩
  have h1 := f.n; have h2 := f.h; have h3 := f.w
  simp only [List.mem_cons, List.not_mem_nil, or_false] at hx
  rcases hx with rfl | rfl | rfl <;> omega
theorem Fit.rows {N W H : Nat} {r : List Int} (f : Fit N W H r) {k : Nat} : ∀ x ∈ rowsOf N W H r k, Small x := by
  intro x hx
  rcases List.mem_cons.mp hx with rfl | hx
  · exact f.head
  · rw [List.eq_of_mem_replicate hx]; exact f.small
theorem Fit.rowlen {N W H : Nat} {r : List Int} (f : Fit N W H r) {k : Nat} : ∀ x ∈ rowsOf N W H r k, x.length ≤ 512 := by
  intro x hx
  rcases List.mem_cons.mp hx with rfl | hx
  · simp
  · rw [List.eq_of_mem_replicate hx, f.len]; exact f.w.2
theorem Fit.sum {N W H : Nat} {r : List Int} (f : Fit N W H r) : (((rowsOf N W H r (N * H)).map lineOf).map (·.length)).sum + ((rowsOf N W H r (N * H)).map lineOf).length * (Str.ofString "\n").length ≤ 4000000 := by
  have h1 := StrLaws.sumLen_le (B := 2048) ((rowsOf N W H r (N * H)).map lineOf) fun y hy => by
    obtain ⟨x, hx, rfl⟩ := List.mem_map.mp hy
    have := lineOf_len (f.rows x hx)
    have := f.rowlen x hx
    omega
  have h2 : (Str.ofString "\n").length = 1 := by decide +kernel
  rw [h2]
  have h3 : ((rowsOf N W H r (N * H)).map lineOf).length ≤ 1537 := by simp [rowsOf]; exact f.nh
  omega
theorem Fit.text {N W H : Nat} {r : List Int} (f : Fit N W H r) : (Txt.join ⟨#[10]⟩ ((rowsOf N W H r (N * H)).map lineOf)).length ≤ 4000000 := by
  rw [show Txt.join ⟨#[10]⟩ ((rowsOf N W H r (N * H)).map lineOf) = Str.join ⟨#[10]⟩ ((rowsOf N W H r (N * H)).map lineOf) from StrLaws.glued_eq_join _ _]
  have := StrLaws.join_length_le ⟨#[10]⟩ ((rowsOf N W H r (N * H)).map lineOf)
  have h := f.sum
  rw [nl_eq] at h
  omega
theorem Fit.split {N W H : Nat} {r : List Int} (f : Fit N W H r) : Txt.split (Txt.join ⟨#[10]⟩ ((rowsOf N W H r (N * H)).map lineOf)) (Str.ofString "\n") = (rowsOf N W H r (N * H)).map lineOf := by
  rw [nl_eq]; exact lines_split (by simp [rowsOf]) f.rows
theorem dig_in {c : Nat} (h : 48 ≤ c ∧ c ≤ 57) : Txt.contains (Str.ofString "0123456789") ⟨#[c]⟩ = true := by
  have : ∀ c, c < 58 → 48 ≤ c → Txt.contains (Str.ofString "0123456789") ⟨#[c]⟩ = true := by decide +kernel
  exact this c (by omega) h.1
theorem nm_at {x : Int} (h0 : 0 ≤ x) {i : Nat} (hi : i < (nm x).cps.size) : 48 ≤ (nm x).cps.getD i 0 ∧ (nm x).cps.getD i 0 ≤ 57 := by
  refine nm_signs h0 _ ?_
  rw [Array.getD_eq_getD_getElem?, Array.getElem?_eq_getElem hi]
  simp
theorem nm_ascii {x : Int} (h0 : 0 ≤ x) : (nm x).cps.all (· < 128) = true := by
  rw [Array.all_eq_true]
  intro i hi
  have := nm_at h0 hi
  rw [Array.getD_eq_getD_getElem?, Array.getElem?_eq_getElem hi] at this
  simp at this ⊢
  omega
end Mine

-- part T10
set_option linter.unusedVariables false
namespace Mine
open PySem PySem.W PyProof.Rows
section
noncomputable def sAt (i : Nat) : Stmt := match PySem.Challenge.pw_ui0502_10.main.body[i]? with | some s => s | none => .Pass ⟨0, 0, 0, 0⟩
noncomputable def cB : Stmt → List Stmt
  | .ClassDef _ _ _ b _ _ _ _ _ _ _ => b
  | _ => []
noncomputable def sIn (i j : Nat) : Stmt := match (cB (sAt i))[j]? with | some s => s | none => .Pass ⟨0, 0, 0, 0⟩
noncomputable def fP : Stmt → Arguments
  | .FunctionDef _ a _ _ _ _ _ _ _ _ => a
  | _ => ⟨[], [], none, [], [], none, []⟩
noncomputable def fB : Stmt → List Stmt
  | .FunctionDef _ _ b _ _ _ _ _ _ _ => b
  | _ => []
noncomputable def fS : Stmt → Scope
  | .FunctionDef _ _ _ _ _ _ s _ _ _ => s
  | _ => { kind := .function, names := [], isGenerator := false, isCoroutine := false }
noncomputable def hd.heap_39 : Params → Frag := fun P => [(2, { cls := PySem.Value.none, data := PySem.Data.dict #[] }),
  (3, { cls := PySem.Value.type "dict", data := PySem.Data.dict #[{ hash := PySem.PyData.keyHash P (PySem.Str.ofString "__name__"), key := PySem.Value.str (PySem.Str.ofString "__name__") 165, val := PySem.Value.str (PySem.Str.ofString "law_ui0502_10") 327 }, { hash := PySem.PyData.keyHash P (PySem.Str.ofString "__doc__"), key := PySem.Value.str (PySem.Str.ofString "__doc__") 166, val := PySem.Value.none }, { hash := PySem.PyData.keyHash P (PySem.Str.ofString "__package__"), key := PySem.Value.str (PySem.Str.ofString "__package__") 167, val := PySem.Value.none }, { hash := PySem.PyData.keyHash P (PySem.Str.ofString "__loader__"), key := PySem.Value.str (PySem.Str.ofString "__loader__") 168, val := PySem.Value.builtin "__main__.__loader__#opaque" }, { hash := PySem.PyData.keyHash P (PySem.Str.ofString "__spec__"), key := PySem.Value.str (PySem.Str.ofString "__spec__") 169, val := PySem.Value.none }, { hash := PySem.PyData.keyHash P (PySem.Str.ofString "__annotations__"), key := PySem.Value.str (PySem.Str.ofString "__annotations__") 170, val := PySem.Value.ref 6 }, { hash := PySem.PyData.keyHash P (PySem.Str.ofString "__builtins__"), key := PySem.Value.str (PySem.Str.ofString "__builtins__") 171, val := PySem.Value.ref 4 }, { hash := PySem.PyData.keyHash P (PySem.Str.ofString "__file__"), key := PySem.Value.str (PySem.Str.ofString "__file__") 173, val := PySem.Value.str (PySem.Str.ofString "/claim/cut.py") 172 }, { hash := PySem.PyData.keyHash P (PySem.Str.ofString "__cached__"), key := PySem.Value.str (PySem.Str.ofString "__cached__") 174, val := PySem.Value.none }, { hash := PySem.PyData.keyHash P (PySem.Str.ofString "_wall"), key := PySem.Value.str (PySem.Str.ofString "_wall") 193, val := PySem.Value.ref 21 }, { hash := PySem.PyData.keyHash P (PySem.Str.ofString "PackError"), key := PySem.Value.str (PySem.Str.ofString "PackError") 213, val := PySem.Value.ref 31 }, { hash := PySem.PyData.keyHash P (PySem.Str.ofString "shown"), key := PySem.Value.str (PySem.Str.ofString "shown") 220, val := PySem.Value.ref 41 }, { hash := PySem.PyData.keyHash P (PySem.Str.ofString "need_number"), key := PySem.Value.str (PySem.Str.ofString "need_number") 230, val := PySem.Value.ref 48 }, { hash := PySem.PyData.keyHash P (PySem.Str.ofString "LONGEST"), key := PySem.Value.str (PySem.Str.ofString "LONGEST") 234, val := PySem.Value.int 512 233 }, { hash := PySem.PyData.keyHash P (PySem.Str.ofString "Image"), key := PySem.Value.str (PySem.Str.ofString "Image") 305, val := PySem.Value.ref 96 }, { hash := PySem.PyData.keyHash P (PySem.Str.ofString "blank"), key := PySem.Value.str (PySem.Str.ofString "blank") 312, val := PySem.Value.ref 106 }, { hash := PySem.PyData.keyHash P (PySem.Str.ofString "read_image"), key := PySem.Value.str (PySem.Str.ofString "read_image") 318, val := PySem.Value.ref 111 }, { hash := PySem.PyData.keyHash P (PySem.Str.ofString "_sample"), key := PySem.Value.str (PySem.Str.ofString "_sample") 326, val := PySem.Value.ref 118 }, { hash := PySem.PyData.keyHash P (PySem.Str.ofString "_law_cell"), key := PySem.Value.str (PySem.Str.ofString "_law_cell") 336, val := PySem.Value.ref 125 }, { hash := PySem.PyData.keyHash P (PySem.Str.ofString "law"), key := PySem.Value.str (PySem.Str.ofString "law") 349, val := PySem.Value.ref 132 }] 20 }),
  (6, { cls := PySem.Value.type "dict", data := PySem.Data.dict #[] }),
  (15, { cls := PySem.Value.type "tuple", data := PySem.Data.seq #[] }),
  (17, { cls := PySem.Value.type "tuple", data := PySem.Data.seq #[PySem.Value.str (PySem.Str.ofString "k") 190] }),
  (18, { cls := PySem.Value.type "tuple", data := PySem.Data.seq #[] }),
  (20, { cls := PySem.Value.type "code", data := PySem.Data.fields #[PySem.Value.str (PySem.Str.ofString "_wall") 187, PySem.Value.str (PySem.Str.ofString "_wall") 188, PySem.Value.str (PySem.Str.ofString "/claim/cut.py") 189, PySem.Value.int 1 0, PySem.Value.int 1 0, PySem.Value.int 0 0, PySem.Value.int 0 0, PySem.Value.int 3 0, PySem.Value.ref 15, PySem.Value.bool true, PySem.Value.int 181 0, PySem.Value.ref 16, PySem.Value.none, PySem.Value.ref 17, PySem.Value.ref 18, PySem.Value.ref 19, PySem.Value.int 191 0, PySem.Value.int 1 0, PySem.Value.str (PySem.Str.ofString "/claim/cut.py") 192] }),
  (21, { cls := PySem.Value.type "function", data := PySem.Data.func { name := PySem.Str.ofString "_wall", qualname := PySem.Str.ofString "_wall", params := fP (sAt 0), body := PySem.FuncBody.stmts (fB (sAt 0)), scope := fS (sAt 0), globals := 3, closure := [], defaults := PySem.Value.none, kwdefaults := PySem.Value.none, pyModule := PySem.Value.str (PySem.Str.ofString "__main__") 164, code := PySem.Value.ref 20 } }),
  (22, { cls := PySem.Value.type "tuple", data := PySem.Data.seq #[PySem.Value.type "ValueError"] }),
  (29, { cls := PySem.Value.type "tuple", data := PySem.Data.seq #[] }),
  (30, { cls := PySem.Value.type "dict", data := PySem.Data.dict #[{ hash := PySem.PyData.keyHash P (PySem.Str.ofString "__module__"), key := PySem.Value.str (PySem.Str.ofString "__module__") 203, val := PySem.Value.str (PySem.Str.ofString "lifting.errors") 194 }, { hash := PySem.PyData.keyHash P (PySem.Str.ofString "__firstlineno__"), key := PySem.Value.str (PySem.Str.ofString "__firstlineno__") 207, val := PySem.Value.int 5 206 }, { hash := PySem.PyData.keyHash P (PySem.Str.ofString "__static_attributes__"), key := PySem.Value.str (PySem.Str.ofString "__static_attributes__") 208, val := PySem.Value.ref 29 }, { hash := PySem.PyData.keyHash P (PySem.Str.ofString "__weakref__"), key := PySem.Value.str (PySem.Str.ofString "__weakref__") 210, val := PySem.Value.ref 32 }, { hash := PySem.PyData.keyHash P (PySem.Str.ofString "__doc__"), key := PySem.Value.str (PySem.Str.ofString "__doc__") 211, val := PySem.Value.none }] 3 }),
  (31, { cls := PySem.Value.type "type", data := PySem.Data.cls { name := PySem.Str.ofString "PackError", bases := [PySem.Value.type "ValueError"], mro := [PySem.Value.ref 31, PySem.Value.type "ValueError", PySem.Value.type "Exception", PySem.Value.type "BaseException", PySem.Value.type "object"], ns := 30, qualname := PySem.Str.ofString "PackError" }, slots := #[some (PySem.Value.ref 22), none, some (PySem.Value.str (PySem.Str.ofString "PackError") 196), some (PySem.Value.str (PySem.Str.ofString "PackError") 204), some (PySem.Value.builtin "ValueError.__new__"), some (PySem.Value.bool true)] }),
  (32, { cls := PySem.Value.type "getset_descriptor", data := PySem.Data.fields #[PySem.Value.str (PySem.Str.ofString "__weakref__") 209, PySem.Value.ref 31, PySem.Value.builtin "ExceptionGroup.__weakref__", PySem.Value.none] }),
  (35, { cls := PySem.Value.type "tuple", data := PySem.Data.seq #[] }),
  (37, { cls := PySem.Value.type "tuple", data := PySem.Data.seq #[PySem.Value.str (PySem.Str.ofString "value") 217] }),
  (38, { cls := PySem.Value.type "tuple", data := PySem.Data.seq #[] }),
  (40, { cls := PySem.Value.type "code", data := PySem.Data.fields #[PySem.Value.str (PySem.Str.ofString "shown") 214, PySem.Value.str (PySem.Str.ofString "shown") 215, PySem.Value.str (PySem.Str.ofString "/claim/cut.py") 216, PySem.Value.int 7 0, PySem.Value.int 1 0, PySem.Value.int 0 0, PySem.Value.int 0 0, PySem.Value.int 3 0, PySem.Value.ref 35, PySem.Value.bool true, PySem.Value.int 181 0, PySem.Value.ref 36, PySem.Value.none, PySem.Value.ref 37, PySem.Value.ref 38, PySem.Value.ref 39, PySem.Value.int 218 0, PySem.Value.int 7 0, PySem.Value.str (PySem.Str.ofString "/claim/cut.py") 219] }),
  (41, { cls := PySem.Value.type "function", data := PySem.Data.func { name := PySem.Str.ofString "shown", qualname := PySem.Str.ofString "shown", params := fP (sAt 3), body := PySem.FuncBody.stmts (fB (sAt 3)), scope := fS (sAt 3), globals := 3, closure := [], defaults := PySem.Value.none, kwdefaults := PySem.Value.none, pyModule := PySem.Value.str (PySem.Str.ofString "lifting.errors") 194, code := PySem.Value.ref 40 } }),
  (42, { cls := PySem.Value.type "tuple", data := PySem.Data.seq #[] }),
  (44, { cls := PySem.Value.type "tuple", data := PySem.Data.seq #[PySem.Value.str (PySem.Str.ofString "value") 224, PySem.Value.str (PySem.Str.ofString "least") 225, PySem.Value.str (PySem.Str.ofString "most") 226, PySem.Value.str (PySem.Str.ofString "what") 227] }),
  (45, { cls := PySem.Value.type "tuple", data := PySem.Data.seq #[] }),
  (47, { cls := PySem.Value.type "code", data := PySem.Data.fields #[PySem.Value.str (PySem.Str.ofString "need_number") 221, PySem.Value.str (PySem.Str.ofString "need_number") 222, PySem.Value.str (PySem.Str.ofString "/claim/cut.py") 223, PySem.Value.int 13 0, PySem.Value.int 4 0, PySem.Value.int 0 0, PySem.Value.int 0 0, PySem.Value.int 3 0, PySem.Value.ref 42, PySem.Value.bool true, PySem.Value.int 181 0, PySem.Value.ref 43, PySem.Value.none, PySem.Value.ref 44, PySem.Value.ref 45, PySem.Value.ref 46, PySem.Value.int 228 0, PySem.Value.int 13 0, PySem.Value.str (PySem.Str.ofString "/claim/cut.py") 229] }),
  (48, { cls := PySem.Value.type "function", data := PySem.Data.func { name := PySem.Str.ofString "need_number", qualname := PySem.Str.ofString "need_number", params := fP (sAt 4), body := PySem.FuncBody.stmts (fB (sAt 4)), scope := fS (sAt 4), globals := 3, closure := [], defaults := PySem.Value.none, kwdefaults := PySem.Value.none, pyModule := PySem.Value.str (PySem.Str.ofString "lifting.errors") 194, code := PySem.Value.ref 47 } }),
  (56, { cls := PySem.Value.type "tuple", data := PySem.Data.seq #[] }),
  (59, { cls := PySem.Value.type "code", data := PySem.Data.fields #[PySem.Value.str (PySem.Str.ofString "__init__") 247, PySem.Value.str (PySem.Str.ofString "Image.__init__") 248, PySem.Value.str (PySem.Str.ofString "/claim/cut.py") 249, PySem.Value.int 21 0, PySem.Value.int 2 0, PySem.Value.int 0 0, PySem.Value.int 0 0, PySem.Value.int 3 0, PySem.Value.ref 56, PySem.Value.bool true, PySem.Value.int 181 0, PySem.Value.ref 57, PySem.Value.none, PySem.Value.none, PySem.Value.none, PySem.Value.ref 58, PySem.Value.int 250 0, PySem.Value.int 21 0, PySem.Value.str (PySem.Str.ofString "/claim/cut.py") 251] }),
  (60, { cls := PySem.Value.type "function", data := PySem.Data.func { name := PySem.Str.ofString "__init__", qualname := PySem.Str.ofString "Image.__init__", params := fP (sIn 7 0), body := PySem.FuncBody.stmts (fB (sIn 7 0)), scope := fS (sIn 7 0), globals := 3, closure := [], defaults := PySem.Value.none, kwdefaults := PySem.Value.none, pyModule := PySem.Value.str (PySem.Str.ofString "lifting.images") 231, code := PySem.Value.ref 59 } }),
  (61, { cls := PySem.Value.type "tuple", data := PySem.Data.seq #[] }),
  (63, { cls := PySem.Value.type "tuple", data := PySem.Data.seq #[PySem.Value.str (PySem.Str.ofString "self") 256, PySem.Value.str (PySem.Str.ofString "other") 257] }),
  (64, { cls := PySem.Value.type "tuple", data := PySem.Data.seq #[] }),
  (66, { cls := PySem.Value.type "code", data := PySem.Data.fields #[PySem.Value.str (PySem.Str.ofString "same") 253, PySem.Value.str (PySem.Str.ofString "Image.same") 254, PySem.Value.str (PySem.Str.ofString "/claim/cut.py") 255, PySem.Value.int 41 0, PySem.Value.int 2 0, PySem.Value.int 0 0, PySem.Value.int 0 0, PySem.Value.int 3 0, PySem.Value.ref 61, PySem.Value.bool true, PySem.Value.int 181 0, PySem.Value.ref 62, PySem.Value.none, PySem.Value.ref 63, PySem.Value.ref 64, PySem.Value.ref 65, PySem.Value.int 258 0, PySem.Value.int 41 0, PySem.Value.str (PySem.Str.ofString "/claim/cut.py") 259] }),
  (67, { cls := PySem.Value.type "function", data := PySem.Data.func { name := PySem.Str.ofString "same", qualname := PySem.Str.ofString "Image.same", params := fP (sIn 7 1), body := PySem.FuncBody.stmts (fB (sIn 7 1)), scope := fS (sIn 7 1), globals := 3, closure := [], defaults := PySem.Value.none, kwdefaults := PySem.Value.none, pyModule := PySem.Value.str (PySem.Str.ofString "lifting.images") 231, code := PySem.Value.ref 66 } }),
  (68, { cls := PySem.Value.type "tuple", data := PySem.Data.seq #[] }),
  (70, { cls := PySem.Value.type "tuple", data := PySem.Data.seq #[PySem.Value.str (PySem.Str.ofString "self") 264] }),
  (71, { cls := PySem.Value.type "tuple", data := PySem.Data.seq #[] }),
  (73, { cls := PySem.Value.type "code", data := PySem.Data.fields #[PySem.Value.str (PySem.Str.ofString "count") 261, PySem.Value.str (PySem.Str.ofString "Image.count") 262, PySem.Value.str (PySem.Str.ofString "/claim/cut.py") 263, PySem.Value.int 44 0, PySem.Value.int 1 0, PySem.Value.int 0 0, PySem.Value.int 0 0, PySem.Value.int 3 0, PySem.Value.ref 68, PySem.Value.bool true, PySem.Value.int 181 0, PySem.Value.ref 69, PySem.Value.none, PySem.Value.ref 70, PySem.Value.ref 71, PySem.Value.ref 72, PySem.Value.int 265 0, PySem.Value.int 44 0, PySem.Value.str (PySem.Str.ofString "/claim/cut.py") 266] }),
  (74, { cls := PySem.Value.type "function", data := PySem.Data.func { name := PySem.Str.ofString "count", qualname := PySem.Str.ofString "Image.count", params := fP (sIn 7 2), body := PySem.FuncBody.stmts (fB (sIn 7 2)), scope := fS (sIn 7 2), globals := 3, closure := [], defaults := PySem.Value.none, kwdefaults := PySem.Value.none, pyModule := PySem.Value.str (PySem.Str.ofString "lifting.images") 231, code := PySem.Value.ref 73 } }),
  (75, { cls := PySem.Value.type "tuple", data := PySem.Data.seq #[] }),
  (77, { cls := PySem.Value.type "tuple", data := PySem.Data.seq #[PySem.Value.str (PySem.Str.ofString "self") 271, PySem.Value.str (PySem.Str.ofString "left") 272, PySem.Value.str (PySem.Str.ofString "top") 273, PySem.Value.str (PySem.Str.ofString "width") 274, PySem.Value.str (PySem.Str.ofString "height") 275] }),
  (78, { cls := PySem.Value.type "tuple", data := PySem.Data.seq #[] }),
  (80, { cls := PySem.Value.type "code", data := PySem.Data.fields #[PySem.Value.str (PySem.Str.ofString "crop") 268, PySem.Value.str (PySem.Str.ofString "Image.crop") 269, PySem.Value.str (PySem.Str.ofString "/claim/cut.py") 270, PySem.Value.int 47 0, PySem.Value.int 5 0, PySem.Value.int 0 0, PySem.Value.int 0 0, PySem.Value.int 3 0, PySem.Value.ref 75, PySem.Value.bool true, PySem.Value.int 181 0, PySem.Value.ref 76, PySem.Value.none, PySem.Value.ref 77, PySem.Value.ref 78, PySem.Value.ref 79, PySem.Value.int 276 0, PySem.Value.int 47 0, PySem.Value.str (PySem.Str.ofString "/claim/cut.py") 277] }),
  (81, { cls := PySem.Value.type "function", data := PySem.Data.func { name := PySem.Str.ofString "crop", qualname := PySem.Str.ofString "Image.crop", params := fP (sIn 7 3), body := PySem.FuncBody.stmts (fB (sIn 7 3)), scope := fS (sIn 7 3), globals := 3, closure := [], defaults := PySem.Value.none, kwdefaults := PySem.Value.none, pyModule := PySem.Value.str (PySem.Str.ofString "lifting.images") 231, code := PySem.Value.ref 80 } }),
  (82, { cls := PySem.Value.type "tuple", data := PySem.Data.seq #[] }),
  (84, { cls := PySem.Value.type "tuple", data := PySem.Data.seq #[PySem.Value.str (PySem.Str.ofString "self") 282, PySem.Value.str (PySem.Str.ofString "other") 283, PySem.Value.str (PySem.Str.ofString "left") 284, PySem.Value.str (PySem.Str.ofString "top") 285] }),
  (85, { cls := PySem.Value.type "tuple", data := PySem.Data.seq #[] }),
  (87, { cls := PySem.Value.type "code", data := PySem.Data.fields #[PySem.Value.str (PySem.Str.ofString "paste") 279, PySem.Value.str (PySem.Str.ofString "Image.paste") 280, PySem.Value.str (PySem.Str.ofString "/claim/cut.py") 281, PySem.Value.int 50 0, PySem.Value.int 4 0, PySem.Value.int 0 0, PySem.Value.int 0 0, PySem.Value.int 3 0, PySem.Value.ref 82, PySem.Value.bool true, PySem.Value.int 181 0, PySem.Value.ref 83, PySem.Value.none, PySem.Value.ref 84, PySem.Value.ref 85, PySem.Value.ref 86, PySem.Value.int 286 0, PySem.Value.int 50 0, PySem.Value.str (PySem.Str.ofString "/claim/cut.py") 287] }),
  (88, { cls := PySem.Value.type "function", data := PySem.Data.func { name := PySem.Str.ofString "paste", qualname := PySem.Str.ofString "Image.paste", params := fP (sIn 7 4), body := PySem.FuncBody.stmts (fB (sIn 7 4)), scope := fS (sIn 7 4), globals := 3, closure := [], defaults := PySem.Value.none, kwdefaults := PySem.Value.none, pyModule := PySem.Value.str (PySem.Str.ofString "lifting.images") 231, code := PySem.Value.ref 87 } }),
  (89, { cls := PySem.Value.type "tuple", data := PySem.Data.seq #[] }),
  (92, { cls := PySem.Value.type "code", data := PySem.Data.fields #[PySem.Value.str (PySem.Str.ofString "lines") 289, PySem.Value.str (PySem.Str.ofString "Image.lines") 290, PySem.Value.str (PySem.Str.ofString "/claim/cut.py") 291, PySem.Value.int 53 0, PySem.Value.int 1 0, PySem.Value.int 0 0, PySem.Value.int 0 0, PySem.Value.int 3 0, PySem.Value.ref 89, PySem.Value.bool true, PySem.Value.int 181 0, PySem.Value.ref 90, PySem.Value.none, PySem.Value.none, PySem.Value.none, PySem.Value.ref 91, PySem.Value.int 292 0, PySem.Value.int 53 0, PySem.Value.str (PySem.Str.ofString "/claim/cut.py") 293] }),
  (93, { cls := PySem.Value.type "function", data := PySem.Data.func { name := PySem.Str.ofString "lines", qualname := PySem.Str.ofString "Image.lines", params := fP (sIn 7 5), body := PySem.FuncBody.stmts (fB (sIn 7 5)), scope := fS (sIn 7 5), globals := 3, closure := [], defaults := PySem.Value.none, kwdefaults := PySem.Value.none, pyModule := PySem.Value.str (PySem.Str.ofString "lifting.images") 231, code := PySem.Value.ref 92 } }),
  (94, { cls := PySem.Value.type "tuple", data := PySem.Data.seq #[PySem.Value.str (PySem.Str.ofString "height") 295, PySem.Value.str (PySem.Str.ofString "planes") 296, PySem.Value.str (PySem.Str.ofString "width") 297] }),
  (95, { cls := PySem.Value.type "dict", data := PySem.Data.dict #[{ hash := PySem.PyData.keyHash P (PySem.Str.ofString "__module__"), key := PySem.Value.str (PySem.Str.ofString "__module__") 242, val := PySem.Value.str (PySem.Str.ofString "lifting.images") 231 }, { hash := PySem.PyData.keyHash P (PySem.Str.ofString "__firstlineno__"), key := PySem.Value.str (PySem.Str.ofString "__firstlineno__") 246, val := PySem.Value.int 19 245 }, { hash := PySem.PyData.keyHash P (PySem.Str.ofString "__init__"), key := PySem.Value.str (PySem.Str.ofString "__init__") 252, val := PySem.Value.ref 60 }, { hash := PySem.PyData.keyHash P (PySem.Str.ofString "same"), key := PySem.Value.str (PySem.Str.ofString "same") 260, val := PySem.Value.ref 67 }, { hash := PySem.PyData.keyHash P (PySem.Str.ofString "count"), key := PySem.Value.str (PySem.Str.ofString "count") 267, val := PySem.Value.ref 74 }, { hash := PySem.PyData.keyHash P (PySem.Str.ofString "crop"), key := PySem.Value.str (PySem.Str.ofString "crop") 278, val := PySem.Value.ref 81 }, { hash := PySem.PyData.keyHash P (PySem.Str.ofString "paste"), key := PySem.Value.str (PySem.Str.ofString "paste") 288, val := PySem.Value.ref 88 }, { hash := PySem.PyData.keyHash P (PySem.Str.ofString "lines"), key := PySem.Value.str (PySem.Str.ofString "lines") 294, val := PySem.Value.ref 93 }, { hash := PySem.PyData.keyHash P (PySem.Str.ofString "__static_attributes__"), key := PySem.Value.str (PySem.Str.ofString "__static_attributes__") 298, val := PySem.Value.ref 94 }, { hash := PySem.PyData.keyHash P (PySem.Str.ofString "__dict__"), key := PySem.Value.str (PySem.Str.ofString "__dict__") 300, val := PySem.Value.ref 97 }, { hash := PySem.PyData.keyHash P (PySem.Str.ofString "__weakref__"), key := PySem.Value.str (PySem.Str.ofString "__weakref__") 302, val := PySem.Value.ref 98 }, { hash := PySem.PyData.keyHash P (PySem.Str.ofString "__doc__"), key := PySem.Value.str (PySem.Str.ofString "__doc__") 303, val := PySem.Value.none }] 4 }),
  (96, { cls := PySem.Value.type "type", data := PySem.Data.cls { name := PySem.Str.ofString "Image", bases := [PySem.Value.type "object"], mro := [PySem.Value.ref 96, PySem.Value.type "object"], ns := 95, qualname := PySem.Str.ofString "Image" }, slots := #[none, none, some (PySem.Value.str (PySem.Str.ofString "Image") 235), some (PySem.Value.str (PySem.Str.ofString "Image") 243), some (PySem.Value.builtin "object.__new__"), some (PySem.Value.bool true)] }),
  (97, { cls := PySem.Value.type "getset_descriptor", data := PySem.Data.fields #[PySem.Value.str (PySem.Str.ofString "__dict__") 299, PySem.Value.ref 96, PySem.Value.builtin "function.__dict__", PySem.Value.builtin "function.__dict__#set"] }),
  (98, { cls := PySem.Value.type "getset_descriptor", data := PySem.Data.fields #[PySem.Value.str (PySem.Str.ofString "__weakref__") 301, PySem.Value.ref 96, PySem.Value.builtin "ExceptionGroup.__weakref__", PySem.Value.none] }),
  (101, { cls := PySem.Value.type "tuple", data := PySem.Data.seq #[PySem.Value.int 0 306] }),
  (102, { cls := PySem.Value.type "tuple", data := PySem.Data.seq #[] }),
  (105, { cls := PySem.Value.type "code", data := PySem.Data.fields #[PySem.Value.str (PySem.Str.ofString "blank") 307, PySem.Value.str (PySem.Str.ofString "blank") 308, PySem.Value.str (PySem.Str.ofString "/claim/cut.py") 309, PySem.Value.int 59 0, PySem.Value.int 4 0, PySem.Value.int 0 0, PySem.Value.int 0 0, PySem.Value.int 3 0, PySem.Value.ref 102, PySem.Value.bool true, PySem.Value.int 181 0, PySem.Value.ref 103, PySem.Value.none, PySem.Value.none, PySem.Value.none, PySem.Value.ref 104, PySem.Value.int 310 0, PySem.Value.int 59 0, PySem.Value.str (PySem.Str.ofString "/claim/cut.py") 311] }),
  (106, { cls := PySem.Value.type "function", data := PySem.Data.func { name := PySem.Str.ofString "blank", qualname := PySem.Str.ofString "blank", params := fP (sAt 8), body := PySem.FuncBody.stmts (fB (sAt 8)), scope := fS (sAt 8), globals := 3, closure := [], defaults := PySem.Value.ref 101, kwdefaults := PySem.Value.none, pyModule := PySem.Value.str (PySem.Str.ofString "lifting.images") 231, code := PySem.Value.ref 105 } }),
  (107, { cls := PySem.Value.type "tuple", data := PySem.Data.seq #[] }),
  (110, { cls := PySem.Value.type "code", data := PySem.Data.fields #[PySem.Value.str (PySem.Str.ofString "read_image") 313, PySem.Value.str (PySem.Str.ofString "read_image") 314, PySem.Value.str (PySem.Str.ofString "/claim/cut.py") 315, PySem.Value.int 65 0, PySem.Value.int 1 0, PySem.Value.int 0 0, PySem.Value.int 0 0, PySem.Value.int 3 0, PySem.Value.ref 107, PySem.Value.bool true, PySem.Value.int 181 0, PySem.Value.ref 108, PySem.Value.none, PySem.Value.none, PySem.Value.none, PySem.Value.ref 109, PySem.Value.int 316 0, PySem.Value.int 65 0, PySem.Value.str (PySem.Str.ofString "/claim/cut.py") 317] }),
  (111, { cls := PySem.Value.type "function", data := PySem.Data.func { name := PySem.Str.ofString "read_image", qualname := PySem.Str.ofString "read_image", params := fP (sAt 9), body := PySem.FuncBody.stmts (fB (sAt 9)), scope := fS (sAt 9), globals := 3, closure := [], defaults := PySem.Value.none, kwdefaults := PySem.Value.none, pyModule := PySem.Value.str (PySem.Str.ofString "lifting.images") 231, code := PySem.Value.ref 110 } }),
  (112, { cls := PySem.Value.type "tuple", data := PySem.Data.seq #[] }),
  (114, { cls := PySem.Value.type "tuple", data := PySem.Data.seq #[PySem.Value.str (PySem.Str.ofString "word") 322, PySem.Value.str (PySem.Str.ofString "sign") 323] }),
  (115, { cls := PySem.Value.type "tuple", data := PySem.Data.seq #[] }),
  (117, { cls := PySem.Value.type "code", data := PySem.Data.fields #[PySem.Value.str (PySem.Str.ofString "_sample") 319, PySem.Value.str (PySem.Str.ofString "_sample") 320, PySem.Value.str (PySem.Str.ofString "/claim/cut.py") 321, PySem.Value.int 79 0, PySem.Value.int 1 0, PySem.Value.int 0 0, PySem.Value.int 0 0, PySem.Value.int 3 0, PySem.Value.ref 112, PySem.Value.bool true, PySem.Value.int 181 0, PySem.Value.ref 113, PySem.Value.none, PySem.Value.ref 114, PySem.Value.ref 115, PySem.Value.ref 116, PySem.Value.int 324 0, PySem.Value.int 79 0, PySem.Value.str (PySem.Str.ofString "/claim/cut.py") 325] }),
  (118, { cls := PySem.Value.type "function", data := PySem.Data.func { name := PySem.Str.ofString "_sample", qualname := PySem.Str.ofString "_sample", params := fP (sAt 10), body := PySem.FuncBody.stmts (fB (sAt 10)), scope := fS (sAt 10), globals := 3, closure := [], defaults := PySem.Value.none, kwdefaults := PySem.Value.none, pyModule := PySem.Value.str (PySem.Str.ofString "lifting.images") 231, code := PySem.Value.ref 117 } }),
  (119, { cls := PySem.Value.type "tuple", data := PySem.Data.seq #[] }),
  (121, { cls := PySem.Value.type "tuple", data := PySem.Data.seq #[PySem.Value.str (PySem.Str.ofString "script") 332, PySem.Value.str (PySem.Str.ofString "k") 333] }),
  (122, { cls := PySem.Value.type "tuple", data := PySem.Data.seq #[] }),
  (124, { cls := PySem.Value.type "code", data := PySem.Data.fields #[PySem.Value.str (PySem.Str.ofString "_law_cell") 329, PySem.Value.str (PySem.Str.ofString "_law_cell") 330, PySem.Value.str (PySem.Str.ofString "/claim/cut.py") 331, PySem.Value.int 87 0, PySem.Value.int 2 0, PySem.Value.int 0 0, PySem.Value.int 0 0, PySem.Value.int 3 0, PySem.Value.ref 119, PySem.Value.bool true, PySem.Value.int 181 0, PySem.Value.ref 120, PySem.Value.none, PySem.Value.ref 121, PySem.Value.ref 122, PySem.Value.ref 123, PySem.Value.int 334 0, PySem.Value.int 87 0, PySem.Value.str (PySem.Str.ofString "/claim/cut.py") 335] }),
  (125, { cls := PySem.Value.type "function", data := PySem.Data.func { name := PySem.Str.ofString "_law_cell", qualname := PySem.Str.ofString "_law_cell", params := fP (sAt 12), body := PySem.FuncBody.stmts (fB (sAt 12)), scope := fS (sAt 12), globals := 3, closure := [], defaults := PySem.Value.none, kwdefaults := PySem.Value.none, pyModule := PySem.Value.str (PySem.Str.ofString "law_ui0502_10") 327, code := PySem.Value.ref 124 } }),
  (126, { cls := PySem.Value.type "tuple", data := PySem.Data.seq #[] }),
  (128, { cls := PySem.Value.type "tuple", data := PySem.Data.seq #[PySem.Value.str (PySem.Str.ofString "script") 340, PySem.Value.str (PySem.Str.ofString "kind") 341, PySem.Value.str (PySem.Str.ofString "more") 342, PySem.Value.str (PySem.Str.ofString "sample") 343, PySem.Value.str (PySem.Str.ofString "why") 344, PySem.Value.str (PySem.Str.ofString "image") 345, PySem.Value.str (PySem.Str.ofString "due") 346] }),
  (129, { cls := PySem.Value.type "tuple", data := PySem.Data.seq #[] }),
  (131, { cls := PySem.Value.type "code", data := PySem.Data.fields #[PySem.Value.str (PySem.Str.ofString "law") 337, PySem.Value.str (PySem.Str.ofString "law") 338, PySem.Value.str (PySem.Str.ofString "/claim/cut.py") 339, PySem.Value.int 91 0, PySem.Value.int 1 0, PySem.Value.int 0 0, PySem.Value.int 0 0, PySem.Value.int 3 0, PySem.Value.ref 126, PySem.Value.bool true, PySem.Value.int 181 0, PySem.Value.ref 127, PySem.Value.none, PySem.Value.ref 128, PySem.Value.ref 129, PySem.Value.ref 130, PySem.Value.int 347 0, PySem.Value.int 91 0, PySem.Value.str (PySem.Str.ofString "/claim/cut.py") 348] }),
  (132, { cls := PySem.Value.type "function", data := PySem.Data.func { name := PySem.Str.ofString "law", qualname := PySem.Str.ofString "law", params := fP (sAt 13), body := PySem.FuncBody.stmts (fB (sAt 13)), scope := fS (sAt 13), globals := 3, closure := [], defaults := PySem.Value.none, kwdefaults := PySem.Value.none, pyModule := PySem.Value.str (PySem.Str.ofString "law_ui0502_10") 327, code := PySem.Value.ref 131 } })]
noncomputable def hd.view : Program := { PySem.Challenge.pw_ui0502_10 with main := { PySem.Challenge.pw_ui0502_10.main with body := [0, 2, 3, 4, 6, 7, 9, 10, 12, 13].filterMap (PySem.Challenge.pw_ui0502_10.main.body[·]?) } }
noncomputable def hd.as : List Addr := [2, 3, 6, 15, 17, 18, 20, 21, 22, 29, 30, 31, 32, 35, 37, 38, 40, 41, 42, 44, 45, 47, 48, 56, 59, 60, 61, 63, 64, 66, 67, 68, 70, 71, 73, 74, 75, 77, 78, 80, 81, 82, 84, 85, 87, 88, 89, 92, 93, 94, 95, 96, 97, 98, 101, 102, 105, 106, 107, 110, 111, 112, 114, 115, 117, 118, 119, 121, 122, 124, 125, 126, 128, 129, 131, 132]
noncomputable def hd.hook : Hook := kHook hd.heap_39 hd.as (fun _ => by kernel_rfl)
theorem hd.left : LeftO PySem.Challenge.rw_ui0502_10.row.prog hd.view [Str.ofString "blank"] (fun s => xlAt hd.view [] s && recOk (RowW.records PySem.Challenge.rw_ui0502_10.row.toRowW) s) (Hook.obs hd.hook) (Hook.val hd.hook) 1808 := fun w => by kernel_rfl
theorem hd.said : PySem.Challenge.rw_ui0502_10.wellSaid = true := by kernel_rfl
noncomputable def hd.rec : DefRec := ⟨Str.ofString "law", fP (sAt 13), fB (sAt 13), fS (sAt 13), (sAt 13).pos⟩
theorem hd.all (h : WalkO hd.view [Str.ofString "blank"] (XL hd.view []) (Hook.says hd.hook) PySem.Challenge.rw_ui0502_10.row.toRowW hd.rec [] fun f vs => PySem.call f vs) : PySem.Challenge.rw_ui0502_10.Holds := by
  refine holds_law hd.said fun said => ?_
  refine holds_open (q := hd.view) (loose := [Str.ofString "blank"]) (Xt := fun s => xlAt hd.view [] s && recOk (RowW.records PySem.Challenge.rw_ui0502_10.row.toRowW) s) (XP := XL hd.view []) (Yf := Hook.obs hd.hook) (Ya := Hook.val hd.hook) (YP := Hook.says hd.hook) (N := 1808) (d := hd.rec) (kwd := []) hd.left (Hook.of hd.hook) (Hook.keeps hd.hook) (fun s e => xl_of s (Bool.and_eq_true_iff.mp e).1) XL.keeps (by kernel_rfl) (by kernel_rfl) (by kernel_rfl) (fun s e => recFacts_of (Bool.and_eq_true_iff.mp e).2) (by kernel_rfl) said (by decide +kernel) ⟨rfl, rfl, rfl, rfl, rfl, by decide +kernel⟩ ?hw h
  case hw => w_witness2
end
local macro_rules | `(tactic| walk_at "mem") => `(tactic| (with_reducible first | exact List.mem_cons_self | (refine List.mem_cons_of_mem _ ?_; walk_at "mem")))
local macro_rules | `(tactic| walk_at "up") => `(tactic| (with_reducible first | exact Up.head | (apply Up.tail; walk_at "up")))
local macro_rules | `(tactic| walk_at "w") => `(tactic| first
  | refine Thn_next ?_ | refine Thn_ret ?_ | refine Thn_brk ?_ | refine Thn_cont ?_ | refine LoopPost_next ?_ | refine LoopPost_ret ?_ | refine LoopPost_brk ?_ | refine LoopPost_cont ?_ | refine WSs_cons ?_ | refine WSs_nil ?_
  | (apply WE_name; focus (walk_at "mem")) | refine WE_int ?_
  | refine WL_nil ?_ | refine WL_cons ?_
  | refine WS_assign ?_ | refine WS_return ?_ | refine WS_expr ?_ | refine WS_if ?_ | refine WS_assign_tuple ?_ | refine WS_pass ?_ | refine WS_break ?_ | refine WS_continue ?_
  | refine WE_str ?_ | refine WE_none ?_ | refine WE_bool ?_
  | refine WE_BinOp ?_ | refine WE_UnaryOp ?_ | refine WE_Compare1 ?_ | refine WB_Compare1 ?_ | refine WB_Compare2 ?_ | refine WB_Not ?_ | refine WE_IfExp ?_ | refine WE_one ?_ | refine WE_and ?_ | refine WE_or ?_ | refine WIf_nil ?_ | refine WIf_true ?_ | refine WIf_false ?_ | refine WB_and ?_ | refine WB_or ?_ | refine WB_and_nil ?_ | refine WB_or_nil ?_
  | refine WE_menuX ?_ | refine WO_none ?_ | refine WO_some ?_ | refine exInt ?_ | refine WE_List ?_ | refine WE_Tuple ?_ | refine WE_Sub ?_
  | refine add_ii ?_ | refine sub_ii ?_ | refine lt_ii ?_ | refine gt_ii ?_ | refine le_ii ?_ | refine ge_ii ?_ | refine eq_ii ?_ | refine ne_ii ?_ | refine eq_ss ?_ | refine ne_ss ?_ | refine neg_i ?_ | (apply mod_ii; focus decide) | (apply fdiv_lit; focus decide)
  | refine WTr_bool ?_ | refine WAsL_nil ?_ | refine WAsL_cons ?_ | (apply WAs_name; focus (walk_at "up")) | (apply exUp; focus (walk_at "up")) | refine szAnd ?_
  | (apply ite_t; focus decide) | (apply ite_f; focus decide))
local macro_rules | `(tactic| walk_at "ww") => `(tactic| repeat walk_at "w")
local macro_rules | `(tactic| walk_at "ob") => `(tactic| first | assumption | exact ObjAt.new rfl | (refine ObjAt.up ?_; walk_at "ob"))
local macro_rules | `(tactic| walk_at "len") => `(tactic| (refine WE_call (by walk_at "mem") callable_builtin ?_; walk_at "ww"; refine WC_len (by walk_at "ob") (by simp; omega) ?_; walk_at "ww"))
local macro_rules | `(tactic| walk_at "x") => `(tactic| first | refine WE_head ?_ | walk_at "w" | refine ThR_next ?_ | refine WS_setattr ?_ | refine WE_attr ?_ | refine WS_setslice ?_ | refine WS_setitem ?_)
local macro_rules | `(tactic| walk_at "xx") => `(tactic| repeat walk_at "x")
def topObjs : List (Addr × O) := []
theorem topObjs_ok {P : Params} {h : Heap} (K : (hd.heap_39 P).In h) : ∀ b o, (b, o) ∈ topObjs → GO P h b o := fun _ _ hb => nomatch hb
def lawGlo : List (Str × Value) := [(Str.ofString "len", Value.builtin "len"), (Str.ofString "range", Value.type "range"), (Str.ofString "list", Value.type "list"), (Str.ofString "str", Value.type "str"), (Str.ofString "int", Value.type "int"), (Str.ofString "type", Value.type "type"), (Str.ofString "PackError", Value.ref 31), (Str.ofString "shown", Value.ref 41), (Str.ofString "need_number", Value.ref 48), (Str.ofString "LONGEST", Value.int 512 233), (Str.ofString "Image", Value.ref 96), (Str.ofString "blank", Value.ref 106), (Str.ofString "read_image", Value.ref 111), (Str.ofString "_sample", Value.ref 118), (Str.ofString "_law_cell", Value.ref 125)]
/-- the facts of this law's top -/
structure Law (C : Cx) : Prop where
  K : (hd.heap_39 C.w.params).In C.G
  top : ∀ x ∈ topObjs, x ∈ C.gob
  glo : ∀ x v, (x, v) ∈ lawGlo → C.mg x = some v ∨ (C.mg x = none ∧ C.mb x = some v)
  exc : OwnCls (Str.ofString "PackError") 31 [.type "ValueError", .type "Exception", .type "BaseException", .type "object"] "ValueError.__new__" C.mg C.G
theorem Law.wg {C : Cx} (c : Law C) (l : List (Str × Value)) : Law (C.wg l) := ⟨c.K, c.top, c.glo, c.exc⟩
theorem Law.c31 {C : Cx} (c : Law C) : Callable C (.ref 31) := callable_K c.K (by kernel_rfl)
theorem Law.c41 {C : Cx} (c : Law C) : Callable C (.ref 41) := callable_K c.K (by kernel_rfl)
theorem Law.c48 {C : Cx} (c : Law C) : Callable C (.ref 48) := callable_K c.K (by kernel_rfl)
theorem Law.c96 {C : Cx} (c : Law C) : Callable C (.ref 96) := callable_K c.K (by kernel_rfl)
theorem Law.c106 {C : Cx} (c : Law C) : Callable C (.ref 106) := callable_K c.K (by kernel_rfl)
theorem Law.c111 {C : Cx} (c : Law C) : Callable C (.ref 111) := callable_K c.K (by kernel_rfl)
theorem Law.c118 {C : Cx} (c : Law C) : Callable C (.ref 118) := callable_K c.K (by kernel_rfl)
theorem Law.c125 {C : Cx} (c : Law C) : Callable C (.ref 125) := callable_K c.K (by kernel_rfl)
theorem cell_spec {C : Cx} {A : Around} {σ : AH} {E : EX} {Q : V → AH → Prop} {a : Addr} {ns : List Int} {k : Int} (c : Law C) (hd : A.depth < recursionLimit) (hg : (a, O.list (ns.map .int)) ∈ C.gob) (hl : ns.length ≤ 63) (hk : 0 ≤ k) (hq : Q (.int (ns.getD k.toNat 0)) σ) : WC C A (.ref 125) [.k (.ref a), .int k] σ Q E := by
  refine WC_def (pn := [Str.ofString "script", Str.ofString "k"]) (ln := []) (gl := [(Str.ofString "len", Value.builtin "len")]) (dv := []) (ds := []) (c.K _ _ rfl) rfl (codeRec_of c.K (by kernel_rfl)) (by first | assumption | omega | exact Nat.le_of_ble_eq_true rfl) .nil rfl (fun x v h => c.glo x v ((show ∀ p ∈ ([(Str.ofString "len", Value.builtin "len")] : List (Str × Value)), p ∈ lawGlo by decide +kernel) (x, v) h)) ?_ (by decide +kernel) (by decide +kernel) (by decide +kernel) (by decide +kernel) ?_
  · intro s xs hkp hl
    obtain ⟨x0, x1, rfl⟩ := len2 hl
    first | exact BindsTo.of_eq rfl | exact BindsTo.of_defaults rfl (hkp _ _ (c.K _ _ rfl)) rfl rfl rfl
  intro env henv
  replace c := c.wg [(Str.ofString "len", Value.builtin "len")]
  show WSs (C.wg [(Str.ofString "len", Value.builtin "len")]) _ _ _ [(Str.ofString "script", some (.k (.ref a))), (Str.ofString "k", some (.int k))] _ _ _
  walk_at "ww"
  refine WE_call (by walk_at "mem") callable_builtin ?_
  walk_at "ww"
  refine WC_len (show ObjAt _ _ (.k (.ref a)) _ from hg) (by simp; omega) ?_
  walk_at "ww"
  refine ite_b (fun hb => ?_) fun hb => ?_
  · have hb' := of_decide_eq_true hb
    simp only [List.length_map] at hb'
    have hi : k.toNat < ns.length := by omega
    walk_at "ww"
    refine item_list (x := .int (ns.getD k.toNat 0)) (show ObjAt _ _ (.k (.ref a)) _ from hg) hk (by omega) (by simp [List.getD, hi]) ?_
    walk_at "ww"
    exact hq
  · have hb' := of_decide_eq_false hb
    simp only [List.length_map] at hb'
    have e : ns.getD k.toNat 0 = 0 := by rw [List.getD, List.getElem?_eq_none (by omega)]; rfl
    walk_at "ww"
    rw [e] at hq
    exact hq
theorem Law.m {C : Cx} (c : Law C) (i : Nat) {p : Addr × O} (h : topObjs[i]? = some p) : p ∈ C.gob := c.top _ (List.mem_of_getElem? h)
theorem clsI {P : Params} : ClsOk (hd.heap_39 P) 96 := ⟨by kernel_rfl, by kernel_rfl, by kernel_rfl, by kernel_rfl, by kernel_rfl, by kernel_rfl⟩
abbrev Pln := Nat → Nat → List Int
def oRow (r : List Int) : O := .list (r.map .int)
def planeBlk (B : Nat) (rows : Nat → List Int) (H : Nat) : AH := (List.range H).map (fun j => oRow (rows j)) ++ [.list ((List.range H).map fun j => .ref (B + j))]
theorem planeBlk_len {B H : Nat} {rows : Nat → List Int} : (planeBlk B rows H).length = H + 1 := by simp [planeBlk]
def planesBlk (B : Nat) (P : Pln) (H : Nat) : Nat → AH
  | 0 => []
  | n + 1 => planesBlk B P H n ++ planeBlk (B + n * (H + 1)) (P n) H
theorem planesBlk_len {B H : Nat} {P : Pln} : ∀ n, (planesBlk B P H n).length = n * (H + 1)
  | 0 => by simp [planesBlk]
  | n + 1 => by rw [planesBlk, List.length_append, planesBlk_len n, planeBlk_len, Nat.add_mul, Nat.one_mul]
theorem blk_row {B H : Nat} {P : Pln} : ∀ {n k j : Nat}, k < n → j < H → (planesBlk B P H n)[k * (H + 1) + j]? = some (oRow (P k j))
  | n + 1, k, j, hk, hj => by
    rw [planesBlk]
    by_cases h : k < n
    · have hlt : k * (H + 1) + j < (planesBlk B P H n).length := by
        rw [planesBlk_len]
        have : (k + 1) * (H + 1) ≤ n * (H + 1) := Nat.mul_le_mul_right _ h
        rw [Nat.add_mul] at this; omega
      rw [List.getElem?_append_left hlt]; exact blk_row h hj
    · have : k = n := by omega
      subst this
      rw [List.getElem?_append_right (by rw [planesBlk_len]; omega), planesBlk_len, Nat.add_sub_cancel_left, planeBlk, List.getElem?_append_left (by simpa using hj)]
      simp [hj]
theorem blk_pl {B H : Nat} {P : Pln} : ∀ {n k : Nat}, k < n → (planesBlk B P H n)[k * (H + 1) + H]? = some (.list ((List.range H).map fun j => .ref (B + k * (H + 1) + j)))
  | n + 1, k, hk => by
    rw [planesBlk]
    by_cases h : k < n
    · have hlt : k * (H + 1) + H < (planesBlk B P H n).length := by
        rw [planesBlk_len]
        have : (k + 1) * (H + 1) ≤ n * (H + 1) := Nat.mul_le_mul_right _ h
        rw [Nat.add_mul] at this; omega
      rw [List.getElem?_append_left hlt]; exact blk_pl h
    · have : k = n := by omega
      subst this
      rw [List.getElem?_append_right (by rw [planesBlk_len]; omega), planesBlk_len, Nat.add_sub_cancel_left, planeBlk, List.getElem?_append_right (by simp)]
      simp
/-- planes to be read -/
structure PlAt (C : Cx) (σ : AH) (v : V) (P : Pln) (N H : Nat) : Prop where
  ex : ∃ (pv : Nat → V) (rv : Nat → Nat → V), ObjAt C σ v (.list ((List.range N).map pv)) ∧ (∀ k, k < N → ObjAt C σ (pv k) (.list ((List.range H).map (rv k)))) ∧ ∀ k j, k < N → j < H → ObjAt C σ (rv k j) (oRow (P k j))
theorem PlAt.up {C : Cx} {σ J : AH} {v : V} {P : Pln} {N H : Nat} (h : PlAt C σ v P N H) : PlAt C (σ ++ J) v P N H :=
  let ⟨pv, rv, h1, h2, h3⟩ := h.ex
  ⟨pv, rv, h1.up, fun k hk => (h2 k hk).up, fun k j hk hj => (h3 k j hk hj).up⟩
/-- an image: its dict at b, the instance at b + 1, its rows from b + 2 on -/
structure ImgAt (σ : AH) (b : Nat) (P : Pln) (N H W : Nat) : Prop where
  ns : σ[b]? = some (.ns [(Str.ofString "planes", .ref (b + 2 + N * (H + 1))), (Str.ofString "height", .int H), (Str.ofString "width", .int W)])
  inst : σ[b + 1]? = some (.inst 96 b)
  top : σ[b + 2 + N * (H + 1)]? = some (.list ((List.range N).map fun k => .ref (b + 2 + k * (H + 1) + H)))
  pl : ∀ k, k < N → σ[b + 2 + k * (H + 1) + H]? = some (.list ((List.range H).map fun j => .ref (b + 2 + k * (H + 1) + j)))
  row : ∀ k j, k < N → j < H → σ[b + 2 + k * (H + 1) + j]? = some (oRow (P k j))
theorem ImgAt.planes {C : Cx} {σ : AH} {b : Nat} {P : Pln} {N H W : Nat} (h : ImgAt σ b P N H W) : PlAt C σ (.ref (b + 2 + N * (H + 1))) P N H :=
  ⟨fun k => .ref (b + 2 + k * (H + 1) + H), fun k j => .ref (b + 2 + k * (H + 1) + j), h.top, h.pl, h.row⟩
theorem gl_up {σ J : AH} {i : Nat} {o : O} (h : σ[i]? = some o) : (σ ++ J)[i]? = some o := by
  rw [List.getElem?_append_left (List.getElem?_eq_some_iff.mp h).1]; exact h
theorem ImgAt.up {σ J : AH} {b : Nat} {P : Pln} {N H W : Nat} (h : ImgAt σ b P N H W) : ImgAt (σ ++ J) b P N H W :=
  ⟨gl_up h.ns, gl_up h.inst, gl_up h.top, fun k hk => gl_up (h.pl k hk), fun k j hk hj => gl_up (h.row k j hk hj)⟩
def rowD (r : List Int) : PyData := .list (r.map .int)
def imgD (P : Pln) (N H : Nat) : PyData := .list ((List.range N).map fun k => .list ((List.range H).map fun j => rowD (P k j)))
theorem PlAt.rd {C : Cx} {σ : AH} {v : V} {P : Pln} {N H : Nat} (h : PlAt C σ v P N H) : Rd C σ v (imgD P N H) :=
  let ⟨_, _, h1, h2, h3⟩ := h.ex
  .list h1 (RdAll.range fun k hk => .list (h2 k hk) (RdAll.range fun j hj => Rd.lst (h3 k j hk hj)))
theorem PlAt.of {C : Cx} {σ : AH} {v : V} {P : Pln} {N H : Nat} (h : Rd C σ v (imgD P N H)) : PlAt C σ v P N H := by
  obtain ⟨xs, o, r⟩ := h.list_inv
  obtain ⟨pv, rfl, hp⟩ := r.range_inv
  have : ∀ k, ∃ f : Nat → V, k < N → ObjAt C σ (pv k) (.list ((List.range H).map f)) ∧ ∀ j, j < H → ObjAt C σ (f j) (oRow (P k j)) := by
    intro k
    by_cases hk : k < N
    · obtain ⟨ys, o', r'⟩ := (hp k hk).list_inv
      obtain ⟨f, rfl, hf⟩ := r'.range_inv
      exact ⟨f, fun _ => ⟨o', fun j hj => (hf j hj).ints_inv⟩⟩
    · exact ⟨fun _ => .none, fun h => absurd h hk⟩
  refine ⟨pv, fun k => (this k).choose, o, fun k hk => ((this k).choose_spec hk).1, fun k j hk hj => ((this k).choose_spec hk).2 j hj⟩
theorem imgD_congr {P P' : Pln} {N H : Nat} (h : ∀ k j, k < N → j < H → P k j = P' k j) : imgD P N H = imgD P' N H := by
  unfold imgD
  congr 1
  refine List.map_congr_left fun k hk => ?_
  congr 1
  refine List.map_congr_left fun j hj => ?_
  rw [h k j (List.mem_range.mp hk) (List.mem_range.mp hj)]
theorem eqv_all {ds : List PyData} (h : ∀ d ∈ ds, PyData.eqv d d = true) : PyData.eqvAll ds ds = true := by
  induction ds with
  | nil => rfl
  | cons d r ih =>
    have h1 := h d (.head _)
    have h2 := ih fun d hd => h d (.tail _ hd)
    simp [PyData.eqvAll, h1, h2]
theorem imgD_eqv {P : Pln} {N H : Nat} : PyData.eqv (imgD P N H) (imgD P N H) = true := by
  show PyData.eqvAll _ _ = true
  refine eqv_all fun d hd => ?_
  obtain ⟨k, hk, rfl⟩ := List.mem_map.mp hd
  show PyData.eqvAll _ _ = true
  refine eqv_all fun d hd => ?_
  obtain ⟨j, hj, rfl⟩ := List.mem_map.mp hd
  exact eqv_ints _
theorem canLay_all {ds : List PyData} (h : ∀ d ∈ ds, PyData.canLay0 d = true) : PyData.canLayAll0 ds = true := by
  induction ds with
  | nil => rfl
  | cons d r ih =>
    have h1 := h d (.head _)
    have h2 := ih fun d hd => h d (.tail _ hd)
    simp [PyData.canLayAll0, h1, h2]
theorem depth_all {ds : List PyData} {n : Nat} (h : ∀ d ∈ ds, PyData.depth d ≤ n) : PyData.depthAll ds ≤ n := by
  induction ds with
  | nil => simp [PyData.depthAll]
  | cons d r ih =>
    have h1 := h d (.head _)
    have h2 := ih fun d hd => h d (.tail _ hd)
    simp [PyData.depthAll]; omega
theorem imgD_shaped {P : Pln} {N H : Nat} : SeqAt.shaped (imgD P N H) = true := by
  have l1 : ∀ r, PyData.canLay0 (rowD r) = true := fun r => by simp [rowD, PyData.canLay0, canLay_ints]
  have l2 : ∀ k, PyData.canLay0 (.list ((List.range H).map fun j => rowD (P k j))) = true := fun k => by
    rw [PyData.canLay0]
    exact canLay_all fun d hd => by obtain ⟨j, _, rfl⟩ := List.mem_map.mp hd; exact l1 _
  have d1 : ∀ r, PyData.depth (rowD r) ≤ 2 := fun r => by have := depth_ints r; simp [rowD, PyData.depth]; omega
  have d2 : ∀ k, PyData.depth (.list ((List.range H).map fun j => rowD (P k j))) ≤ 3 := fun k => by
    have := depth_all (ds := (List.range H).map fun j => rowD (P k j)) (n := 2) (fun d hd => by obtain ⟨j, _, rfl⟩ := List.mem_map.mp hd; exact d1 _)
    simp [PyData.depth]; omega
  have d3 := depth_all (ds := (List.range N).map fun k => .list ((List.range H).map fun j => rowD (P k j))) (n := 3) (fun d hd => by obtain ⟨j, _, rfl⟩ := List.mem_map.mp hd; exact d2 _)
  have l3 := canLay_all (ds := (List.range N).map fun k => .list ((List.range H).map fun j => rowD (P k j))) (fun d hd => by obtain ⟨j, _, rfl⟩ := List.mem_map.mp hd; exact l2 _)
  unfold imgD
  simp only [SeqAt.shaped, PyData.canLay0, PyData.depth, l3, Bool.true_and]
  first | (simp; omega) | omega
theorem blk_inj {H k k' j j' : Nat} (h : k * (H + 1) + j = k' * (H + 1) + j') (hj : j ≤ H) (hj' : j' ≤ H) : k = k' ∧ j = j' := by
  have e : k = k' := by
    have a1 : (k * (H + 1) + j) / (H + 1) = k := by rw [Nat.mul_comm, Nat.mul_add_div (by omega), Nat.div_eq_of_lt (by omega)]; rfl
    have a2 : (k' * (H + 1) + j') / (H + 1) = k' := by rw [Nat.mul_comm, Nat.mul_add_div (by omega), Nat.div_eq_of_lt (by omega)]; rfl
    rw [← a1, ← a2, h]
  subst e; exact ⟨rfl, by omega⟩
theorem blk_lt {H N k j : Nat} (hk : k < N) (hj : j ≤ H) : k * (H + 1) + j < N * (H + 1) := by
  have : (k + 1) * (H + 1) ≤ N * (H + 1) := Nat.mul_le_mul_right _ hk
  rw [Nat.add_mul] at this; omega
def imgEnd (b N H : Nat) : Nat := b + 3 + N * (H + 1)
theorem ImgAt.frame {σ σ' : AH} {b : Nat} {P : Pln} {N H W : Nat} (h : ImgAt σ b P N H W) (hf : ∀ i, b ≤ i → i < imgEnd b N H → σ'[i]? = σ[i]?) : ImgAt σ' b P N H W := by
  unfold imgEnd at hf
  refine ⟨(hf _ (by omega) (by omega)).trans h.ns, (hf _ (by omega) (by omega)).trans h.inst, (hf _ (by omega) (by omega)).trans h.top, fun k hk => ?_, fun k j hk hj => ?_⟩
  · have := blk_lt hk (Nat.le_refl H)
    exact (hf _ (by omega) (by omega)).trans (h.pl k hk)
  · have := blk_lt hk (Nat.le_of_lt hj)
    exact (hf _ (by omega) (by omega)).trans (h.row k j hk hj)
theorem ImgAt.set {σ : AH} {b : Nat} {P : Pln} {N H W : Nat} (h : ImgAt σ b P N H W) {k j : Nat} (hk : k < N) (hj : j < H) (r : List Int) : ImgAt (σ.set (b + 2 + k * (H + 1) + j) (oRow r)) b (fun k' j' => if k' = k ∧ j' = j then r else P k' j') N H W := by
  have hlt := blk_lt hk (Nat.le_of_lt hj)
  refine ⟨?_, ?_, ?_, fun k' hk' => ?_, fun k' j' hk' hj' => ?_⟩
  · rw [List.getElem?_set_ne (by omega)]; exact h.ns
  · rw [List.getElem?_set_ne (by omega)]; exact h.inst
  · rw [List.getElem?_set_ne (by omega)]; exact h.top
  · rw [List.getElem?_set_ne]
    · exact h.pl k' hk'
    · intro e
      have := (blk_inj (H := H) (k := k) (k' := k') (j := j) (j' := H) (by omega) (by omega) (by omega)).2
      omega
  · by_cases e : k' = k ∧ j' = j
    · obtain ⟨rfl, rfl⟩ := e
      have h1 := h.row k' j' hk' hj'
      rw [List.getElem?_set_self (List.getElem?_eq_some_iff.mp h1).1, if_pos ⟨rfl, rfl⟩]
    · rw [if_neg e, List.getElem?_set_ne]
      · exact h.row k' j' hk' hj'
      · intro e'
        have := blk_inj (H := H) (k := k) (k' := k') (j := j) (j' := j') (by omega) (by omega) (by omega)
        omega
theorem ImgAt.congr {σ : AH} {b : Nat} {P P' : Pln} {N H W : Nat} (h : ImgAt σ b P N H W) (e : ∀ k j, k < N → j < H → P k j = P' k j) : ImgAt σ b P' N H W :=
  ⟨h.ns, h.inst, h.top, h.pl, fun k j hk hj => by rw [← e k j hk hj]; exact h.row k j hk hj⟩
theorem at_planes {C : Cx} {A : Around} {σ : AH} {E : EX} {Q : V → AH → Prop} {b : Nat} {P : Pln} {N H W : Nat} (c : Law C) (h : ImgAt σ b P N H W) (hq : Q (.ref (b + 2 + N * (H + 1))) σ) : WAt C A (.ref (b + 1)) (Str.ofString "planes") σ Q E :=
  at_inst c.K clsI (by kernel_rfl) h.inst h.ns (by kernel_rfl) rfl hq
theorem at_height {C : Cx} {A : Around} {σ : AH} {E : EX} {Q : V → AH → Prop} {b : Nat} {P : Pln} {N H W : Nat} (c : Law C) (h : ImgAt σ b P N H W) (hq : Q (.int H) σ) : WAt C A (.ref (b + 1)) (Str.ofString "height") σ Q E :=
  at_inst c.K clsI (by kernel_rfl) h.inst h.ns (by kernel_rfl) rfl hq
theorem at_width {C : Cx} {A : Around} {σ : AH} {E : EX} {Q : V → AH → Prop} {b : Nat} {P : Pln} {N H W : Nat} (c : Law C) (h : ImgAt σ b P N H W) (hq : Q (.int W) σ) : WAt C A (.ref (b + 1)) (Str.ofString "width") σ Q E :=
  at_inst c.K clsI (by kernel_rfl) h.inst h.ns (by kernel_rfl) rfl hq
theorem number_ok {C : Cx} {A : Around} {σ : AH} {E : EX} {Q : V → AH → Prop} {v lo hi : Int} {w : Str} (c : Law C) (hd' : A.depth < recursionLimit) (h0 : lo ≤ v) (h1 : v ≤ hi) (hq : Q (.int v) σ) : WC C A (.ref 48) [.int v, .int lo, .int hi, .str w] σ Q E := by
  refine WC_def (pn := [Str.ofString "value", Str.ofString "least", Str.ofString "most", Str.ofString "what"]) (ln := []) (gl := [(Str.ofString "type", Value.type "type"), (Str.ofString "int", Value.type "int"), (Str.ofString "PackError", Value.ref 31), (Str.ofString "shown", Value.ref 41)]) (dv := []) (ds := []) (c.K _ _ rfl) rfl (codeRec_of c.K (by kernel_rfl)) (by first | assumption | omega | exact Nat.le_of_ble_eq_true rfl) .nil rfl (fun x v h => c.glo x v ((show ∀ p ∈ ([(Str.ofString "type", Value.type "type"), (Str.ofString "int", Value.type "int"), (Str.ofString "PackError", Value.ref 31), (Str.ofString "shown", Value.ref 41)] : List (Str × Value)), p ∈ lawGlo by decide +kernel) (x, v) h)) ?_ (by decide +kernel) (by decide +kernel) (by decide +kernel) (by decide +kernel) ?_
  · intro s xs hkp hl
    obtain ⟨x0, x1, x2, x3, rfl⟩ := len4 hl
    first | exact BindsTo.of_eq rfl | exact BindsTo.of_defaults rfl (hkp _ _ (c.K _ _ rfl)) rfl rfl rfl
  intro env henv
  replace c := c.wg [(Str.ofString "type", Value.type "type"), (Str.ofString "int", Value.type "int"), (Str.ofString "PackError", Value.ref 31), (Str.ofString "shown", Value.ref 41)]
  show WSs (C.wg [(Str.ofString "type", Value.type "type"), (Str.ofString "int", Value.type "int"), (Str.ofString "PackError", Value.ref 31), (Str.ofString "shown", Value.ref 41)]) _ _ _ [(Str.ofString "value", some (.int v)), (Str.ofString "least", some (.int lo)), (Str.ofString "most", some (.int hi)), (Str.ofString "what", some (.str w))] _ _ _
  walk_at "xx"
  refine WE_call (by walk_at "mem") callable_type ?_
  walk_at "xx"
  refine WC_typeI ?_
  refine WE_glob (by walk_at "mem") ?_
  refine isNot_self_k ?_
  walk_at "xx"
  refine ite_f (decide_eq_false (by omega)) ?_
  walk_at "xx"
  refine ite_f (decide_eq_false (by omega)) ?_
  walk_at "xx"
  exact hq
theorem shownI {C : Cx} {A : Around} {σ : AH} {E : EX} {Q : V → AH → Prop} {v : Int} (c : Law C) (hd' : A.depth < recursionLimit) (h0 : 0 ≤ v) (h1 : v < 1000000) (hq : Q (.str (Str.ofString (toString v))) σ) : WC C A (.ref 41) [.int v] σ Q E := by
  refine WC_def (pn := [Str.ofString "value"]) (ln := []) (gl := [(Str.ofString "type", Value.type "type"), (Str.ofString "str", Value.type "str"), (Str.ofString "int", Value.type "int")]) (dv := []) (ds := []) (c.K _ _ rfl) rfl (codeRec_of c.K (by kernel_rfl)) (by first | assumption | omega | exact Nat.le_of_ble_eq_true rfl) .nil rfl (fun x v h => c.glo x v ((show ∀ p ∈ ([(Str.ofString "type", Value.type "type"), (Str.ofString "str", Value.type "str"), (Str.ofString "int", Value.type "int")] : List (Str × Value)), p ∈ lawGlo by decide +kernel) (x, v) h)) ?_ (by decide +kernel) (by decide +kernel) (by decide +kernel) (by decide +kernel) ?_
  · intro s xs hkp hl
    obtain ⟨x0, rfl⟩ := len1 hl
    first | exact BindsTo.of_eq rfl | exact BindsTo.of_defaults rfl (hkp _ _ (c.K _ _ rfl)) rfl rfl rfl
  intro env henv
  replace c := c.wg [(Str.ofString "type", Value.type "type"), (Str.ofString "str", Value.type "str"), (Str.ofString "int", Value.type "int")]
  show WSs (C.wg [(Str.ofString "type", Value.type "type"), (Str.ofString "str", Value.type "str"), (Str.ofString "int", Value.type "int")]) _ _ _ [(Str.ofString "value", some (.int v))] _ _ _
  walk_at "xx"
  refine WE_call (by walk_at "mem") callable_type ?_
  walk_at "xx"
  refine WC_typeI ?_
  refine WE_glob (by walk_at "mem") ?_
  refine is_other_k (by decide) ?_
  walk_at "xx"
  refine WE_call (by walk_at "mem") callable_type ?_
  walk_at "xx"
  refine WC_typeI ?_
  refine WE_glob (by walk_at "mem") ?_
  refine is_self_k ?_
  walk_at "xx"
  refine pow_ii (by decide) (by decide) (by decide) ?_
  walk_at "xx"
  refine ite_t (decide_eq_true (by have : (10 : Int) ^ Int.toNat 9 = 1000000000 := by decide
                                   omega)) ?_
  walk_at "xx"
  refine pow_ii (by decide) (by decide) (by decide) ?_
  walk_at "xx"
  refine ite_t (decide_eq_true (by have : (10 : Int) ^ Int.toNat 9 = 1000000000 := by decide
                                   omega)) ?_
  walk_at "xx"
  refine WE_call (by walk_at "mem") callable_type ?_
  walk_at "xx"
  refine WC_strI (log_small h0 h1) ?_
  walk_at "xx"
  exact hq
theorem number_bad {C : Cx} {A : Around} {σ : AH} {X : AH → Prop} {v lo hi : Int} {w : Str} (c : Law C) (hA : A.handled = none) (hd' : A.depth + 1 < recursionLimit) (h0 : 0 ≤ v) (h1 : v < 1000000) (hlo : lo ≤ v) (hbad : hi < v) (hw : w.length ≤ 100) (hq : X σ) : RC C A (.ref 48) [.int v, .int lo, .int hi, .str w] σ 31 X := by
  refine RCc.toRC (RCc_def (pn := [Str.ofString "value", Str.ofString "least", Str.ofString "most", Str.ofString "what"]) (ln := []) (gl := [(Str.ofString "type", Value.type "type"), (Str.ofString "int", Value.type "int"), (Str.ofString "PackError", Value.ref 31), (Str.ofString "shown", Value.ref 41)]) (dv := []) (ds := []) (c.K _ _ rfl) rfl (codeRec_of c.K (by kernel_rfl)) (by first | assumption | omega | exact Nat.le_of_ble_eq_true rfl) .nil rfl (fun x v h => c.glo x v ((show ∀ p ∈ ([(Str.ofString "type", Value.type "type"), (Str.ofString "int", Value.type "int"), (Str.ofString "PackError", Value.ref 31), (Str.ofString "shown", Value.ref 41)] : List (Str × Value)), p ∈ lawGlo by decide +kernel) (x, v) h)) ?_ (by decide +kernel) (by decide +kernel) (by decide +kernel) (by decide +kernel) ?_)
  · intro s xs hkp hl
    obtain ⟨x0, x1, x2, x3, rfl⟩ := len4 hl
    first | exact BindsTo.of_eq rfl | exact BindsTo.of_defaults rfl (hkp _ _ (c.K _ _ rfl)) rfl rfl rfl
  intro env henv
  replace c := c.wg [(Str.ofString "type", Value.type "type"), (Str.ofString "int", Value.type "int"), (Str.ofString "PackError", Value.ref 31), (Str.ofString "shown", Value.ref 41)]
  show RSs (C.wg [(Str.ofString "type", Value.type "type"), (Str.ofString "int", Value.type "int"), (Str.ofString "PackError", Value.ref 31), (Str.ofString "shown", Value.ref 41)]) _ _ _ [(Str.ofString "value", some (.int v)), (Str.ofString "least", some (.int lo)), (Str.ofString "most", some (.int hi)), (Str.ofString "what", some (.str w))] _ _ _ _
  have hlen := len_str_of_int v
  have e1 : (Str.ofString "no ").length = 3 := by decide +kernel
  have e2 : (Str.ofString ": ").length = 2 := by decide +kernel
  refine RSs_here (RS_if ?_)
  walk_at "xx"
  refine WE_call (by walk_at "mem") callable_type ?_
  walk_at "xx"
  refine WC_typeI ?_
  refine WE_glob (by walk_at "mem") ?_
  refine isNot_self_k ?_
  walk_at "xx"
  refine ite_f (decide_eq_false (by omega)) ?_
  walk_at "xx"
  refine ite_t (decide_eq_true (by omega)) ?_
  walk_at "xx"
  refine RSs_here (RS_raise (by walk_at "mem") c.exc PySem.F.excBase_ValueError hA ?_)
  walk_at "xx"
  refine add_ss (by rw [e1]; simp [sizeLine]; omega) ?_
  walk_at "xx"
  refine add_ss (by rw [Str.length_append, e1, e2]; simp [sizeLine]; omega) ?_
  walk_at "xx"
  refine WE_call (by walk_at "mem") c.c41 ?_
  walk_at "xx"
  refine shownI c (by show A.depth + 1 < _; exact hd') h0 h1 ?_
  refine add_ss (by rw [Str.length_append, Str.length_append, e1, e2]; have e3 : sizeLine = 16777216 := rfl; omega) ?_
  walk_at "xx"
  exact hq
def ISt (σ0 : AH) (es : List (Str × V)) (J : AH) : AH := σ0 ++ [.ns es] ++ [.inst 96 σ0.length] ++ J
theorem ISt.ns {σ0 J : AH} {es : List (Str × V)} : (ISt σ0 es J)[σ0.length]? = some (.ns es) := by
  unfold ISt; rw [List.append_assoc, List.append_assoc, List.getElem?_append_right (Nat.le_refl _)]; simp
theorem ISt.inst {σ0 J : AH} {es : List (Str × V)} : (ISt σ0 es J)[σ0.length + 1]? = some (.inst 96 σ0.length) := by
  unfold ISt; rw [List.append_assoc, List.append_assoc, List.getElem?_append_right (by omega)]; simp
theorem ISt.set {σ0 J : AH} {es es' : List (Str × V)} : (ISt σ0 es J).set σ0.length (.ns es') = ISt σ0 es' J := by
  unfold ISt; rw [List.append_assoc, List.append_assoc, List.set_append_right _ _ (Nat.le_refl _)]; simp
theorem ISt.blk {σ0 J : AH} {es : List (Str × V)} {i : Nat} {o : O} (h : J[i]? = some o) : (ISt σ0 es J)[σ0.length + 2 + i]? = some o := by
  unfold ISt
  rw [List.getElem?_append_right (by simp <;> omega)]
  rw [← h]; congr 1; simp <;> omega
theorem ISt.len {σ0 J : AH} {es : List (Str × V)} : (ISt σ0 es J).length = σ0.length + 2 + J.length := by unfold ISt; simp; omega
theorem ISt.snoc {σ0 J : AH} {es : List (Str × V)} {o : O} : ISt σ0 es J ++ [o] = ISt σ0 es (J ++ [o]) := by unfold ISt; rw [List.append_assoc (bs := J)]
theorem ISt.obj {C : Cx} {σ0 J : AH} {es : List (Str × V)} {v : V} {o : O} (h : ObjAt C σ0 v o) : ObjAt C (ISt σ0 es J) v o := ObjAt.up (ObjAt.up (ObjAt.up h))
theorem set_inst2 {C : Cx} {A : Around} {σ σ' : AH} {E : EX} {K : Frag} {Cl : Addr} {i d : Nat} {es : List (Str × V)} {name : Str} {x : V} {Q : AH → Prop} (X : K.In C.G) (ok : ClsOk K Cl) (ht : takerIn K Cl name = some none) (b : σ[i]? = some (.inst Cl d)) (bd : σ[d]? = some (.ns es))
    (hz : es.length ≤ sizeLine) (he : σ.set d (.ns (putNs name x es)) = σ') (h : Q σ') : WSt C A (.ref i) name x σ Q E := set_inst X ok ht b bd hz (he ▸ h)
theorem rng_getD {n i : Nat} {f : Nat → V} (h : i < n) : ((List.range n).map f).getD i .none = f i := by simp [List.getD, h]
theorem rng_get {n i : Nat} {f : Nat → V} (h : i < n) : ((List.range n).map f)[i]? = some (f i) := by simp [h]
theorem init_img {C : Cx} {A : Around} {σ0 : AH} {E : EX} {Q : V → AH → Prop} {v : V} {P : Pln} {N H W : Nat} (c : Law C) (hA : A.handled = none) (hd' : A.depth + 1 < recursionLimit) (hu : A.units + 200 < cLine)
    (hP : PlAt C σ0 v P N H) (hN : N = 1 ∨ N = 3) (hH : 1 ≤ H ∧ H ≤ 512) (hW : 1 ≤ W ∧ W ≤ 512) (hlen : ∀ k j, k < N → j < H → (P k j).length = W) (hs : ∀ k j, k < N → j < H → ∀ x ∈ P k j, 0 ≤ x ∧ x ≤ 255)
    (hq : ∀ J, ImgAt (σ0 ++ J) σ0.length P N H W → Q .none (σ0 ++ J)) : WCc C A (.ref 60) [.ref (σ0.length + 1), v] (σ0 ++ [.ns []] ++ [.inst 96 σ0.length]) Q E := by
  refine WCc_def (pn := [Str.ofString "self", Str.ofString "planes"]) (ln := [Str.ofString "plane", Str.ofString "row", Str.ofString "sample"]) (gl := [(Str.ofString "len", Value.builtin "len"), (Str.ofString "need_number", Value.ref 48), (Str.ofString "LONGEST", Value.int 512 233)]) (dv := []) (ds := []) (c.K _ _ rfl) rfl (codeRec_of c.K (by kernel_rfl)) (by first | assumption | omega | exact Nat.le_of_ble_eq_true rfl) .nil rfl (fun x v h => c.glo x v ((show ∀ p ∈ ([(Str.ofString "len", Value.builtin "len"), (Str.ofString "need_number", Value.ref 48), (Str.ofString "LONGEST", Value.int 512 233)] : List (Str × Value)), p ∈ lawGlo by decide +kernel) (x, v) h)) ?_ (by decide +kernel) (by decide +kernel) (by decide +kernel) (by decide +kernel) ?_
  · intro s xs hkp hl
    obtain ⟨x0, x1, rfl⟩ := len2 hl
    first | exact BindsTo.of_eq rfl | exact BindsTo.of_defaults rfl (hkp _ _ (c.K _ _ rfl)) rfl rfl rfl
  intro env henv
  replace c := c.wg [(Str.ofString "len", Value.builtin "len"), (Str.ofString "need_number", Value.ref 48), (Str.ofString "LONGEST", Value.int 512 233)]
  show WSs (C.wg [(Str.ofString "len", Value.builtin "len"), (Str.ofString "need_number", Value.ref 48), (Str.ofString "LONGEST", Value.int 512 233)]) _ _ _ [(Str.ofString "self", some (.ref (σ0.length + 1))), (Str.ofString "planes", some (v)), (Str.ofString "plane", none), (Str.ofString "row", none), (Str.ofString "sample", none)] _ _ _
  have hA' : (A.deeper env).handled = none := hA
  obtain ⟨pv, rv, p1, p2, p3⟩ := hP.ex
  have e0 : σ0 ++ [O.ns []] ++ [O.inst 96 σ0.length] = ISt σ0 [] [] := by unfold ISt; simp
  rw [e0]
  refine WSs_cons ?_
  refine WS_try_ok ?_
  refine WSs_cons ?_
  refine WS_setattrC ?_
  refine WE_ListComp2 (l2 := []) (capt := []) henv (by show compOk _ _ _ [] [] = true; decide +kernel) (by simp) (by simp) (by simp) ?_
  refine WItr_of ?_
  walk_at "xx"
  refine ⟨_, _, _, Itb_list hA' (ISt.obj p1), ?_⟩
  refine ⟨by simp [sizeLine]; omega, fun i acc σ' => σ' = ISt σ0 [] (planesBlk (σ0.length + 2) P H i) ∧ acc = (List.range i).map (fun k => V.ref (σ0.length + 2 + k * (H + 1) + H)), ⟨rfl, rfl⟩, ?_, ?_⟩
  · rintro i acc σ' pv' hi hp ⟨rfl, rfl⟩
    have hi' : i < N := by simpa using hi
    have hp' : pv i = pv' := (rng_getD hi').symm.trans hp
    subst hp'
    refine ⟨ISt.obj p1, fun cenv hc => WIf_nil ?_⟩
    rw [if_pos rfl]
    refine WE_ListComp2 (l2 := [(Str.ofString "list", Value.type "list")]) (capt := []) hc (by show compOk _ _ _ [] [Str.ofString "list"] = true; decide +kernel) (by simp) (by simp) (by intro p hp; simp only [List.mem_singleton] at hp; subst hp; exact .inr (c.glo _ _ (by decide +kernel))) ?_
    refine WItr_of ?_
    walk_at "xx"
    refine ⟨_, _, _, Itb_list hA' (ISt.obj (p2 i hi')), ?_⟩
    refine ⟨by simp [sizeLine]; omega, fun j acc σ' => σ' = ISt σ0 [] (planesBlk (σ0.length + 2) P H i ++ (List.range j).map (fun j => oRow (P i j))) ∧ acc = (List.range j).map (fun j => V.ref (σ0.length + 2 + i * (H + 1) + j)), ⟨by simp, rfl⟩, ?_, ?_⟩
    · rintro j acc σ' rv' hj hr ⟨rfl, rfl⟩
      have hj' : j < H := by simpa using hj
      have hr' : rv i j = rv' := (rng_getD hj').symm.trans hr
      subst hr'
      refine ⟨ISt.obj (p2 i hi'), fun cenv hc => WIf_nil ?_⟩
      rw [if_pos rfl]
      refine WE_call (C := C) (by walk_at "mem") callable_type ?_
      walk_at "xx"
      refine WC_list (xs := (P i j).map .int) (ISt.obj (p3 i j hi' hj')) (by rw [List.length_map, hlen i j hi' hj']; simp [sizeLine]; omega) ⟨?_, ?_⟩
      · rw [ISt.snoc, List.range_succ, List.map_append, ← List.append_assoc]; rfl
      · rw [List.range_succ, List.map_append, ISt.len, List.length_append, planesBlk_len]
        simp [Nat.add_assoc]
    · rintro acc σ' ⟨rfl, rfl⟩
      refine ⟨ISt.obj (p2 i hi'), ?_, ?_⟩
      · rw [ISt.snoc]
        congr 1
        rw [planesBlk, planeBlk]
        simp
      · rw [List.range_succ, List.map_append, ISt.len, List.length_append, planesBlk_len]
        simp [Nat.add_assoc]
  rintro acc σ' ⟨rfl, rfl⟩
  refine ⟨ISt.obj p1, ?_⟩
  show WE _ _ _ _ _ _ _ _
  rw [ISt.snoc]
  have hNl : (((List.range N).map pv).length) = N := by simp
  rw [hNl]
  have hlenB : (ISt σ0 [] (planesBlk (σ0.length + 2) P H N)).length = σ0.length + 2 + N * (H + 1) := by rw [ISt.len, planesBlk_len]
  rw [hlenB]
  generalize hB : planesBlk (σ0.length + 2) P H N ++ [O.list ((List.range N).map fun k => V.ref (σ0.length + 2 + k * (H + 1) + H))] = J
  have j1 : J[N * (H + 1)]? = some (.list ((List.range N).map fun k => V.ref (σ0.length + 2 + k * (H + 1) + H))) := by rw [← hB, List.getElem?_append_right (by rw [planesBlk_len]; omega), planesBlk_len]; simp
  have j2 : ∀ k, k < N → J[k * (H + 1) + H]? = some (.list ((List.range H).map fun j => V.ref (σ0.length + 2 + k * (H + 1) + j))) := fun k hk => by rw [← hB]; exact gl_up (blk_pl hk)
  have j3 : ∀ k j, k < N → j < H → J[k * (H + 1) + j]? = some (oRow (P k j)) := fun k j hk hj => by rw [← hB]; exact gl_up (blk_row hk hj)
  clear hB hlenB
  walk_at "xx"
  refine set_inst2 (d := σ0.length) (es := []) c.K clsI (by kernel_rfl) ISt.inst ISt.ns (by simp) ISt.set ?_
  have top : ∀ {es : List (Str × V)} {J' : AH}, ObjAt C (ISt σ0 es (J ++ J')) (.ref (σ0.length + 2 + N * (H + 1))) (.list ((List.range N).map fun k => V.ref (σ0.length + 2 + k * (H + 1) + H))) := fun {es J'} => ISt.blk (gl_up j1)
  have pl : ∀ {es : List (Str × V)} {J' : AH} {k : Nat}, k < N → ObjAt C (ISt σ0 es (J ++ J')) (.ref (σ0.length + 2 + k * (H + 1) + H)) (.list ((List.range H).map fun j => V.ref (σ0.length + 2 + k * (H + 1) + j))) := fun {es J' k} hk => by
    have := ISt.blk (σ0 := σ0) (es := es) (gl_up (J := J') (j2 k hk))
    show (ISt σ0 es (J ++ J'))[_]? = _
    rw [← this]; congr 1; omega
  have row : ∀ {es : List (Str × V)} {J' : AH} {k j : Nat}, k < N → j < H → ObjAt C (ISt σ0 es (J ++ J')) (.ref (σ0.length + 2 + k * (H + 1) + j)) (oRow (P k j)) := fun {es J' k j} hk hj => by
    have := ISt.blk (σ0 := σ0) (es := es) (gl_up (J := J') (j3 k j hk hj))
    show (ISt σ0 es (J ++ J'))[_]? = _
    rw [← this]; congr 1; omega
  have eJ : J = J ++ [] := by simp
  rw [eJ]
  generalize ([] : AH) = J'
  walk_at "xx"
  refine WE_call (C := C) (by walk_at "mem") callable_builtin ?_
  walk_at "xx"
  refine at_inst (v := .ref (σ0.length + 2 + N * (H + 1))) c.K clsI (by kernel_rfl) ISt.inst ISt.ns (by kernel_rfl) rfl ?_
  walk_at "xx"
  refine WC_len top (by simp; omega) ?_
  walk_at "xx"
  rw [ISt.snoc, List.append_assoc]
  refine nin_tuple_dd (xs := [.int 1, .int 3]) .int (.tuple (xs := [.int 1, .int 3]) (by show (ISt _ _ _)[_]? = _; rw [← List.append_assoc, ← ISt.snoc]; exact ObjAt.new (C := C) rfl) (.cons .int (.cons .int .nil))) (by decide +kernel) rfl (by show A.units + _ + 65 < _; omega) ?_
  rw [show (!([PyData.int 1, PyData.int 3].any fun y => PyData.eqv y (.int (((List.range N).map fun k => V.ref (σ0.length + 2 + k * (H + 1) + H)).length : Nat)))) = false by rcases hN with rfl | rfl <;> simp [PyData.eqv]]
  generalize J' ++ [O.tuple [V.int 1, V.int 3]] = J''
  clear eJ
  walk_at "xx"
  refine WE_call (C := C) (by walk_at "mem") callable_builtin ?_
  walk_at "xx"
  refine at_inst (v := .ref (σ0.length + 2 + N * (H + 1))) c.K clsI (by kernel_rfl) ISt.inst ISt.ns (by kernel_rfl) rfl ?_
  walk_at "xx"
  refine item_list top (by decide) (by decide) (rng_get (by omega)) ?_
  walk_at "xx"
  refine WC_len (pl (by omega)) (by simp; omega) ?_
  rw [show (((List.range H).map fun j => V.ref (σ0.length + 2 + Int.toNat 0 * (H + 1) + j)).length : Int) = H by simp]
  walk_at "xx"
  refine set_inst2 (d := σ0.length) c.K clsI (by kernel_rfl) ISt.inst ISt.ns (Nat.le_trans putNs_len (Nat.le_of_ble_eq_true rfl)) ISt.set ?_
  walk_at "xx"
  refine at_inst (v := .int H) c.K clsI (by kernel_rfl) ISt.inst ISt.ns (by kernel_rfl) rfl ?_
  walk_at "xx"
  refine ite_t (decide_eq_true (by omega)) ?_
  refine WE_call (C := C) (by walk_at "mem") callable_builtin ?_
  walk_at "xx"
  refine at_inst (v := .ref (σ0.length + 2 + N * (H + 1))) c.K clsI (by kernel_rfl) ISt.inst ISt.ns (by kernel_rfl) rfl ?_
  walk_at "xx"
  refine item_list top (by decide) (by decide) (rng_get (by omega)) ?_
  walk_at "xx"
  refine item_list (pl (by omega)) (by decide) (by decide) (rng_get (by omega)) ?_
  walk_at "xx"
  refine WC_len (row (by omega) (by omega)) (by rw [List.length_map, hlen _ _ (by omega) (by omega)]; omega) ?_
  rw [show (((P (Int.toNat 0) (Int.toNat 0)).map V.int).length : Int) = W by rw [List.length_map, hlen _ _ (by omega) (by omega)]]
  walk_at "xx"
  refine set_inst2 (d := σ0.length) c.K clsI (by kernel_rfl) ISt.inst ISt.ns (Nat.le_trans putNs_len (Nat.le_trans (Nat.succ_le_succ putNs_len) (Nat.le_of_ble_eq_true rfl))) ISt.set ?_
  have eN : putNs (Str.ofString "width") (V.int W) (putNs (Str.ofString "height") (V.int H) (putNs (Str.ofString "planes") (V.ref (σ0.length + 2 + N * (H + 1))) [])) = [(Str.ofString "planes", .ref (σ0.length + 2 + N * (H + 1))), (Str.ofString "height", .int H), (Str.ofString "width", .int W)] := by kernel_rfl
  rw [eN]
  generalize hes : ([(Str.ofString "planes", .ref (σ0.length + 2 + N * (H + 1))), (Str.ofString "height", .int H), (Str.ofString "width", .int W)] : List (Str × V)) = es
  have g1 : es.lookup (Str.ofString "planes") = some (.ref (σ0.length + 2 + N * (H + 1))) := by rw [← hes]; kernel_rfl
  have g2 : es.lookup (Str.ofString "height") = some (.int H) := by rw [← hes]; kernel_rfl
  have g3 : es.lookup (Str.ofString "width") = some (.int W) := by rw [← hes]; kernel_rfl
  have fin : ImgAt (ISt σ0 es (J ++ J'')) σ0.length P N H W := ⟨by rw [hes]; exact ISt.ns, ISt.inst, top, fun k hk => pl hk, fun k j hk hj => row hk hj⟩
  clear hes eN j1 j2 j3
  walk_at "xx"
  refine WE_call (C := C) (by walk_at "mem") c.c48 ?_
  walk_at "xx"
  refine at_inst c.K clsI (by kernel_rfl) ISt.inst ISt.ns g2 rfl ?_
  walk_at "xx"
  refine WE_globi (by walk_at "mem") ?_
  walk_at "xx"
  refine number_ok c (by show A.depth + 1 < _; omega) (by omega) (by omega) ?_
  walk_at "xx"
  refine WE_call (C := C) (by walk_at "mem") c.c48 ?_
  walk_at "xx"
  refine at_inst c.K clsI (by kernel_rfl) ISt.inst ISt.ns g3 rfl ?_
  walk_at "xx"
  refine WE_globi (by walk_at "mem") ?_
  walk_at "xx"
  refine number_ok c (by show A.depth + 1 < _; omega) (by omega) (by omega) ?_
  walk_at "xx"
  refine WS_for (WItr_of ?_)
  walk_at "xx"
  refine at_inst c.K clsI (by kernel_rfl) ISt.inst ISt.ns g1 rfl ?_
  refine ⟨_, _, _, Itb_list hA' top, ?_⟩
  refine ⟨fun i ρ' σ' => ∃ a1 a2 a3, σ' = ISt σ0 es (J ++ J'') ∧ ρ' = [(Str.ofString "self", some (V.ref (σ0.length + 1))), (Str.ofString "planes", some v), (Str.ofString "plane", a1), (Str.ofString "row", a2), (Str.ofString "sample", a3)], ⟨_, _, _, rfl, rfl⟩, ?_, ?_⟩
  · rintro i ρ' σ' hi ⟨a1, a2, a3, rfl, rfl⟩
    have hi' : i < N := by simpa using hi
    refine ⟨top, ?_⟩
    rw [rng_getD hi']
    walk_at "xx"
    refine WE_call (C := C) (by walk_at "mem") callable_builtin ?_
    walk_at "xx"
    refine WC_len (pl hi') (by simp; omega) ?_
    walk_at "xx"
    refine at_inst c.K clsI (by kernel_rfl) ISt.inst ISt.ns g2 rfl ?_
    walk_at "xx"
    refine ite_f (by simp) ?_
    walk_at "xx"
    refine WS_for (WItr_of ?_)
    walk_at "xx"
    refine ⟨_, _, _, Itb_list hA' (pl hi'), ?_⟩
    refine ⟨fun j ρ' σ' => ∃ a2 a3, σ' = ISt σ0 es (J ++ J'') ∧ ρ' = [(Str.ofString "self", some (V.ref (σ0.length + 1))), (Str.ofString "planes", some v), (Str.ofString "plane", some (V.ref (σ0.length + 2 + i * (H + 1) + H))), (Str.ofString "row", a2), (Str.ofString "sample", a3)], ⟨_, _, rfl, rfl⟩, ?_, ?_⟩
    · rintro j ρ' σ' hj ⟨a2, a3, rfl, rfl⟩
      have hj' : j < H := by simpa using hj
      refine ⟨pl hi', ?_⟩
      rw [rng_getD hj']
      walk_at "xx"
      refine WE_call (C := C) (by walk_at "mem") callable_builtin ?_
      walk_at "xx"
      refine WC_len (row hi' hj') (by rw [List.length_map, hlen _ _ hi' hj']; omega) ?_
      walk_at "xx"
      refine at_inst c.K clsI (by kernel_rfl) ISt.inst ISt.ns g3 rfl ?_
      walk_at "xx"
      refine ite_f (by simp [hlen i j hi' hj']) ?_
      walk_at "xx"
      refine WS_for (WItr_of ?_)
      walk_at "xx"
      refine ⟨_, _, _, Itb_list hA' (row hi' hj'), ?_⟩
      refine ⟨fun x ρ' σ' => ∃ a3, σ' = ISt σ0 es (J ++ J'') ∧ ρ' = [(Str.ofString "self", some (V.ref (σ0.length + 1))), (Str.ofString "planes", some v), (Str.ofString "plane", some (V.ref (σ0.length + 2 + i * (H + 1) + H))), (Str.ofString "row", some (V.ref (σ0.length + 2 + i * (H + 1) + j))), (Str.ofString "sample", a3)], ⟨_, rfl, rfl⟩, ?_, ?_⟩
      · rintro x ρ' σ' hx ⟨a3, rfl, rfl⟩
        refine ⟨row hi' hj', ?_⟩
        rw [List.length_map] at hx
        have hm := hs i j hi' hj' ((P i j).getD x 0) (by simp [List.getD, hx])
        rw [getD_v _ hx]
        walk_at "xx"
        refine WE_call (C := C) (by walk_at "mem") c.c48 ?_
        walk_at "xx"
        refine number_ok c (by show A.depth + 1 < _; omega) hm.1 hm.2 ?_
        walk_at "xx"
        exact ⟨_, rfl, rfl⟩
      · rintro ρ' σ' ⟨a3, rfl, rfl⟩
        refine ⟨row hi' hj', ?_⟩
        walk_at "xx"
        exact ⟨_, _, rfl, rfl⟩
    · rintro ρ' σ' ⟨a2, a3, rfl, rfl⟩
      refine ⟨pl hi', ?_⟩
      walk_at "xx"
      exact ⟨_, _, _, rfl, rfl⟩
  · rintro ρ' σ' ⟨a1, a2, a3, rfl, rfl⟩
    refine ⟨top, ?_⟩
    walk_at "xx"
    unfold ISt at fin ⊢
    rw [List.append_assoc, List.append_assoc] at fin ⊢
    exact hq _ fin
theorem new_img {C : Cx} {A : Around} {σ : AH} {E : EX} {Q : V → AH → Prop} {v : V} {P : Pln} {N H W : Nat} (c : Law C) (hA : A.handled = none) (hd' : A.depth + 2 < recursionLimit) (hu : A.units + 220 < cLine)
    (hP : Rd C σ v (imgD P N H)) (hN : N = 1 ∨ N = 3) (hH : 1 ≤ H ∧ H ≤ 512) (hW : 1 ≤ W ∧ W ≤ 512) (hlen : ∀ k j, k < N → j < H → (P k j).length = W) (hs : ∀ k j, k < N → j < H → ∀ x ∈ P k j, 0 ≤ x ∧ x ≤ 255)
    (hq : ∀ J, ImgAt (σ ++ J) σ.length P N H W → Q (.ref (σ.length + 1)) (σ ++ J)) : WC C A (.ref 96) [v] σ Q E := by
  refine WC_new (fI := 60) c.K clsI (by kernel_rfl) (by kernel_rfl) fun xs => ?_
  exact init_img c hA (by show A.depth + 1 + 1 < _; omega) (by have hcu : (Code.builtin "type.__call__" ⟨.ref 96 :: xs, []⟩).cUnits ≤ 8 := Nat.le_of_ble_eq_true rfl; show A.units + (Code.builtin "type.__call__" ⟨.ref 96 :: xs, []⟩).cUnits + 200 < _; omega) (PlAt.of hP) hN hH hW hlen hs fun J hi => ⟨rfl, hq J hi⟩
theorem rep_ints (W : Nat) (s : Int) : (List.replicate W [V.int s]).flatten = (List.replicate W s).map V.int := by
  rw [rep_one, List.map_replicate]
theorem blank_core {C : Cx} {A : Around} {σ : AH} {E : EX} {Q : V → AH → Prop} {N H W : Nat} {s : Int} (c : Law C) (hA : A.handled = none) (hd' : A.depth + 3 < recursionLimit) (hu : A.units + 300 < cLine)
    (hN : N = 1 ∨ N = 3) (hH : 1 ≤ H ∧ H ≤ 512) (hW : 1 ≤ W ∧ W ≤ 512) (hs : 0 ≤ s ∧ s ≤ 255)
    (hq : ∀ J b, σ.length ≤ b → ImgAt (σ ++ J) b (fun _ _ => List.replicate W s) N H W → Q (.ref (b + 1)) (σ ++ J)) : WC C A (.ref 106) [.int N, .int W, .int H, .int s] σ Q E := by
  refine WC_def (pn := [Str.ofString "planes", Str.ofString "width", Str.ofString "height", Str.ofString "sample"]) (ln := []) (gl := [(Str.ofString "need_number", Value.ref 48), (Str.ofString "LONGEST", Value.int 512 233), (Str.ofString "Image", Value.ref 96), (Str.ofString "range", Value.type "range")]) (dv := []) (ds := []) (c.K _ _ rfl) rfl (codeRec_of c.K (by kernel_rfl)) (by first | assumption | omega | exact Nat.le_of_ble_eq_true rfl) .nil rfl (fun x v h => c.glo x v ((show ∀ p ∈ ([(Str.ofString "need_number", Value.ref 48), (Str.ofString "LONGEST", Value.int 512 233), (Str.ofString "Image", Value.ref 96), (Str.ofString "range", Value.type "range")] : List (Str × Value)), p ∈ lawGlo by decide +kernel) (x, v) h)) ?_ (by decide +kernel) (by decide +kernel) (by decide +kernel) (by decide +kernel) ?_
  · intro s xs hkp hl
    obtain ⟨x0, x1, x2, x3, rfl⟩ := len4 hl
    first | exact BindsTo.of_eq rfl | exact BindsTo.of_defaults rfl (hkp _ _ (c.K _ _ rfl)) rfl rfl rfl
  intro env henv
  replace c := c.wg [(Str.ofString "need_number", Value.ref 48), (Str.ofString "LONGEST", Value.int 512 233), (Str.ofString "Image", Value.ref 96), (Str.ofString "range", Value.type "range")]
  show WSs (C.wg [(Str.ofString "need_number", Value.ref 48), (Str.ofString "LONGEST", Value.int 512 233), (Str.ofString "Image", Value.ref 96), (Str.ofString "range", Value.type "range")]) _ _ _ [(Str.ofString "planes", some (.int N)), (Str.ofString "width", some (.int W)), (Str.ofString "height", some (.int H)), (Str.ofString "sample", some (.int s))] _ _ _
  have hA' : (A.deeper env).handled = none := hA
  walk_at "xx"
  refine nin_tuple_dd (xs := [.int 1, .int 3]) .int (.tuple (xs := [.int 1, .int 3]) (ObjAt.new rfl) (.cons .int (.cons .int .nil))) (by decide +kernel) rfl (by show A.units + _ + 65 < _; omega) ?_
  rw [show (!([PyData.int 1, PyData.int 3].any fun y => PyData.eqv y (.int (N : Int)))) = false by rcases hN with rfl | rfl <;> simp [PyData.eqv]]
  walk_at "xx"
  refine WE_call (C := C) (by walk_at "mem") c.c48 ?_
  walk_at "xx"
  refine WE_globi (by walk_at "mem") ?_
  walk_at "xx"
  refine number_ok c (by show A.depth + 1 < _; omega) (by omega) (by omega) ?_
  walk_at "xx"
  refine WE_call (C := C) (by walk_at "mem") c.c48 ?_
  walk_at "xx"
  refine WE_globi (by walk_at "mem") ?_
  walk_at "xx"
  refine number_ok c (by show A.depth + 1 < _; omega) (by omega) (by omega) ?_
  walk_at "xx"
  refine WE_call (C := C) (by walk_at "mem") c.c96 ?_
  refine WL_cons ?_
  refine WE_ListComp2 (l2 := [(Str.ofString "range", Value.type "range")]) (capt := [(Str.ofString "width", some (.int W)), (Str.ofString "height", some (.int H)), (Str.ofString "sample", some (.int s))]) henv (by show compOk _ _ _ [Str.ofString "width", Str.ofString "height", Str.ofString "sample"] [Str.ofString "range"] = true; decide +kernel) (by show [Str.ofString "width", Str.ofString "height", Str.ofString "sample"].Nodup; decide +kernel) (by
    intro p hp
    simp only [List.mem_cons, List.not_mem_nil, or_false] at hp
    rcases hp with rfl | rfl | rfl <;> walk_at "mem") (by intro p hp; simp only [List.mem_singleton] at hp; subst hp; exact .inl (by walk_at "mem")) ?_
  refine WItr_rng hA' (by walk_at "mem") ?_
  walk_at "xx"
  refine exNat ⟨by omega, ?_⟩
  refine CompGo_data (fun _ => .list ((List.range H).map fun _ => rowD (List.replicate W s))) (by simp [sizeLine]; omega) (fun _ => trivial) ?_ ?_
  · rintro i pv J hi rfl cenv hc
    refine WE_ListComp2 (C := C) (l2 := []) (capt := [(Str.ofString "width", some (.int W)), (Str.ofString "sample", some (.int s))]) hc (by show compOk _ _ _ [Str.ofString "width", Str.ofString "sample"] [] = true; decide +kernel) (by show [Str.ofString "width", Str.ofString "sample"].Nodup; decide +kernel) (by
      intro p hp
      simp only [List.mem_cons, List.not_mem_nil, or_false] at hp
      rcases hp with rfl | rfl <;> walk_at "mem") (by simp) ?_
    refine WItr_rng hA' (by walk_at "mem") ?_
    walk_at "xx"
    refine exNat ⟨by omega, ?_⟩
    refine CompGo_data (fun _ => rowD (List.replicate W s)) (by simp [sizeLine]; omega) (fun _ => trivial) ?_ ?_
    · rintro j pv J' hj rfl cenv hc
      walk_at "xx"
      refine mul_li (xs := [.int s]) (ObjAt.new (C := C) rfl) (by omega) (by omega) (by simp; omega) ⟨[.list [.int s]] ++ [.list ((List.replicate W s).map .int)], ?_, ?_⟩
      · rw [← rep_ints, Int.toNat_natCast]; simp
      · rw [Int.toNat_natCast, rep_ints]
        exact Rd.lst (ObjAt.new rfl)
    · intro J' acc ha
      exact ⟨J' ++ [.list acc], by simp, .list (ObjAt.new rfl) ha.up⟩
  intro J acc ha
  walk_at "xx"
  refine new_img (P := fun _ _ => List.replicate W s) (N := N) (H := H) (W := W) c hA' (by show A.depth + 1 + 2 < _; omega) (by show A.units + _ + 220 < _; omega) (Rd.wg (.list (ObjAt.new rfl) ha.up)) hN hH hW (fun k j _ _ => by simp) (fun k j _ _ x hx => by rw [List.eq_of_mem_replicate hx]; exact hs) ?_
  intro J' hi
  walk_at "xx"
  have e9 : σ ++ [O.tuple [V.int 1, V.int 3]] ++ J ++ [O.list acc] ++ J' = σ ++ ([O.tuple [V.int 1, V.int 3]] ++ J ++ [O.list acc] ++ J') := by simp
  rw [e9] at hi ⊢
  exact hq _ _ (by simp) hi
local macro_rules | `(tactic| walk_at "h") => `(tactic| first | walk_at "x" | refine ThH_next ?_ | refine RHs_next ?_)
local macro_rules | `(tactic| walk_at "hh") => `(tactic| repeat walk_at "h")
theorem init_bad {C : Cx} {A : Around} {σ0 : AH} {X : AH → Prop} {v : V} {P : Pln} {N H W m : Nat} {y : Int} (c : Law C) (hA : A.handled = none) (hd' : A.depth + 2 < recursionLimit) (hu : A.units + 200 < cLine)
    (hP : PlAt C σ0 v P N H) (hN : N = 1 ∨ N = 3) (hH : 1 ≤ H ∧ H ≤ 512) (hW : 1 ≤ W ∧ W ≤ 512) (hlen : ∀ k j, k < N → j < H → (P k j).length = W) (hs : ∀ x, x < m → 0 ≤ (P 0 0).getD x 0 ∧ (P 0 0).getD x 0 ≤ 255)
    (hm : m < W) (hy : (P 0 0).getD m 0 = y) (hy1 : 255 < y) (hy2 : y < 1000000) (hq : ∀ σ', X σ') : RCc C A (.ref 60) [.ref (σ0.length + 1), v] (σ0 ++ [.ns []] ++ [.inst 96 σ0.length]) 31 X := by
  refine RCcH_def (pn := [Str.ofString "self", Str.ofString "planes"]) (ln := [Str.ofString "plane", Str.ofString "row", Str.ofString "sample"]) (gl := [(Str.ofString "len", Value.builtin "len"), (Str.ofString "need_number", Value.ref 48), (Str.ofString "LONGEST", Value.int 512 233)]) (dv := []) (ds := []) (c.K _ _ rfl) rfl (codeRec_of c.K (by kernel_rfl)) (by first | assumption | omega | exact Nat.le_of_ble_eq_true rfl) .nil rfl (fun x v h => c.glo x v ((show ∀ p ∈ ([(Str.ofString "len", Value.builtin "len"), (Str.ofString "need_number", Value.ref 48), (Str.ofString "LONGEST", Value.int 512 233)] : List (Str × Value)), p ∈ lawGlo by decide +kernel) (x, v) h)) ?_ (by decide +kernel) (by decide +kernel) (by decide +kernel) (by decide +kernel) ?_
  · intro s xs hkp hl
    obtain ⟨x0, x1, rfl⟩ := len2 hl
    first | exact BindsTo.of_eq rfl | exact BindsTo.of_defaults rfl (hkp _ _ (c.K _ _ rfl)) rfl rfl rfl
  intro env henv
  replace c := c.wg [(Str.ofString "len", Value.builtin "len"), (Str.ofString "need_number", Value.ref 48), (Str.ofString "LONGEST", Value.int 512 233)]
  show RHs (C.wg [(Str.ofString "len", Value.builtin "len"), (Str.ofString "need_number", Value.ref 48), (Str.ofString "LONGEST", Value.int 512 233)]) _ _ _ [(Str.ofString "self", some (.ref (σ0.length + 1))), (Str.ofString "planes", some (v)), (Str.ofString "plane", none), (Str.ofString "row", none), (Str.ofString "sample", none)] _ _ _
  have hA' : (A.deeper env).handled = none := hA
  obtain ⟨pv, rv, p1, p2, p3⟩ := hP.ex
  have e0 : σ0 ++ [O.ns []] ++ [O.inst 96 σ0.length] = ISt σ0 [] [] := by unfold ISt; simp
  rw [e0]
  refine RHs_next ?_
  refine WS_try_ok ?_
  refine WSs_cons ?_
  refine WS_setattrC ?_
  refine WE_ListComp2 (l2 := []) (capt := []) henv (by show compOk _ _ _ [] [] = true; decide +kernel) (by simp) (by simp) (by simp) ?_
  refine WItr_of ?_
  walk_at "hh"
  refine ⟨_, _, _, Itb_list hA' (ISt.obj p1), ?_⟩
  refine ⟨by simp [sizeLine]; omega, fun i acc σ' => σ' = ISt σ0 [] (planesBlk (σ0.length + 2) P H i) ∧ acc = (List.range i).map (fun k => V.ref (σ0.length + 2 + k * (H + 1) + H)), ⟨rfl, rfl⟩, ?_, ?_⟩
  · rintro i acc σ' pv' hi hp ⟨rfl, rfl⟩
    have hi' : i < N := by simpa using hi
    have hp' : pv i = pv' := (rng_getD hi').symm.trans hp
    subst hp'
    refine ⟨ISt.obj p1, fun cenv hc => WIf_nil ?_⟩
    rw [if_pos rfl]
    refine WE_ListComp2 (l2 := [(Str.ofString "list", Value.type "list")]) (capt := []) hc (by show compOk _ _ _ [] [Str.ofString "list"] = true; decide +kernel) (by simp) (by simp) (by intro p hp; simp only [List.mem_singleton] at hp; subst hp; exact .inr (c.glo _ _ (by decide +kernel))) ?_
    refine WItr_of ?_
    walk_at "hh"
    refine ⟨_, _, _, Itb_list hA' (ISt.obj (p2 i hi')), ?_⟩
    refine ⟨by simp [sizeLine]; omega, fun j acc σ' => σ' = ISt σ0 [] (planesBlk (σ0.length + 2) P H i ++ (List.range j).map (fun j => oRow (P i j))) ∧ acc = (List.range j).map (fun j => V.ref (σ0.length + 2 + i * (H + 1) + j)), ⟨by simp, rfl⟩, ?_, ?_⟩
    · rintro j acc σ' rv' hj hr ⟨rfl, rfl⟩
      have hj' : j < H := by simpa using hj
      have hr' : rv i j = rv' := (rng_getD hj').symm.trans hr
      subst hr'
      refine ⟨ISt.obj (p2 i hi'), fun cenv hc => WIf_nil ?_⟩
      rw [if_pos rfl]
      refine WE_call (C := C) (by walk_at "mem") callable_type ?_
      walk_at "hh"
      refine WC_list (xs := (P i j).map .int) (ISt.obj (p3 i j hi' hj')) (by rw [List.length_map, hlen i j hi' hj']; simp [sizeLine]; omega) ⟨?_, ?_⟩
      · rw [ISt.snoc, List.range_succ, List.map_append, ← List.append_assoc]; rfl
      · rw [List.range_succ, List.map_append, ISt.len, List.length_append, planesBlk_len]
        simp [Nat.add_assoc]
    · rintro acc σ' ⟨rfl, rfl⟩
      refine ⟨ISt.obj (p2 i hi'), ?_, ?_⟩
      · rw [ISt.snoc]
        congr 1
        rw [planesBlk, planeBlk]
        simp
      · rw [List.range_succ, List.map_append, ISt.len, List.length_append, planesBlk_len]
        simp [Nat.add_assoc]
  rintro acc σ' ⟨rfl, rfl⟩
  refine ⟨ISt.obj p1, ?_⟩
  show WE _ _ _ _ _ _ _ _
  rw [ISt.snoc]
  have hNl : (((List.range N).map pv).length) = N := by simp
  rw [hNl]
  have hlenB : (ISt σ0 [] (planesBlk (σ0.length + 2) P H N)).length = σ0.length + 2 + N * (H + 1) := by rw [ISt.len, planesBlk_len]
  rw [hlenB]
  generalize hB : planesBlk (σ0.length + 2) P H N ++ [O.list ((List.range N).map fun k => V.ref (σ0.length + 2 + k * (H + 1) + H))] = J
  have j1 : J[N * (H + 1)]? = some (.list ((List.range N).map fun k => V.ref (σ0.length + 2 + k * (H + 1) + H))) := by rw [← hB, List.getElem?_append_right (by rw [planesBlk_len]; omega), planesBlk_len]; simp
  have j2 : ∀ k, k < N → J[k * (H + 1) + H]? = some (.list ((List.range H).map fun j => V.ref (σ0.length + 2 + k * (H + 1) + j))) := fun k hk => by rw [← hB]; exact gl_up (blk_pl hk)
  have j3 : ∀ k j, k < N → j < H → J[k * (H + 1) + j]? = some (oRow (P k j)) := fun k j hk hj => by rw [← hB]; exact gl_up (blk_row hk hj)
  clear hB hlenB
  walk_at "hh"
  refine set_inst2 (d := σ0.length) (es := []) c.K clsI (by kernel_rfl) ISt.inst ISt.ns (by simp) ISt.set ?_
  have top : ∀ {es : List (Str × V)} {J' : AH}, ObjAt C (ISt σ0 es (J ++ J')) (.ref (σ0.length + 2 + N * (H + 1))) (.list ((List.range N).map fun k => V.ref (σ0.length + 2 + k * (H + 1) + H))) := fun {es J'} => ISt.blk (gl_up j1)
  have pl : ∀ {es : List (Str × V)} {J' : AH} {k : Nat}, k < N → ObjAt C (ISt σ0 es (J ++ J')) (.ref (σ0.length + 2 + k * (H + 1) + H)) (.list ((List.range H).map fun j => V.ref (σ0.length + 2 + k * (H + 1) + j))) := fun {es J' k} hk => by
    have := ISt.blk (σ0 := σ0) (es := es) (gl_up (J := J') (j2 k hk))
    show (ISt σ0 es (J ++ J'))[_]? = _
    rw [← this]; congr 1; omega
  have row : ∀ {es : List (Str × V)} {J' : AH} {k j : Nat}, k < N → j < H → ObjAt C (ISt σ0 es (J ++ J')) (.ref (σ0.length + 2 + k * (H + 1) + j)) (oRow (P k j)) := fun {es J' k j} hk hj => by
    have := ISt.blk (σ0 := σ0) (es := es) (gl_up (J := J') (j3 k j hk hj))
    show (ISt σ0 es (J ++ J'))[_]? = _
    rw [← this]; congr 1; omega
  have eJ : J = J ++ [] := by simp
  rw [eJ]
  generalize ([] : AH) = J'
  walk_at "hh"
  refine WE_call (C := C) (by walk_at "mem") callable_builtin ?_
  walk_at "hh"
  refine at_inst (v := .ref (σ0.length + 2 + N * (H + 1))) c.K clsI (by kernel_rfl) ISt.inst ISt.ns (by kernel_rfl) rfl ?_
  walk_at "hh"
  refine WC_len top (by simp; omega) ?_
  walk_at "hh"
  rw [ISt.snoc, List.append_assoc]
  refine nin_tuple_dd (xs := [.int 1, .int 3]) .int (.tuple (xs := [.int 1, .int 3]) (by show (ISt _ _ _)[_]? = _; rw [← List.append_assoc, ← ISt.snoc]; exact ObjAt.new (C := C) rfl) (.cons .int (.cons .int .nil))) (by decide +kernel) rfl (by show A.units + _ + 65 < _; omega) ?_
  rw [show (!([PyData.int 1, PyData.int 3].any fun y => PyData.eqv y (.int (((List.range N).map fun k => V.ref (σ0.length + 2 + k * (H + 1) + H)).length : Nat)))) = false by rcases hN with rfl | rfl <;> simp [PyData.eqv]]
  generalize J' ++ [O.tuple [V.int 1, V.int 3]] = J''
  clear eJ
  walk_at "hh"
  refine WE_call (C := C) (by walk_at "mem") callable_builtin ?_
  walk_at "hh"
  refine at_inst (v := .ref (σ0.length + 2 + N * (H + 1))) c.K clsI (by kernel_rfl) ISt.inst ISt.ns (by kernel_rfl) rfl ?_
  walk_at "hh"
  refine item_list top (by decide) (by decide) (rng_get (by omega)) ?_
  walk_at "hh"
  refine WC_len (pl (by omega)) (by simp; omega) ?_
  rw [show (((List.range H).map fun j => V.ref (σ0.length + 2 + Int.toNat 0 * (H + 1) + j)).length : Int) = H by simp]
  walk_at "hh"
  refine set_inst2 (d := σ0.length) c.K clsI (by kernel_rfl) ISt.inst ISt.ns (Nat.le_trans putNs_len (Nat.le_of_ble_eq_true rfl)) ISt.set ?_
  walk_at "hh"
  refine at_inst (v := .int H) c.K clsI (by kernel_rfl) ISt.inst ISt.ns (by kernel_rfl) rfl ?_
  walk_at "hh"
  refine ite_t (decide_eq_true (by omega)) ?_
  refine WE_call (C := C) (by walk_at "mem") callable_builtin ?_
  walk_at "hh"
  refine at_inst (v := .ref (σ0.length + 2 + N * (H + 1))) c.K clsI (by kernel_rfl) ISt.inst ISt.ns (by kernel_rfl) rfl ?_
  walk_at "hh"
  refine item_list top (by decide) (by decide) (rng_get (by omega)) ?_
  walk_at "hh"
  refine item_list (pl (by omega)) (by decide) (by decide) (rng_get (by omega)) ?_
  walk_at "hh"
  refine WC_len (row (by omega) (by omega)) (by rw [List.length_map, hlen _ _ (by omega) (by omega)]; omega) ?_
  rw [show (((P (Int.toNat 0) (Int.toNat 0)).map V.int).length : Int) = W by rw [List.length_map, hlen _ _ (by omega) (by omega)]]
  walk_at "hh"
  refine set_inst2 (d := σ0.length) c.K clsI (by kernel_rfl) ISt.inst ISt.ns (Nat.le_trans putNs_len (Nat.le_trans (Nat.succ_le_succ putNs_len) (Nat.le_of_ble_eq_true rfl))) ISt.set ?_
  have eN : putNs (Str.ofString "width") (V.int W) (putNs (Str.ofString "height") (V.int H) (putNs (Str.ofString "planes") (V.ref (σ0.length + 2 + N * (H + 1))) [])) = [(Str.ofString "planes", .ref (σ0.length + 2 + N * (H + 1))), (Str.ofString "height", .int H), (Str.ofString "width", .int W)] := by kernel_rfl
  rw [eN]
  generalize hes : ([(Str.ofString "planes", .ref (σ0.length + 2 + N * (H + 1))), (Str.ofString "height", .int H), (Str.ofString "width", .int W)] : List (Str × V)) = es
  have g1 : es.lookup (Str.ofString "planes") = some (.ref (σ0.length + 2 + N * (H + 1))) := by rw [← hes]; kernel_rfl
  have g2 : es.lookup (Str.ofString "height") = some (.int H) := by rw [← hes]; kernel_rfl
  have g3 : es.lookup (Str.ofString "width") = some (.int W) := by rw [← hes]; kernel_rfl
  clear hes eN j1 j2 j3
  walk_at "hh"
  refine WE_call (C := C) (by walk_at "mem") c.c48 ?_
  walk_at "hh"
  refine at_inst c.K clsI (by kernel_rfl) ISt.inst ISt.ns g2 rfl ?_
  walk_at "hh"
  refine WE_globi (by walk_at "mem") ?_
  walk_at "hh"
  refine number_ok c (by show A.depth + 1 < _; omega) (by omega) (by omega) ?_
  walk_at "hh"
  refine WE_call (C := C) (by walk_at "mem") c.c48 ?_
  walk_at "hh"
  refine at_inst c.K clsI (by kernel_rfl) ISt.inst ISt.ns g3 rfl ?_
  walk_at "hh"
  refine WE_globi (by walk_at "mem") ?_
  walk_at "hh"
  refine number_ok c (by show A.depth + 1 < _; omega) (by omega) (by omega) ?_
  walk_at "hh"
  refine RHs_here (RH_for (WItr_of ?_))
  walk_at "xx"
  refine at_inst c.K clsI (by kernel_rfl) ISt.inst ISt.ns g1 rfl ?_
  refine ⟨_, _, _, Itb_list hA' top, ?_⟩
  refine ⟨fun i ρ' σ' => σ' = ISt σ0 es (J ++ J'') ∧ ρ' = [(Str.ofString "self", some (V.ref (σ0.length + 1))), (Str.ofString "planes", some v), (Str.ofString "plane", none), (Str.ofString "row", none), (Str.ofString "sample", none)], 0, by simp; omega, ⟨rfl, rfl⟩, fun i _ _ hi _ => absurd hi (Nat.not_lt_zero _), ?_⟩
  rintro ρ' σ' ⟨rfl, rfl⟩
  refine ⟨top, ?_⟩
  have h0N : 0 < N := by omega
  have h0H : 0 < H := by omega
  rw [rng_getD h0N]
  walk_at "xx"
  refine Or.inr ?_
  walk_at "hh"
  refine WE_call (C := C) (by walk_at "mem") callable_builtin ?_
  walk_at "xx"
  refine WC_len (pl h0N) (by simp; omega) ?_
  walk_at "xx"
  refine at_inst c.K clsI (by kernel_rfl) ISt.inst ISt.ns g2 rfl ?_
  walk_at "xx"
  refine ite_f (by simp) ?_
  walk_at "hh"
  refine RHs_here (RH_for (WItr_of ?_))
  walk_at "xx"
  refine ⟨_, _, _, Itb_list hA' (pl h0N), ?_⟩
  refine ⟨fun i ρ' σ' => σ' = ISt σ0 es (J ++ J'') ∧ ρ' = [(Str.ofString "self", some (V.ref (σ0.length + 1))), (Str.ofString "planes", some v), (Str.ofString "plane", (some (V.ref (σ0.length + 2 + 0 * (H + 1) + H)))), (Str.ofString "row", none), (Str.ofString "sample", none)], 0, by simp; omega, ⟨rfl, rfl⟩, fun i _ _ hi _ => absurd hi (Nat.not_lt_zero _), ?_⟩
  rintro ρ' σ' ⟨rfl, rfl⟩
  refine ⟨pl h0N, ?_⟩
  rw [rng_getD h0H]
  walk_at "xx"
  refine Or.inr ?_
  walk_at "hh"
  refine WE_call (C := C) (by walk_at "mem") callable_builtin ?_
  walk_at "xx"
  refine WC_len (row h0N h0H) (by rw [List.length_map, hlen _ _ h0N h0H]; omega) ?_
  walk_at "xx"
  refine at_inst c.K clsI (by kernel_rfl) ISt.inst ISt.ns g3 rfl ?_
  walk_at "xx"
  refine ite_f (by simp [hlen 0 0 h0N h0H]) ?_
  walk_at "hh"
  refine RHs_here (RH_for (WItr_of ?_))
  walk_at "xx"
  refine ⟨_, _, _, Itb_list hA' (row h0N h0H), ?_⟩
  refine ⟨fun x ρ' σ' => ∃ a3, σ' = ISt σ0 es (J ++ J'') ∧ ρ' = [(Str.ofString "self", some (V.ref (σ0.length + 1))), (Str.ofString "planes", some v), (Str.ofString "plane", (some (V.ref (σ0.length + 2 + 0 * (H + 1) + H)))), (Str.ofString "row", (some (V.ref (σ0.length + 2 + 0 * (H + 1) + 0)))), (Str.ofString "sample", a3)], m, by rw [List.length_map, hlen _ _ h0N h0H]; exact hm, ⟨_, rfl, rfl⟩, ?_, ?_⟩
  · rintro x ρ' σ' hx ⟨a3, rfl, rfl⟩
    refine ⟨row h0N h0H, ?_⟩
    have hb := hs x hx
    rw [getD_v _ (show x < (P 0 0).length by rw [hlen _ _ h0N h0H]; omega)]
    walk_at "xx"
    refine WE_call (C := C) (by walk_at "mem") c.c48 ?_
    walk_at "xx"
    refine number_ok c (by show A.depth + 1 < _; omega) hb.1 hb.2 ?_
    walk_at "xx"
    exact ⟨_, rfl, rfl⟩
  · rintro ρ' σ' ⟨a3, rfl, rfl⟩
    refine ⟨row h0N h0H, ?_⟩
    rw [getD_v _ (show m < (P 0 0).length by rw [hlen _ _ h0N h0H]; omega), hy]
    walk_at "xx"
    refine Or.inl ?_
    refine RSs_here (RS_expr (RE_call (C := C) (by walk_at "mem") c.c48 ?_))
    walk_at "xx"
    exact number_bad c hA' (by show A.depth + 1 + 1 < _; omega) (by omega) (by omega) (by omega) (by omega) (by decide +kernel) (hq _)
theorem new_bad {C : Cx} {A : Around} {σ : AH} {X : AH → Prop} {v : V} {P : Pln} {N H W m : Nat} {y : Int} (c : Law C) (hA : A.handled = none) (hd' : A.depth + 3 < recursionLimit) (hu : A.units + 220 < cLine)
    (hP : Rd C σ v (imgD P N H)) (hN : N = 1 ∨ N = 3) (hH : 1 ≤ H ∧ H ≤ 512) (hW : 1 ≤ W ∧ W ≤ 512) (hlen : ∀ k j, k < N → j < H → (P k j).length = W) (hs : ∀ x, x < m → 0 ≤ (P 0 0).getD x 0 ∧ (P 0 0).getD x 0 ≤ 255)
    (hm : m < W) (hy : (P 0 0).getD m 0 = y) (hy1 : 255 < y) (hy2 : y < 1000000) (hq : ∀ σ', X σ') : RC C A (.ref 96) [v] σ 31 X := by
  refine RC_new (fI := 60) c.K clsI (by kernel_rfl) (by kernel_rfl) fun xs => ?_
  exact init_bad c hA (by show A.depth + 1 + 2 < _; omega) (by have hcu : (Code.builtin "type.__call__" ⟨.ref 96 :: xs, []⟩).cUnits ≤ 8 := Nat.le_of_ble_eq_true rfl; show A.units + (Code.builtin "type.__call__" ⟨.ref 96 :: xs, []⟩).cUnits + 200 < _; omega) (PlAt.of hP) hN hH hW hlen hs hm hy hy1 hy2 hq
theorem blank_badW {C : Cx} {A : Around} {σ : AH} {X : AH → Prop} {W H s : Int} (c : Law C) (hA : A.handled = none) (hd' : A.depth + 3 < recursionLimit) (hu : A.units + 300 < cLine) (hW : W = 513) (hq : ∀ σ', X σ') : RC C A (.ref 106) [.int 1, .int W, .int H, .int s] σ 31 X := by
  refine RCc.toRC (RCc_def (pn := [Str.ofString "planes", Str.ofString "width", Str.ofString "height", Str.ofString "sample"]) (ln := []) (gl := [(Str.ofString "need_number", Value.ref 48), (Str.ofString "LONGEST", Value.int 512 233), (Str.ofString "Image", Value.ref 96), (Str.ofString "range", Value.type "range")]) (dv := []) (ds := []) (c.K _ _ rfl) rfl (codeRec_of c.K (by kernel_rfl)) (by first | assumption | omega | exact Nat.le_of_ble_eq_true rfl) .nil rfl (fun x v h => c.glo x v ((show ∀ p ∈ ([(Str.ofString "need_number", Value.ref 48), (Str.ofString "LONGEST", Value.int 512 233), (Str.ofString "Image", Value.ref 96), (Str.ofString "range", Value.type "range")] : List (Str × Value)), p ∈ lawGlo by decide +kernel) (x, v) h)) ?_ (by decide +kernel) (by decide +kernel) (by decide +kernel) (by decide +kernel) ?_)
  · intro s xs hkp hl
    obtain ⟨x0, x1, x2, x3, rfl⟩ := len4 hl
    first | exact BindsTo.of_eq rfl | exact BindsTo.of_defaults rfl (hkp _ _ (c.K _ _ rfl)) rfl rfl rfl
  intro env henv
  replace c := c.wg [(Str.ofString "need_number", Value.ref 48), (Str.ofString "LONGEST", Value.int 512 233), (Str.ofString "Image", Value.ref 96), (Str.ofString "range", Value.type "range")]
  show RSs (C.wg [(Str.ofString "need_number", Value.ref 48), (Str.ofString "LONGEST", Value.int 512 233), (Str.ofString "Image", Value.ref 96), (Str.ofString "range", Value.type "range")]) _ _ _ [(Str.ofString "planes", some (.int 1)), (Str.ofString "width", some (.int W)), (Str.ofString "height", some (.int H)), (Str.ofString "sample", some (.int s))] _ _ _ _
  have hA' : (A.deeper env).handled = none := hA
  refine RSs_next ?_
  walk_at "xx"
  refine nin_tuple_dd (xs := [.int 1, .int 3]) .int (.tuple (xs := [.int 1, .int 3]) (ObjAt.new rfl) (.cons .int (.cons .int .nil))) (by decide +kernel) rfl (by show A.units + _ + 65 < _; omega) ?_
  rw [show (!([PyData.int 1, PyData.int 3].any fun y => PyData.eqv y (.int 1))) = false by simp [PyData.eqv]]
  walk_at "xx"
  refine RSs_here (RS_expr (RE_call (C := C) (by walk_at "mem") c.c48 ?_))
  walk_at "xx"
  refine WE_globi (by walk_at "mem") ?_
  walk_at "xx"
  exact number_bad c hA' (by show A.depth + 1 + 1 < _; omega) (by omega) (by omega) (by omega) (by omega) (by decide +kernel) (hq _)
theorem blank_badH {C : Cx} {A : Around} {σ : AH} {X : AH → Prop} {W H s : Int} (c : Law C) (hA : A.handled = none) (hd' : A.depth + 3 < recursionLimit) (hu : A.units + 300 < cLine) (hW : W = 1) (hH : H = 513) (hq : ∀ σ', X σ') : RC C A (.ref 106) [.int 1, .int W, .int H, .int s] σ 31 X := by
  refine RCc.toRC (RCc_def (pn := [Str.ofString "planes", Str.ofString "width", Str.ofString "height", Str.ofString "sample"]) (ln := []) (gl := [(Str.ofString "need_number", Value.ref 48), (Str.ofString "LONGEST", Value.int 512 233), (Str.ofString "Image", Value.ref 96), (Str.ofString "range", Value.type "range")]) (dv := []) (ds := []) (c.K _ _ rfl) rfl (codeRec_of c.K (by kernel_rfl)) (by first | assumption | omega | exact Nat.le_of_ble_eq_true rfl) .nil rfl (fun x v h => c.glo x v ((show ∀ p ∈ ([(Str.ofString "need_number", Value.ref 48), (Str.ofString "LONGEST", Value.int 512 233), (Str.ofString "Image", Value.ref 96), (Str.ofString "range", Value.type "range")] : List (Str × Value)), p ∈ lawGlo by decide +kernel) (x, v) h)) ?_ (by decide +kernel) (by decide +kernel) (by decide +kernel) (by decide +kernel) ?_)
  · intro s xs hkp hl
    obtain ⟨x0, x1, x2, x3, rfl⟩ := len4 hl
    first | exact BindsTo.of_eq rfl | exact BindsTo.of_defaults rfl (hkp _ _ (c.K _ _ rfl)) rfl rfl rfl
  intro env henv
  replace c := c.wg [(Str.ofString "need_number", Value.ref 48), (Str.ofString "LONGEST", Value.int 512 233), (Str.ofString "Image", Value.ref 96), (Str.ofString "range", Value.type "range")]
  show RSs (C.wg [(Str.ofString "need_number", Value.ref 48), (Str.ofString "LONGEST", Value.int 512 233), (Str.ofString "Image", Value.ref 96), (Str.ofString "range", Value.type "range")]) _ _ _ [(Str.ofString "planes", some (.int 1)), (Str.ofString "width", some (.int W)), (Str.ofString "height", some (.int H)), (Str.ofString "sample", some (.int s))] _ _ _ _
  have hA' : (A.deeper env).handled = none := hA
  refine RSs_next ?_
  walk_at "xx"
  refine nin_tuple_dd (xs := [.int 1, .int 3]) .int (.tuple (xs := [.int 1, .int 3]) (ObjAt.new rfl) (.cons .int (.cons .int .nil))) (by decide +kernel) rfl (by show A.units + _ + 65 < _; omega) ?_
  rw [show (!([PyData.int 1, PyData.int 3].any fun y => PyData.eqv y (.int 1))) = false by simp [PyData.eqv]]
  walk_at "xx"
  refine RSs_next ?_
  walk_at "xx"
  refine WE_call (C := C) (by walk_at "mem") c.c48 ?_
  walk_at "xx"
  refine WE_globi (by walk_at "mem") ?_
  walk_at "xx"
  refine number_ok c (by show A.depth + 1 < _; omega) (by omega) (by omega) ?_
  walk_at "xx"
  refine RSs_here (RS_expr (RE_call (C := C) (by walk_at "mem") c.c48 ?_))
  walk_at "xx"
  refine WE_globi (by walk_at "mem") ?_
  walk_at "xx"
  exact number_bad c hA' (by show A.depth + 1 + 1 < _; omega) (by omega) (by omega) (by omega) (by omega) (by decide +kernel) (hq _)
theorem blank_bad2 {C : Cx} {A : Around} {σ : AH} {X : AH → Prop} {s : Int} (c : Law C) (hA : A.handled = none) (hd' : A.depth + 5 < recursionLimit) (hu : A.units + 400 < cLine) (hs : s = 256) (hq : ∀ σ', X σ') : RC C A (.ref 106) [.int 3, .int 2, .int 1, .int s] σ 31 X := by
  refine RCc.toRC (RCc_def (pn := [Str.ofString "planes", Str.ofString "width", Str.ofString "height", Str.ofString "sample"]) (ln := []) (gl := [(Str.ofString "need_number", Value.ref 48), (Str.ofString "LONGEST", Value.int 512 233), (Str.ofString "Image", Value.ref 96), (Str.ofString "range", Value.type "range")]) (dv := []) (ds := []) (c.K _ _ rfl) rfl (codeRec_of c.K (by kernel_rfl)) (by first | assumption | omega | exact Nat.le_of_ble_eq_true rfl) .nil rfl (fun x v h => c.glo x v ((show ∀ p ∈ ([(Str.ofString "need_number", Value.ref 48), (Str.ofString "LONGEST", Value.int 512 233), (Str.ofString "Image", Value.ref 96), (Str.ofString "range", Value.type "range")] : List (Str × Value)), p ∈ lawGlo by decide +kernel) (x, v) h)) ?_ (by decide +kernel) (by decide +kernel) (by decide +kernel) (by decide +kernel) ?_)
  · intro s xs hkp hl
    obtain ⟨x0, x1, x2, x3, rfl⟩ := len4 hl
    first | exact BindsTo.of_eq rfl | exact BindsTo.of_defaults rfl (hkp _ _ (c.K _ _ rfl)) rfl rfl rfl
  intro env henv
  replace c := c.wg [(Str.ofString "need_number", Value.ref 48), (Str.ofString "LONGEST", Value.int 512 233), (Str.ofString "Image", Value.ref 96), (Str.ofString "range", Value.type "range")]
  show RSs (C.wg [(Str.ofString "need_number", Value.ref 48), (Str.ofString "LONGEST", Value.int 512 233), (Str.ofString "Image", Value.ref 96), (Str.ofString "range", Value.type "range")]) _ _ _ [(Str.ofString "planes", some (.int 3)), (Str.ofString "width", some (.int 2)), (Str.ofString "height", some (.int 1)), (Str.ofString "sample", some (.int s))] _ _ _ _
  have hA' : (A.deeper env).handled = none := hA
  refine RSs_next ?_
  walk_at "xx"
  refine nin_tuple_dd (xs := [.int 1, .int 3]) .int (.tuple (xs := [.int 1, .int 3]) (ObjAt.new rfl) (.cons .int (.cons .int .nil))) (by decide +kernel) rfl (by show A.units + _ + 65 < _; omega) ?_
  rw [show (!([PyData.int 1, PyData.int 3].any fun y => PyData.eqv y (.int 3))) = false by simp [PyData.eqv]]
  walk_at "xx"
  refine RSs_next ?_
  walk_at "xx"
  refine WE_call (C := C) (by walk_at "mem") c.c48 ?_
  walk_at "xx"
  refine WE_globi (by walk_at "mem") ?_
  walk_at "xx"
  refine number_ok c (by show A.depth + 1 < _; omega) (by omega) (by omega) ?_
  walk_at "xx"
  refine RSs_next ?_
  walk_at "xx"
  refine WE_call (C := C) (by walk_at "mem") c.c48 ?_
  walk_at "xx"
  refine WE_globi (by walk_at "mem") ?_
  walk_at "xx"
  refine number_ok c (by show A.depth + 1 < _; omega) (by omega) (by omega) ?_
  walk_at "xx"
  refine RSs_here (RS_return (RE_call (C := C) (by walk_at "mem") c.c96 ?_))
  refine WL_cons ?_
  refine WE_ListComp2 (l2 := [(Str.ofString "range", Value.type "range")]) (capt := [(Str.ofString "width", some (.int 2)), (Str.ofString "height", some (.int 1)), (Str.ofString "sample", some (.int s))]) henv (by show compOk _ _ _ [Str.ofString "width", Str.ofString "height", Str.ofString "sample"] [Str.ofString "range"] = true; decide +kernel) (by show [Str.ofString "width", Str.ofString "height", Str.ofString "sample"].Nodup; decide +kernel) (by
    intro p hp
    simp only [List.mem_cons, List.not_mem_nil, or_false] at hp
    rcases hp with rfl | rfl | rfl <;> walk_at "mem") (by intro p hp; simp only [List.mem_singleton] at hp; subst hp; exact .inl (by walk_at "mem")) ?_
  refine WItr_rng hA' (by walk_at "mem") ?_
  walk_at "xx"
  refine exNat (n := 3) ⟨by omega, ?_⟩
  refine CompGo_data (fun _ => .list ((List.range 1).map fun _ => rowD (List.replicate 2 s))) (by simp [sizeLine]) (fun _ => trivial) ?_ ?_
  · rintro i pv J hi rfl cenv hc
    refine WE_ListComp2 (C := C) (l2 := []) (capt := [(Str.ofString "width", some (.int 2)), (Str.ofString "sample", some (.int s))]) hc (by show compOk _ _ _ [Str.ofString "width", Str.ofString "sample"] [] = true; decide +kernel) (by show [Str.ofString "width", Str.ofString "sample"].Nodup; decide +kernel) (by
      intro p hp
      simp only [List.mem_cons, List.not_mem_nil, or_false] at hp
      rcases hp with rfl | rfl <;> walk_at "mem") (by simp) ?_
    refine WItr_rng hA' (by walk_at "mem") ?_
    walk_at "xx"
    refine exNat (n := 1) ⟨by omega, ?_⟩
    refine CompGo_data (fun _ => rowD (List.replicate 2 s)) (by simp [sizeLine]) (fun _ => trivial) ?_ ?_
    · rintro j pv J' hj rfl cenv hc
      walk_at "xx"
      refine mul_li (xs := [.int s]) (ObjAt.new (C := C) rfl) (by omega) (by omega) (by simp) ⟨[.list [.int s]] ++ [.list ((List.replicate 2 s).map .int)], ?_, ?_⟩
      · rw [← rep_ints]; simp
      · rw [show (2 : Int).toNat = 2 from rfl, rep_ints]
        exact Rd.lst (ObjAt.new rfl)
    · intro J' acc ha
      exact ⟨J' ++ [.list acc], by simp, .list (ObjAt.new rfl) ha.up⟩
  intro J acc ha
  walk_at "xx"
  refine new_bad (P := fun _ _ => List.replicate 2 s) (N := 3) (H := 1) (W := 2) (m := 0) (y := s) c hA' (by show A.depth + 1 + 3 < _; omega) (by show A.units + _ + 220 < _; omega) (Rd.wg (.list (ObjAt.new rfl) ha.up)) (.inr rfl) (by omega) (by omega) (fun k j _ _ => by simp) (fun x hx => absurd hx (Nat.not_lt_zero _)) (by omega) (by simp) (by omega) (by omega) hq
def lnV (N W H : Nat) (r : List Int) (k : Nat) : List V := ((rowsOf N W H r k).map lineOf).map .str
theorem lnV_len {N W H k : Nat} {r : List Int} : (lnV N W H r k).length = k + 1 := by simp [lnV, rowsOf]
theorem lnV_snoc {N W H k : Nat} {r : List Int} : lnV N W H r k ++ [V.str (lineOf r)] = lnV N W H r (k + 1) := by
  simp [lnV, rowsOf, List.replicate_succ']
theorem take_nm {r : List Int} {x : Nat} (h : x < r.length) : ((r.take x).map nm).map V.str ++ [V.str (nm (r.getD x 0))] = ((r.take (x + 1)).map nm).map V.str := by
  rw [List.take_add_one, List.getElem?_eq_getElem h]
  simp only [List.map_append, Option.toList, List.map_cons, List.map_nil, List.getD, List.getElem?_eq_getElem h, Option.getD_some]
theorem take_int {r : List Int} {x : Nat} (h : x < r.length) : (r.take x).map V.int ++ [V.int (r.getD x 0)] = (r.take (x + 1)).map V.int := by
  rw [List.take_add_one, List.getElem?_eq_getElem h]
  simp only [List.map_append, Option.toList, List.map_cons, List.map_nil, List.getD, List.getElem?_eq_getElem h, Option.getD_some]
theorem nm_small {n : Nat} (h : n ≤ 512) : ((n : Int)).natAbs.log2 < 1920 := log_small (by omega) (by omega)
theorem lines_spec {C : Cx} {A : Around} {σ : AH} {E : EX} {Q : V → AH → Prop} {b : Nat} {r : List Int} {N H W : Nat} (c : Law C) (hA : A.handled = none) (hd' : A.depth < recursionLimit) (f : Fit N W H r) (h : ImgAt σ b (fun _ _ => r) N H W)
    (hq : ∀ J, Q (.ref σ.length) (σ ++ [.list (lnV N W H r (N * H))] ++ J)) : WC C A (.ref 93) [.ref (b + 1)] σ Q E := by
  refine WC_def (pn := [Str.ofString "self"]) (ln := [Str.ofString "out", Str.ofString "plane", Str.ofString "row"]) (gl := [(Str.ofString "len", Value.builtin "len"), (Str.ofString "str", Value.type "str")]) (dv := []) (ds := []) (c.K _ _ rfl) rfl (codeRec_of c.K (by kernel_rfl)) (by first | assumption | omega | exact Nat.le_of_ble_eq_true rfl) .nil rfl (fun x v h => c.glo x v ((show ∀ p ∈ ([(Str.ofString "len", Value.builtin "len"), (Str.ofString "str", Value.type "str")] : List (Str × Value)), p ∈ lawGlo by decide +kernel) (x, v) h)) ?_ (by decide +kernel) (by decide +kernel) (by decide +kernel) (by decide +kernel) ?_
  · intro s xs hkp hl
    obtain ⟨x0, rfl⟩ := len1 hl
    first | exact BindsTo.of_eq rfl | exact BindsTo.of_defaults rfl (hkp _ _ (c.K _ _ rfl)) rfl rfl rfl
  intro env henv
  replace c := c.wg [(Str.ofString "len", Value.builtin "len"), (Str.ofString "str", Value.type "str")]
  show WSs (C.wg [(Str.ofString "len", Value.builtin "len"), (Str.ofString "str", Value.type "str")]) _ _ _ [(Str.ofString "self", some (.ref (b + 1))), (Str.ofString "out", none), (Str.ofString "plane", none), (Str.ofString "row", none)] _ _ _
  have hA' : (A.deeper env).handled = none := hA
  have hn3 : N ≤ 512 := by rcases f.n with e | e <;> omega
  have l1 : (Str.ofString " ").length = 1 := by decide +kernel
  have a1 : 0 < (Str.ofString (toString (N : Int))).length ∧ (Str.ofString (toString (N : Int))).length ≤ 3 := nm_len (n := (N : Int)) (by omega) (by have := f.n; omega)
  have a2 : 0 < (Str.ofString (toString (W : Int))).length ∧ (Str.ofString (toString (W : Int))).length ≤ 3 := nm_len (n := (W : Int)) (by omega) (by have := f.w; omega)
  have a3 : 0 < (Str.ofString (toString (H : Int))).length ∧ (Str.ofString (toString (H : Int))).length ≤ 3 := nm_len (n := (H : Int)) (by omega) (by have := f.h; omega)
  have z0 : sizeLine = 16777216 := rfl
  walk_at "xx"
  refine WE_call (C := C) (by walk_at "mem") callable_type ?_
  walk_at "xx"
  refine WE_call (C := C) (by walk_at "mem") callable_builtin ?_
  walk_at "xx"
  refine at_planes c h ?_
  walk_at "xx"
  refine WC_len (show ObjAt _ _ _ _ from h.top) (by simp; omega) ?_
  rw [show (((List.range N).map fun k => V.ref (b + 2 + k * (H + 1) + H)).length : Int) = N by simp]
  walk_at "xx"
  refine WC_strI (nm_small hn3) ?_
  walk_at "xx"
  refine add_ss (by omega) ?_
  walk_at "xx"
  refine WE_call (C := C) (by walk_at "mem") callable_type ?_
  walk_at "xx"
  refine at_width c h ?_
  walk_at "xx"
  refine WC_strI (nm_small f.w.2) ?_
  refine add_ss (by rw [Str.length_append]; omega) ?_
  walk_at "xx"
  refine add_ss (by rw [Str.length_append, Str.length_append]; omega) ?_
  walk_at "xx"
  refine WE_call (C := C) (by walk_at "mem") callable_type ?_
  walk_at "xx"
  refine at_height c h ?_
  walk_at "xx"
  refine WC_strI (nm_small f.h.2) ?_
  refine add_ss (by rw [Str.length_append, Str.length_append, Str.length_append]; omega) ?_
  rw [head_line]
  walk_at "xx"
  have e0 : [V.str (lineOf [(N : Int), W, H])] = lnV N W H r 0 := rfl
  rw [e0]
  refine WS_for (WItr_of ?_)
  walk_at "xx"
  refine at_planes c h.up ?_
  refine ⟨_, _, _, Itb_list hA' (show ObjAt _ _ _ _ from h.up.top), ?_⟩
  refine ⟨fun i ρ' σ' => ∃ J a1 a2, σ' = σ ++ [.list (lnV N W H r (i * H))] ++ J ∧ ρ' = ([(Str.ofString "self", (some (V.ref (b + 1)))), (Str.ofString "out", (some (V.ref σ.length))), (Str.ofString "plane", a1), (Str.ofString "row", a2)] : Loc), ⟨[], _, _, by simp, rfl⟩, ?_, ?_⟩
  · rintro i ρ' σ' hi ⟨J, a1, a2, rfl, rfl⟩
    have hi' : i < N := by simpa using hi
    refine ⟨show ObjAt _ _ _ _ from h.up.up.top, ?_⟩
    rw [rng_getD hi']
    walk_at "xx"
    refine WS_for (WItr_of ?_)
    walk_at "xx"
    refine ⟨_, _, _, Itb_list hA' (show ObjAt _ _ _ _ from h.up.up.pl i hi'), ?_⟩
    refine ⟨fun j ρ' σ' => ∃ J a2, σ' = σ ++ [.list (lnV N W H r (i * H + j))] ++ J ∧ ρ' = ([(Str.ofString "self", (some (V.ref (b + 1)))), (Str.ofString "out", (some (V.ref σ.length))), (Str.ofString "plane", (some (V.ref (b + 2 + i * (H + 1) + H)))), (Str.ofString "row", a2)] : Loc), ⟨_, _, rfl, rfl⟩, ?_, ?_⟩
    · rintro j ρ' σ' hj ⟨J, a2, rfl, rfl⟩
      have hj' : j < H := by simpa using hj
      refine ⟨show ObjAt _ _ _ _ from h.up.up.pl i hi', ?_⟩
      rw [rng_getD hj']
      have hrow : ∀ {J'}, ObjAt C (σ ++ [.list (lnV N W H r (i * H + j))] ++ J') (.ref (b + 2 + i * (H + 1) + j)) (.list (r.map .int)) := fun {J'} => show ObjAt _ _ _ _ from h.up.up.row i j hi' hj'
      have hb : i * H + j < N * H := by
        have : (i + 1) * H ≤ N * H := Nat.mul_le_mul_right _ hi'
        rw [Nat.add_mul] at this; omega
      have hnh := f.nh
      walk_at "xx"
      refine WE_meth ?_
      walk_at "xx"
      refine WM_append (get_mid rfl) ⟨callable_builtin, ?_⟩
      refine WL_cons ?_
      refine WE_meth ?_
      walk_at "xx"
      refine WM_join ⟨callable_builtin, ?_⟩
      refine WL_cons ?_
      refine WE_ListComp2 (l2 := [(Str.ofString "str", Value.type "str")]) (capt := []) henv (by show compOk _ _ _ [] [Str.ofString "str"] = true; decide +kernel) (by simp) (by simp) (by intro p hp; simp only [List.mem_singleton] at hp; subst hp; exact .inl (by walk_at "mem")) ?_
      refine WItr_of ?_
      walk_at "xx"
      refine ⟨_, _, _, Itb_list hA' hrow, ?_⟩
      refine ⟨by rw [List.length_map, f.len]; have := f.w; omega, fun x acc σ' => σ' = σ ++ [.list (lnV N W H r (i * H + j))] ++ J ∧ acc = ((r.take x).map nm).map .str, ⟨rfl, rfl⟩, ?_, ?_⟩
      · rintro x acc σ' pv hx hp ⟨rfl, rfl⟩
        rw [List.length_map] at hx
        have hm := f.s (r.getD x 0) (by simp [List.getD, hx])
        replace hp : V.int (r.getD x 0) = pv := (getD_v _ hx).symm.trans hp
        subst hp
        refine ⟨hrow, fun cenv hc => WIf_nil ?_⟩
        rw [if_pos rfl]
        refine WE_call (C := C) (by walk_at "mem") callable_type ?_
        walk_at "xx"
        refine WC_strI (log_small hm.1 (by omega)) ?_
        exact ⟨rfl, take_nm hx⟩
      · rintro acc σ' ⟨rfl, rfl⟩
        refine ⟨hrow, ?_⟩
        rw [List.length_map, List.take_length]
        walk_at "xx"
        refine WC_join (ys := r.map nm) (ObjAt.new rfl) (nm_sum (fun x hx => f.small.2 x hx) (by rw [f.len]; exact f.w.2)) ?_
        rw [sp_eq]
        show WL _ _ _ _ _ _ _ _
        walk_at "xx"
        rw [List.append_assoc]
        refine WC_append (get_mid rfl) (by rw [lnV_len]; omega) ?_
        rw [set_mid rfl]
        walk_at "xx"
        exact ⟨J ++ [O.list ((r.map nm).map .str)], _, congrArg (fun l => σ ++ [O.list l] ++ (J ++ [O.list ((r.map nm).map V.str)])) lnV_snoc, rfl⟩
    · rintro ρ' σ' ⟨J, a2, rfl, rfl⟩
      refine ⟨show ObjAt _ _ _ _ from h.up.up.pl i hi', ?_⟩
      walk_at "xx"
      exact ⟨_, _, _, by rw [List.length_map, List.length_range, Nat.add_mul, Nat.one_mul], rfl⟩
  · rintro ρ' σ' ⟨J, a1, a2, rfl, rfl⟩
    refine ⟨show ObjAt _ _ _ _ from h.up.up.top, ?_⟩
    rw [List.length_map, List.length_range]
    walk_at "xx"
    exact hq J
theorem sample_spec {C : Cx} {A : Around} {σ : AH} {E : EX} {Q : V → AH → Prop} {x : Int} (c : Law C) (hA : A.handled = none) (hd' : A.depth < recursionLimit) (h0 : 0 ≤ x) (h1 : x < 1000) (hq : Q (.int x) σ) : WC C A (.ref 118) [.str (nm x)] σ Q E := by
  refine WC_def (pn := [Str.ofString "word"]) (ln := [Str.ofString "sign"]) (gl := [(Str.ofString "len", Value.builtin "len"), (Str.ofString "PackError", Value.ref 31), (Str.ofString "shown", Value.ref 41), (Str.ofString "int", Value.type "int")]) (dv := []) (ds := []) (c.K _ _ rfl) rfl (codeRec_of c.K (by kernel_rfl)) (by first | assumption | omega | exact Nat.le_of_ble_eq_true rfl) .nil rfl (fun x v h => c.glo x v ((show ∀ p ∈ ([(Str.ofString "len", Value.builtin "len"), (Str.ofString "PackError", Value.ref 31), (Str.ofString "shown", Value.ref 41), (Str.ofString "int", Value.type "int")] : List (Str × Value)), p ∈ lawGlo by decide +kernel) (x, v) h)) ?_ (by decide +kernel) (by decide +kernel) (by decide +kernel) (by decide +kernel) ?_
  · intro s xs hkp hl
    obtain ⟨x0, rfl⟩ := len1 hl
    first | exact BindsTo.of_eq rfl | exact BindsTo.of_defaults rfl (hkp _ _ (c.K _ _ rfl)) rfl rfl rfl
  intro env henv
  replace c := c.wg [(Str.ofString "len", Value.builtin "len"), (Str.ofString "PackError", Value.ref 31), (Str.ofString "shown", Value.ref 41), (Str.ofString "int", Value.type "int")]
  show WSs (C.wg [(Str.ofString "len", Value.builtin "len"), (Str.ofString "PackError", Value.ref 31), (Str.ofString "shown", Value.ref 41), (Str.ofString "int", Value.type "int")]) _ _ _ [(Str.ofString "word", some (.str (nm x))), (Str.ofString "sign", none)] _ _ _
  have hA' : (A.deeper env).handled = none := hA
  have hl := nm_len h0 h1
  walk_at "xx"
  refine WE_call (C := C) (by walk_at "mem") callable_builtin ?_
  walk_at "xx"
  refine WC_lenS (by have : sizeLine = 16777216 := rfl; omega) ?_
  walk_at "xx"
  refine ite_f (decide_eq_false (by omega)) ?_
  walk_at "xx"
  refine WS_for (WItr_of ?_)
  walk_at "xx"
  refine ⟨_, _, _, Itb_str hA' (nm_ascii h0), ?_⟩
  refine ⟨fun i ρ' σ' => ∃ a2, σ' = σ ∧ ρ' = [(Str.ofString "word", some (V.str (nm x))), (Str.ofString "sign", a2)], ⟨_, rfl, rfl⟩, ?_, ?_⟩
  · rintro i ρ' σ' hi ⟨a2, rfl, rfl⟩
    refine ⟨trivial, ?_⟩
    walk_at "xx"
    refine nin_ss ?_
    rw [dig_in (nm_at h0 hi)]
    walk_at "xx"
    exact ⟨_, rfl, rfl⟩
  · rintro ρ' σ' ⟨a2, rfl, rfl⟩
    refine ⟨trivial, ?_⟩
    walk_at "xx"
    refine WE_call (C := C) (by walk_at "mem") callable_type ?_
    walk_at "xx"
    refine WC_intS (KIN.num_reads h0 (by omega)) (by omega) ?_
    walk_at "xx"
    exact hq
def rdBlk (R : Nat → List Int) : Nat → AH
  | 0 => []
  | n + 1 => rdBlk R n ++ [.list (((R n).map nm).map .str), oRow (R n)]
theorem rdBlk_len {R : Nat → List Int} : ∀ n, (rdBlk R n).length = 2 * n
  | 0 => rfl
  | n + 1 => by rw [rdBlk, List.length_append, rdBlk_len n]; simp; omega
theorem rdBlk_row {R : Nat → List Int} : ∀ {n k : Nat}, k < n → (rdBlk R n)[2 * k + 1]? = some (oRow (R k))
  | n + 1, k, hk => by
    rw [rdBlk]
    by_cases h : k < n
    · exact gl_up (rdBlk_row h)
    · obtain rfl : k = n := by omega
      rw [List.getElem?_append_right (by rw [rdBlk_len]; omega), rdBlk_len]
      simp
theorem rows_get {N W H m k : Nat} {r : List Int} (h : k < m + 1) : (rowsOf N W H r m)[k]? = some (if k = 0 then [(N : Int), W, H] else r) := by
  cases k with
  | zero => rfl
  | succ k =>
    rw [if_neg (by omega)]
    show (List.replicate m r)[k]? = _
    rw [List.getElem?_replicate, if_pos (by omega)]
theorem read_spec {C : Cx} {A : Around} {σ : AH} {E : EX} {Q : V → AH → Prop} {r : List Int} {N H W : Nat} {t : Str} (c : Law C) (hA : A.handled = none) (hd' : A.depth + 4 < recursionLimit) (hu : A.units + 400 < cLine) (f : Fit N W H r) (ht : t = Txt.join ⟨#[10]⟩ ((rowsOf N W H r (N * H)).map lineOf))
    (hq : ∀ J b, ImgAt (σ ++ J) b (fun _ _ => r) N H W → Q (.ref (b + 1)) (σ ++ J)) : WC C A (.ref 111) [.str t] σ Q E := by
  refine WC_def (pn := [Str.ofString "text"]) (ln := [Str.ofString "rows", Str.ofString "line", Str.ofString "planes", Str.ofString "width", Str.ofString "height", Str.ofString "image"]) (gl := [(Str.ofString "len", Value.builtin "len"), (Str.ofString "PackError", Value.ref 31), (Str.ofString "range", Value.type "range"), (Str.ofString "Image", Value.ref 96)]) (dv := []) (ds := []) (c.K _ _ rfl) rfl (codeRec_of c.K (by kernel_rfl)) (by first | assumption | omega | exact Nat.le_of_ble_eq_true rfl) .nil rfl (fun x v h => c.glo x v ((show ∀ p ∈ ([(Str.ofString "len", Value.builtin "len"), (Str.ofString "PackError", Value.ref 31), (Str.ofString "range", Value.type "range"), (Str.ofString "Image", Value.ref 96)] : List (Str × Value)), p ∈ lawGlo by decide +kernel) (x, v) h)) ?_ (by decide +kernel) (by decide +kernel) (by decide +kernel) (by decide +kernel) ?_
  · intro s xs hkp hl
    obtain ⟨x0, rfl⟩ := len1 hl
    first | exact BindsTo.of_eq rfl | exact BindsTo.of_defaults rfl (hkp _ _ (c.K _ _ rfl)) rfl rfl rfl
  intro env henv
  replace c := c.wg [(Str.ofString "len", Value.builtin "len"), (Str.ofString "PackError", Value.ref 31), (Str.ofString "range", Value.type "range"), (Str.ofString "Image", Value.ref 96)]
  show WSs (C.wg [(Str.ofString "len", Value.builtin "len"), (Str.ofString "PackError", Value.ref 31), (Str.ofString "range", Value.type "range"), (Str.ofString "Image", Value.ref 96)]) _ _ _ [(Str.ofString "text", some (.str t)), (Str.ofString "rows", none), (Str.ofString "line", none), (Str.ofString "planes", none), (Str.ofString "width", none), (Str.ofString "height", none), (Str.ofString "image", none)] _ _ _
  have hA' : (A.deeper env).handled = none := hA
  have hnh := f.nh
  have z0 : sizeLine = 16777216 := rfl
  have hw2 := f.w
  have hh2 := f.h
  have hn2 := f.n
  walk_at "xx"
  refine WS_for (WItr_of ?_)
  refine WE_meth ?_
  walk_at "xx"
  refine WM_split ⟨callable_builtin, ?_⟩
  walk_at "xx"
  refine WC_split1 (ws := (rowsOf N W H r (N * H)).map lineOf) (by rw [ht]; exact f.split) (by decide +kernel) (by rw [ht]; have := f.text; omega) (by simp [rowsOf]; omega) ?_
  obtain ⟨R, hR⟩ : ∃ R : Nat → List Int, R = fun k => if k = 0 then [(N : Int), W, H] else r := ⟨_, rfl⟩
  have hget : ∀ k, k < N * H + 1 → (rowsOf N W H r (N * H))[k]? = some (R k) := fun k hk => by rw [hR]; exact rows_get hk
  generalize hL : ((rowsOf N W H r (N * H)).map lineOf).map V.str = L
  have hLn : L.length = N * H + 1 := by rw [← hL]; simp [rowsOf]
  have hLg : ∀ k, k < N * H + 1 → L.getD k .none = .str (lineOf (R k)) := fun k hk => by rw [← hL]; simp [List.getD, hget k hk]
  refine ⟨_, _, _, Itb_list hA' (ObjAt.new rfl), ?_⟩
  refine ⟨fun i ρ' σ' => ∃ a1, σ' = σ ++ [.list ((List.range i).map fun k => V.ref (σ.length + 2 + (2 * k + 1)))] ++ ([.list L] ++ rdBlk R i) ∧ ρ' = ([(Str.ofString "text", (some (V.str t))), (Str.ofString "rows", (some (V.ref σ.length))), (Str.ofString "line", a1), (Str.ofString "planes", none), (Str.ofString "width", none), (Str.ofString "height", none), (Str.ofString "image", none)] : Loc), ⟨_, by simp [rdBlk], rfl⟩, ?_, ?_⟩
  · rintro i ρ' σ' hi ⟨a1, rfl, rfl⟩
    rw [hLn] at hi
    have hsm : Small (R i) := f.rows (R i) (List.mem_of_getElem? (hget i hi))
    have hrl : (R i).length ≤ 512 := f.rowlen (R i) (List.mem_of_getElem? (hget i hi))
    have hll := lineOf_len hsm
    refine ⟨?_, ?_⟩
    · show (σ ++ [O.list _] ++ ([O.list L] ++ rdBlk R i))[_]? = _
      rw [← List.append_assoc, List.getElem?_append_left (by simp), List.getElem?_append_right (by simp)]
      simp
    rw [hLg i hi]
    walk_at "xx"
    refine WE_meth ?_
    walk_at "xx"
    refine WM_strip ⟨callable_builtin, ?_⟩
    walk_at "xx"
    refine WC_strip (by omega) ?_
    walk_at "xx"
    refine ite_t (by have := lineOf_strip hsm; simp only [bne_iff_ne, ne_eq]; exact this) ?_
    walk_at "xx"
    refine WE_meth ?_
    walk_at "xx"
    refine WM_append (get_mid rfl) ⟨callable_builtin, ?_⟩
    refine WL_cons ?_
    refine WE_ListComp2 (l2 := [(Str.ofString "_sample", Value.ref 118)]) (capt := []) henv (by show compOk _ _ _ [] [Str.ofString "_sample"] = true; decide +kernel) (by simp) (by simp) (by intro p hp; simp only [List.mem_singleton] at hp; subst hp; exact .inr (c.glo _ _ (by decide +kernel))) ?_
    refine WItr_of ?_
    refine WE_meth ?_
    walk_at "xx"
    refine WM_split ⟨callable_builtin, ?_⟩
    walk_at "xx"
    refine WC_split0 (ws := (R i).map nm) (lineOf_words hsm) (by omega) ?_
    refine ⟨_, _, _, Itb_list hA' (ObjAt.new rfl), ?_⟩
    generalize hτ : σ ++ [O.list ((List.range i).map fun k => V.ref (σ.length + 2 + (2 * k + 1)))] ++ ([O.list L] ++ rdBlk R i) = τ
    have hτl : τ.length = σ.length + 2 + 2 * i := by rw [← hτ]; simp [rdBlk_len]; omega
    refine ⟨by simp; omega, fun x acc σ' => σ' = τ ++ [.list (((R i).map nm).map .str)] ∧ acc = ((R i).take x).map .int, ⟨rfl, rfl⟩, ?_, ?_⟩
    · rintro x acc σ' pv hx hp ⟨rfl, rfl⟩
      have hx' : x < (R i).length := by simpa using hx
      have hm := hsm.2 ((R i).getD x 0) (by simp [List.getD, hx'])
      have hp' : V.str (nm ((R i).getD x 0)) = pv := by rw [← hp]; simp [List.getD, hx']
      subst hp'
      refine ⟨ObjAt.new rfl, fun cenv hc => WIf_nil ?_⟩
      rw [if_pos rfl]
      refine WE_call (C := C) (by walk_at "mem") c.c118 ?_
      walk_at "xx"
      refine sample_spec (c.wg _) hA' (by show A.depth + 1 < _; omega) hm.1 hm.2 ?_
      exact ⟨rfl, take_int hx'⟩
    · rintro acc σ' ⟨rfl, rfl⟩
      refine ⟨ObjAt.new rfl, ?_⟩
      rw [show (((R i).map nm).map V.str).length = (R i).length by simp, List.take_length]
      walk_at "xx"
      have eτ : τ ++ [O.list (((R i).map nm).map V.str)] ++ [O.list ((R i).map V.int)] = σ ++ [O.list ((List.range i).map fun k => V.ref (σ.length + 2 + (2 * k + 1)))] ++ ([O.list L] ++ rdBlk R (i + 1)) := by rw [← hτ]; simp [rdBlk, oRow]
      rw [eτ]
      refine WC_append (get_mid rfl) (by simp; omega) ?_
      rw [set_mid rfl]
      walk_at "xx"
      refine ⟨_, ?_, rfl⟩
      have e1 : (τ ++ [O.list (((R i).map nm).map V.str)]).length = σ.length + 2 + (2 * i + 1) := by rw [List.length_append, hτl]; rfl
      rw [List.range_succ, List.map_append, e1]
      rfl
  rintro ρ' σ' ⟨a1, rfl, rfl⟩
  rw [hLn]
  refine ⟨?_, ?_⟩
  · show (σ ++ [O.list _] ++ ([O.list L] ++ rdBlk R _))[_]? = _
    rw [← List.append_assoc, List.getElem?_append_left (by simp), List.getElem?_append_right (by simp)]
    simp
  generalize hV : ((List.range (N * H + 1)).map fun k => V.ref (σ.length + 2 + (2 * k + 1))) = vs
  have hVl : vs.length = N * H + 1 := by rw [← hV]; simp
  have hVg : ∀ k, k < N * H + 1 → vs[k]? = some (V.ref (σ.length + 2 + (2 * k + 1))) := fun k hk => by rw [← hV]; simp [hk]
  have hro : ∀ k, k < N * H + 1 → ObjAt C (σ ++ [.list vs] ++ ([.list L] ++ rdBlk R (N * H + 1))) (.ref (σ.length + 2 + (2 * k + 1))) (oRow (R k)) := fun k hk => by
    show (σ ++ [O.list vs] ++ ([O.list L] ++ rdBlk R (N * H + 1)))[_]? = _
    rw [← List.append_assoc, List.getElem?_append_right (by first | (simp; done) | (simp; omega))]
    rw [show σ.length + 2 + (2 * k + 1) - (σ ++ [O.list vs] ++ [O.list L]).length = 2 * k + 1 by first | (simp; done) | (simp; omega)]
    exact rdBlk_row hk
  have hvo : ObjAt C (σ ++ [.list vs] ++ ([.list L] ++ rdBlk R (N * H + 1))) (.ref σ.length) (.list vs) := get_mid rfl
  generalize hJ : [O.list vs] ++ ([O.list L] ++ rdBlk R (N * H + 1)) = J0
  rw [List.append_assoc, hJ] at hvo ⊢
  replace hro : ∀ k, k < N * H + 1 → ObjAt C (σ ++ J0) (.ref (σ.length + 2 + (2 * k + 1))) (oRow (R k)) := fun k hk => by have := hro k hk; rw [List.append_assoc, hJ] at this; exact this
  have hR0 : R 0 = [(N : Int), W, H] := by rw [hR]; rfl
  have hR1 : ∀ k, R (k + 1) = r := fun k => by rw [hR]; rfl
  clear hL hLn hLg hget hV hJ hR
  walk_at "xx"
  refine WE_call (C := C) (by walk_at "mem") callable_builtin ?_
  walk_at "xx"
  refine WC_len hvo (by omega) ?_
  rw [hVl]
  walk_at "xx"
  refine WE_call (C := C) (by walk_at "mem") callable_builtin ?_
  walk_at "xx"
  refine item_list hvo (by decide) (by decide) (hVg 0 (by omega)) ?_
  walk_at "xx"
  refine WC_len (hro 0 (by omega)) (by rw [hR0]; simp) ?_
  rw [hR0]
  walk_at "xx"
  try refine ite_f (by simp) ?_
  walk_at "xx"
  refine item_list hvo (by decide) (by decide) (hVg 0 (by omega)) ?_
  refine WAs_list (vs := [.int (N : Int), .int (W : Int), .int (H : Int)]) hA' (by have := hro 0 (by omega); rw [hR0] at this; exact this) ?_
  walk_at "xx"
  refine nin_tuple_dd (xs := [.int 1, .int 3]) .int (.tuple (xs := [.int 1, .int 3]) (ObjAt.new rfl) (.cons .int (.cons .int .nil))) (by decide +kernel) rfl (by show A.units + _ + 65 < _; omega) ?_
  rw [show (!([PyData.int 1, PyData.int 3].any fun y => PyData.eqv y (.int (N : Int)))) = false by rcases hn2 with rfl | rfl <;> simp [PyData.eqv]]
  walk_at "xx"
  refine WE_call (C := C) (by walk_at "mem") callable_builtin ?_
  walk_at "xx"
  refine WC_len hvo.up (by omega) ?_
  rw [hVl]
  walk_at "xx"
  refine mul_ii (mul_small (by omega) (by omega)) ?_
  walk_at "xx"
  refine ite_f (by simp [Int.add_comm]) ?_
  walk_at "xx"
  refine WE_call (C := C) (by walk_at "mem") c.c96 ?_
  refine WL_cons ?_
  refine WE_ListComp2 (l2 := []) (capt := [(Str.ofString "rows", some (V.ref σ.length)), (Str.ofString "height", some (.int (H : Int)))]) henv (by show compOk _ _ _ [Str.ofString "rows", Str.ofString "height"] [] = true; decide +kernel) (by show [Str.ofString "rows", Str.ofString "height"].Nodup; decide +kernel) (by
    intro p hp
    simp only [List.mem_cons, List.not_mem_nil, or_false] at hp
    rcases hp with rfl | rfl <;> walk_at "mem") (by simp) ?_
  refine WItr_rng hA' (by walk_at "mem") ?_
  walk_at "xx"
  refine exNat ⟨by omega, ?_⟩
  refine CompGo_data (fun _ => .list ((List.range H).map fun _ => rowD r)) (by omega) (fun _ => trivial) ?_ ?_
  · rintro i pv J hi rfl cenv hc
    have hb : i * H + H ≤ N * H := by
      have : (i + 1) * H ≤ N * H := Nat.mul_le_mul_right _ hi
      rw [Nat.add_mul] at this; omega
    refine WE_slice ?_
    walk_at "xx"
    refine mul_ii (mul_small (by omega) (by omega)) ?_
    walk_at "xx"
    refine mul_ii (mul_small (by omega) (by omega)) ?_
    walk_at "xx"
    refine ⟨vs, hvo.up.up, by simp, by omega, ?_⟩
    rw [show (1 + (i : Int) * H) = ((1 + i * H : Nat) : Int) by simp, show (1 + ((i : Int) + 1) * H) = ((1 + (i + 1) * H : Nat) : Int) by simp]
    rw [pickV_nat _ (by rw [Nat.add_mul]; omega) (by rw [hVl, Nat.add_mul]; omega)]
    have es : (vs.drop (1 + i * H)).take (1 + (i + 1) * H - (1 + i * H)) = (List.range H).map fun j => V.ref (σ.length + 2 + (2 * (1 + i * H + j) + 1)) := by
      rw [show 1 + (i + 1) * H - (1 + i * H) = H by rw [Nat.add_mul]; omega]
      refine List.ext_getElem? fun j => ?_
      rw [List.getElem?_take]
      split
      · rename_i hj
        rw [List.getElem?_drop, hVg _ (by omega)]
        simp [hj]
      · rename_i hj
        rw [List.getElem?_eq_none (by rw [List.length_map, List.length_range]; exact Nat.le_of_not_lt hj)]
    rw [es]
    refine ⟨_, rfl, .list (ObjAt.new rfl) (RdAll.range fun j hj => ?_)⟩
    have h9 := hro (1 + i * H + j) (by omega)
    rw [show R (1 + i * H + j) = r by rw [show 1 + i * H + j = (i * H + j) + 1 by omega]; exact hR1 _] at h9
    exact Rd.lst h9.up.up.up
  intro J acc ha
  walk_at "xx"
  refine new_img (P := fun _ _ => r) (N := N) (H := H) (W := W) c hA' (by show A.depth + 1 + 2 < _; omega) (by show A.units + _ + 220 < _; omega) (Rd.wg (.list (ObjAt.new rfl) ha.up)) hn2 hh2 hw2 (fun k j _ _ => f.len) (fun k j _ _ x hx => f.s x hx) ?_
  intro J' hi
  walk_at "xx"
  refine at_width c hi ?_
  walk_at "xx"
  refine ite_f (by simp) ?_
  walk_at "xx"
  have e9 : σ ++ J0 ++ [O.tuple [V.int 1, V.int 3]] ++ J ++ [O.list acc] ++ J' = σ ++ (J0 ++ [O.tuple [V.int 1, V.int 3]] ++ J ++ [O.list acc] ++ J') := by simp
  rw [e9] at hi ⊢
  exact hq _ _ hi
def Due (k m s : Int) (r : List Int) (N H W : Nat) : Prop :=
  (k = 0 ∧ r = List.replicate (512 + m).toNat s ∧ N = 1 ∧ H = 1 ∧ W = (512 + m).toNat) ∨ (k = 1 ∧ r = [s] ∧ N = 1 ∧ H = (512 + m).toNat ∧ W = 1) ∨
  (k = 2 ∧ r = [255 + m, 255 + m] ∧ N = 3 ∧ H = 1 ∧ W = 2) ∨ (k = 3 ∧ r = [s, 255 + m] ∧ N = 1 ∧ H = 1 ∧ W = 2)
theorem Due.fit {k m s : Int} {r : List Int} {N H W : Nat} (d : Due k m s r N H W) (h0 : 0 ≤ s) (h1 : s < 255) (m0 : -1 ≤ m) (m1 : m ≤ 0) : Fit N W H r := by
  rcases d with ⟨_, rfl, rfl, rfl, rfl⟩ | ⟨_, rfl, rfl, rfl, rfl⟩ | ⟨_, rfl, rfl, rfl, rfl⟩ | ⟨_, rfl, rfl, rfl, rfl⟩
  · exact ⟨.inl rfl, by omega, by omega, by simp, fun x hx => by rw [List.eq_of_mem_replicate hx]; omega⟩
  · exact ⟨.inl rfl, by omega, by omega, by simp, fun x hx => by simp at hx; omega⟩
  · exact ⟨.inr rfl, by omega, by omega, by simp, fun x hx => by simp at hx; omega⟩
  · exact ⟨.inl rfl, by omega, by omega, by simp, fun x hx => by simp at hx; omega⟩
theorem rd_plane {C : Cx} {σ : AH} {v : V} {xs : List V} {r : List Int} {n : Nat} (o : ObjAt C σ v (.list xs)) (hx : ∀ x ∈ xs, ObjAt C σ x (oRow r)) (hn : xs.length = n) : Rd C σ v (.list ((List.range n).map fun _ => rowD r)) := by
  subst hn
  refine .list o ?_
  clear o
  induction xs with
  | nil => exact .nil
  | cons x xs ih =>
    rw [List.length_cons, List.range_succ_eq_map, List.map_cons, List.map_map]
    exact .cons (Rd.lst (hx x (.head _))) (ih fun y hy => hx y (.tail _ hy))
theorem rd_planes {C : Cx} {σ : AH} {v : V} {xs : List V} {r : List Int} {n H : Nat} (o : ObjAt C σ v (.list xs)) (hx : ∀ x ∈ xs, Rd C σ x (.list ((List.range H).map fun _ => rowD r))) (hn : xs.length = n) : Rd C σ v (imgD (fun _ _ => r) n H) := by
  subst hn
  refine .list o ?_
  clear o
  induction xs with
  | nil => exact .nil
  | cons x xs ih =>
    rw [List.length_cons, List.range_succ_eq_map, List.map_cons, List.map_map]
    exact .cons (hx x (.head _)) (ih fun y hy => hx y (.tail _ hy))
theorem rd_one {C : Cx} {σ : AH} {r : List Int} {n1 n2 n3 : Nat} (e1 : n1 = σ.length) (e2 : n2 = (σ ++ [O.list (r.map .int)]).length) (e3 : n3 = (σ ++ [O.list (r.map .int)] ++ [O.list [V.ref n1]]).length) : Rd C (σ ++ [O.list (r.map .int)] ++ [O.list [V.ref n1]] ++ [O.list [V.ref n2]]) (.ref n3) (imgD (fun _ _ => r) 1 1) := by
  refine rd_planes (xs := [V.ref n2]) (ObjAt.new e3) (fun x hx => ?_) rfl
  rw [List.mem_singleton] at hx; subst hx
  refine Rd.up (rd_plane (xs := [V.ref n1]) (ObjAt.new e2) (fun x hx => ?_) rfl)
  rw [List.mem_singleton] at hx; subst hx
  exact ObjAt.up (ObjAt.new e1)
def duJ (n : Nat) (s m : Int) : AH := [.list [.int s], .list (List.replicate (512 + m).toNat (.int s)), .list [.ref (n + 1)], .list [.ref (n + 2)], .list [.int s], .list [.ref (n + 4)], .list (List.replicate (512 + m).toNat (.ref (n + 4))), .list [.ref (n + 6)], .list [.int (255 + m)], .list [.int (255 + m), .int (255 + m)], .list [.ref (n + 9)], .list [.ref (n + 10)], .list [.ref (n + 10), .ref (n + 10), .ref (n + 10)], .list [.int s, .int (255 + m)], .list [.ref (n + 13)], .list [.ref (n + 14)], .list [.ref (n + 3), .ref (n + 7), .ref (n + 12), .ref (n + 15)]]
theorem at_off {C : Cx} {σ J : AH} {i : Nat} {o : O} (h : J[i]? = some o) : ObjAt C (σ ++ J) (.ref (σ.length + i)) o := by
  show (σ ++ J)[σ.length + i]? = some o
  rw [List.getElem?_append_right (by omega), Nat.add_sub_cancel_left]; exact h
theorem due_at {C : Cx} {σ : AH} {k m s : Int} {r : List Int} {N H W : Nat} (d : Due k m s r N H W) : ∃ v, [V.ref (σ.length + 3), .ref (σ.length + 7), .ref (σ.length + 12), .ref (σ.length + 15)][k.toNat]? = some v ∧ Rd C (σ ++ duJ σ.length s m) v (imgD (fun _ _ => r) N H) := by
  have one : ∀ {n : Nat} {o : V → Prop}, o (.ref n) → ∀ x ∈ [V.ref n], o x := fun h x hx => by rw [List.mem_singleton] at hx; subst hx; exact h
  rcases d with ⟨rfl, rfl, rfl, rfl, rfl⟩ | ⟨rfl, rfl, rfl, rfl, rfl⟩ | ⟨rfl, rfl, rfl, rfl, rfl⟩ | ⟨rfl, rfl, rfl, rfl, rfl⟩
  · refine ⟨_, rfl, rd_planes (at_off (i := 3) rfl) (one (rd_plane (at_off (i := 2) rfl) (one ?_) rfl)) rfl⟩
    refine at_off (i := 1) ?_
    show some (O.list (List.replicate (512 + m).toNat (.int s))) = some (O.list ((List.replicate (512 + m).toNat s).map .int))
    rw [List.map_replicate]
  · refine ⟨_, rfl, rd_planes (at_off (i := 7) rfl) (one (rd_plane (at_off (i := 6) rfl) (fun x hx => ?_) (by simp))) rfl⟩
    rw [List.eq_of_mem_replicate hx]
    exact at_off (i := 4) rfl
  · refine ⟨_, rfl, rd_planes (at_off (i := 12) rfl) (fun x hx => ?_) rfl⟩
    have : x = V.ref (σ.length + 10) := by simpa using hx
    subst this
    exact rd_plane (at_off (i := 10) rfl) (one (at_off (i := 9) rfl)) rfl
  · exact ⟨_, rfl, rd_planes (at_off (i := 15) rfl) (one (rd_plane (at_off (i := 14) rfl) (one (at_off (i := 13) rfl)) rfl)) rfl⟩
theorem law_main {C : Cx} (c : Law C) {a : Addr} {ns : List Int} (hg : (a, O.list (ns.map .int)) ∈ C.gob) (hl : ns.length ≤ 63) (_ht : ∀ x ∈ topObjs, x ∈ C.gob) : WC C callerA (.ref 132) [.k (.ref a)] [] (fun v _ => v = .bool true) (fun _ _ => False) := by
  refine WCc.toWC (WCc_defF (pn := [Str.ofString "script"]) (ln := [Str.ofString "kind", Str.ofString "more", Str.ofString "sample", Str.ofString "why", Str.ofString "image", Str.ofString "due"]) (gl := [(Str.ofString "Image", Value.ref 96), (Str.ofString "blank", Value.ref 106), (Str.ofString "PackError", Value.ref 31), (Str.ofString "read_image", Value.ref 111), (Str.ofString "_law_cell", Value.ref 125)]) (dv := []) (ds := []) (c.K _ _ rfl) rfl (codeRec_of c.K (by kernel_rfl)) (by first | assumption | omega | exact Nat.le_of_ble_eq_true rfl) .nil rfl (fun x v h => c.glo x v ((show ∀ p ∈ ([(Str.ofString "Image", Value.ref 96), (Str.ofString "blank", Value.ref 106), (Str.ofString "PackError", Value.ref 31), (Str.ofString "read_image", Value.ref 111), (Str.ofString "_law_cell", Value.ref 125)] : List (Str × Value)), p ∈ lawGlo by decide +kernel) (x, v) h)) ?_ (by decide +kernel) (by decide +kernel) (by decide +kernel) (by decide +kernel) ?_)
  · intro s xs hkp hl
    obtain ⟨x0, rfl⟩ := len1 hl
    first | exact BindsTo.of_eq rfl | exact BindsTo.of_defaults rfl (hkp _ _ (c.K _ _ rfl)) rfl rfl rfl
  intro env henv hfr
  replace c := c.wg [(Str.ofString "Image", Value.ref 96), (Str.ofString "blank", Value.ref 106), (Str.ofString "PackError", Value.ref 31), (Str.ofString "read_image", Value.ref 111), (Str.ofString "_law_cell", Value.ref 125)]
  show WSs (C.wg [(Str.ofString "Image", Value.ref 96), (Str.ofString "blank", Value.ref 106), (Str.ofString "PackError", Value.ref 31), (Str.ofString "read_image", Value.ref 111), (Str.ofString "_law_cell", Value.ref 125)]) _ _ _ [(Str.ofString "script", some (.k (.ref a))), (Str.ofString "kind", none), (Str.ofString "more", none), (Str.ofString "sample", none), (Str.ofString "why", none), (Str.ofString "image", none), (Str.ofString "due", none)] _ _ _
  have fm : ∀ (n m : Int), 0 < m → 0 ≤ n.fmod m ∧ n.fmod m < m := fun n m h => ⟨Int.fmod_nonneg_of_pos _ h, Int.fmod_lt_of_pos _ h⟩
  have hA' : (callerA.deeper env).handled = none := rfl
  have dep : (callerA.deeper env).depth + 8 < recursionLimit := Nat.le_of_ble_eq_true rfl
  have uni : (callerA.deeper env).units + 600 < cLine := Nat.le_of_ble_eq_true rfl
  have hst : (callerA.deeper env).frames = some [env] := rfl
  generalize callerA.deeper env = A at *
  walk_at "xx"
  refine WE_call (C := C) (by walk_at "mem") c.c125 ?_
  walk_at "xx"
  refine cell_spec c (by omega) hg hl (by decide) ?_
  walk_at "xx"
  obtain ⟨k0, k1⟩ := fm (ns.getD (Int.toNat 0) 0) 4 (by decide)
  generalize (ns.getD (Int.toNat 0) 0).fmod 4 = k at *
  refine WE_call (C := C) (by walk_at "mem") c.c125 ?_
  walk_at "xx"
  refine cell_spec c (by omega) hg hl (by decide) ?_
  walk_at "xx"
  obtain ⟨m0, m1⟩ := fm (ns.getD (Int.toNat 1) 0) 3 (by decide)
  generalize (ns.getD (Int.toNat 1) 0).fmod 3 = m at *
  refine WE_call (C := C) (by walk_at "mem") c.c125 ?_
  walk_at "xx"
  refine cell_spec c (by omega) hg hl (by decide) ?_
  walk_at "xx"
  obtain ⟨s0, s1⟩ := fm (ns.getD (Int.toNat 2) 0) 255 (by decide)
  generalize (ns.getD (Int.toNat 2) 0).fmod 255 = s at *
  obtain ⟨m', hm'⟩ : ∃ m', m - 1 = m' := ⟨_, rfl⟩
  rw [hm']
  have mm : -1 ≤ m' ∧ m' ≤ 1 := by omega
  clear hm' m0 m1 m
  obtain ⟨m, rfl⟩ : ∃ m, m = m' := ⟨_, rfl⟩
  have kk : k = 0 ∨ k = 1 ∨ k = 2 ∨ k = 3 := by omega
  by_cases hm : m = 1
  · subst hm
    refine WS.conseq (Q := fun fl ρ' σ' => fl = .next ∧ ρ' = ([(Str.ofString "script", (some (.k (.ref a)))), (Str.ofString "kind", (some (.int k))), (Str.ofString "more", (some (.int 1))), (Str.ofString "sample", (some (.int s))), (Str.ofString "why", (some (.str (Str.ofString "refused")))), (Str.ofString "image", (some .none)), (Str.ofString "due", none)] : Loc)) ?_ ?_
    · refine WS_try_raiseK (C := C) c.K (hv := .ref 31) (PC := 31) (by walk_at "mem") (by kernel_rfl) hst hfr ?_
      refine RSs_here (RS_if ?_)
      rcases kk with rfl | rfl | rfl | rfl
      · walk_at "xx"
        refine RSs_here (RS_assign (RE_call (C := C) (by walk_at "mem") c.c106 ?_))
        walk_at "xx"
        refine blank_badW c hA' (by omega) (by omega) (by decide) ?_
        intro σ' e
        walk_at "xx"
        exact ⟨rfl, rfl⟩
      · walk_at "xx"
        refine RSs_here (RS_if ?_)
        walk_at "xx"
        refine RSs_here (RS_assign (RE_call (C := C) (by walk_at "mem") c.c106 ?_))
        walk_at "xx"
        refine blank_badH c hA' (by omega) (by omega) (by decide) (by decide) ?_
        intro σ' e
        walk_at "xx"
        exact ⟨rfl, rfl⟩
      · walk_at "xx"
        refine RSs_here (RS_if ?_)
        walk_at "xx"
        refine RSs_here (RS_if ?_)
        walk_at "xx"
        refine RSs_here (RS_assign (RE_call (C := C) (by walk_at "mem") c.c106 ?_))
        walk_at "xx"
        refine blank_bad2 c hA' (by omega) (by omega) (by decide) ?_
        intro σ' e
        walk_at "xx"
        exact ⟨rfl, rfl⟩
      · walk_at "xx"
        refine RSs_here (RS_if ?_)
        walk_at "xx"
        refine RSs_here (RS_if ?_)
        walk_at "xx"
        refine RSs_here (RS_assign (RE_call (C := C) (by walk_at "mem") c.c96 ?_))
        walk_at "xx"
        have hx1 : ∀ x, x < 1 → 0 ≤ [s, 255 + 1].getD x 0 ∧ [s, 255 + 1].getD x 0 ≤ 255 := fun x hx => by
          obtain rfl : x = 0 := by omega
          exact ⟨s0, show s ≤ 255 by omega⟩
        refine new_bad (P := fun _ _ => [s, 255 + 1]) (N := 1) (H := 1) (W := 2) (m := 1) (y := 256) c hA' (by omega) (by omega) (rd_one (r := [s, 255 + 1]) rfl rfl rfl) (.inl rfl) (by omega) (by omega) (fun k j _ _ => by simp) hx1 (by omega) rfl (by omega) (by omega) ?_
        intro σ' e
        walk_at "xx"
        exact ⟨rfl, rfl⟩
    · rintro fl ρ' σ' ⟨rfl, rfl⟩
      walk_at "xx"
      refine ne_bb ?_
      walk_at "xx"
      refine is_noneN ?_
      walk_at "xx"
      rfl
  have hm0 : m ≤ 0 := by omega
  refine WS.conseq (Q := fun fl ρ' σ' => fl = .next ∧ ∃ r N H W b, Due k m s r N H W ∧ ImgAt σ' b (fun _ _ => r) N H W ∧ ρ' = ([(Str.ofString "script", (some (.k (.ref a)))), (Str.ofString "kind", (some (.int k))), (Str.ofString "more", (some (.int m))), (Str.ofString "sample", (some (.int s))), (Str.ofString "why", (some (.str (Str.ofString "")))), (Str.ofString "image", (some (.ref (b + 1)))), (Str.ofString "due", none)] : Loc)) ?_ ?_
  · refine WS_try_ok ?_
    have e1 : (512 + m) = (((512 + m).toNat : Nat) : Int) := by omega
    rcases kk with rfl | rfl | rfl | rfl
    · walk_at "xx"
      refine WE_call (C := C) (by walk_at "mem") c.c106 ?_
      walk_at "xx"
      rw [e1]
      refine blank_core (N := 1) (H := 1) (W := (512 + m).toNat) c hA' (by omega) (by omega) (.inl rfl) (by omega) (by omega) (by omega) ?_
      intro J b _ hi
      walk_at "xx"
      exact ⟨rfl, _, _, _, _, _, .inl ⟨rfl, rfl, rfl, rfl, rfl⟩, hi, rfl⟩
    · walk_at "xx"
      refine WE_call (C := C) (by walk_at "mem") c.c106 ?_
      walk_at "xx"
      rw [e1]
      refine blank_core (N := 1) (H := (512 + m).toNat) (W := 1) c hA' (by omega) (by omega) (.inl rfl) (by omega) (by omega) (by omega) ?_
      intro J b _ hi
      walk_at "xx"
      exact ⟨rfl, _, _, _, _, _, .inr (.inl ⟨rfl, rfl, rfl, rfl, rfl⟩), hi, rfl⟩
    · walk_at "xx"
      refine WE_call (C := C) (by walk_at "mem") c.c106 ?_
      walk_at "xx"
      refine blank_core (N := 3) (H := 1) (W := 2) c hA' (by omega) (by omega) (.inr rfl) (by omega) (by omega) (by omega) ?_
      intro J b _ hi
      walk_at "xx"
      exact ⟨rfl, _, _, _, _, _, .inr (.inr (.inl ⟨rfl, rfl, rfl, rfl, rfl⟩)), hi, rfl⟩
    · walk_at "xx"
      refine WE_call (C := C) (by walk_at "mem") c.c96 ?_
      walk_at "xx"
      refine new_img (P := fun _ _ => [s, 255 + m]) (N := 1) (H := 1) (W := 2) c hA' (by omega) (by omega) (rd_one (r := [s, 255 + m]) rfl rfl rfl) (.inl rfl) (by omega) (by omega) (fun k j _ _ => by simp) (fun k j _ _ x hx => by simp at hx; omega) ?_
      intro J hi
      walk_at "xx"
      exact ⟨rfl, _, _, _, _, _, .inr (.inr (.inr ⟨rfl, rfl, rfl, rfl, rfl⟩)), hi, rfl⟩
  rintro fl ρ' σ ⟨rfl, r, N, H, W, b, hD, hi, rfl⟩
  have f := hD.fit s0 s1 mm.1 hm0
  walk_at "xx"
  refine ne_bb ?_
  rw [decide_eq_false (show ¬ 0 < m by omega)]
  walk_at "xx"
  refine is_noneR ?_
  repeat (first | refine WSs_nil ?_ | refine Thn_next ?_ | refine WTr_bool ?_ | (apply ite_f; focus decide))
  refine WSs_cons ?_
  refine WS.conseq (Q := fun fl ρ' σ' => fl = .next ∧ ∃ J d vs v, σ' = σ ++ J ∧ ObjAt C (σ ++ J) (.ref d) (.list vs) ∧ vs.length = 4 ∧ vs[k.toNat]? = some v ∧ Rd C (σ ++ J) v (imgD (fun _ _ => r) N H) ∧ ρ' = ([(Str.ofString "script", (some (.k (.ref a)))), (Str.ofString "kind", (some (.int k))), (Str.ofString "more", (some (.int m))), (Str.ofString "sample", (some (.int s))), (Str.ofString "why", (some (.str (Str.ofString "")))), (Str.ofString "image", (some (.ref (b + 1)))), (Str.ofString "due", (some (.ref d)))] : Loc)) ?_ ?_
  · walk_at "xx"
    refine mul_li (ObjAt.new (C := C) rfl) (by omega) (by omega) (by simp; omega) ?_
    walk_at "xx"
    refine mul_li (ObjAt.new (C := C) rfl) (by omega) (by omega) (by simp; omega) ?_
    walk_at "xx"
    refine mul_li (ObjAt.new (C := C) rfl) (by omega) (by omega) (by simp) ?_
    walk_at "xx"
    refine mul_li (ObjAt.new (C := C) rfl) (by omega) (by omega) (by simp) ?_
    walk_at "xx"
    refine ⟨rfl, ?_⟩
    obtain ⟨v, h1, h2⟩ := due_at (C := C) (σ := σ) hD
    refine ⟨duJ σ.length s m, σ.length + 16, [V.ref (σ.length + 3), .ref (σ.length + 7), .ref (σ.length + 12), .ref (σ.length + 15)], v, ?_, at_off (i := 16) rfl, rfl, h1, h2, ?_⟩
    · rw [rep_one, rep_one]
      simp [duJ, List.replicate]
    · simp
  rintro fl ρ' σ' ⟨rfl, J, d, vs, v, rfl, ho, hvl, hv, hrd, rfl⟩
  have hi2 := hi.up (J := J)
  generalize σ ++ J = σ at *
  walk_at "xx"
  refine at_planes c hi2 ?_
  walk_at "xx"
  refine item_list ho k0 (by omega) hv ?_
  refine ne_dd hi2.planes.rd hrd.wg imgD_shaped imgD_shaped (by omega) ?_
  rw [imgD_eqv]
  walk_at "xx"
  refine WE_attrc ?_
  refine WE_call (C := C) (by walk_at "mem") c.c111 ?_
  refine WL_cons ?_
  refine WE_meth ?_
  walk_at "xx"
  refine WM_join ⟨callable_builtin, ?_⟩
  refine WL_cons ?_
  refine WE_meth ?_
  walk_at "xx"
  refine WM_inst (f := 93) c.K clsI (by kernel_rfl) (by kernel_rfl) hi2.inst hi2.ns (by kernel_rfl) ⟨callable_K c.K (by kernel_rfl), ?_⟩
  walk_at "xx"
  refine lines_spec c hA' (by omega) f hi2 ?_
  intro J2
  walk_at "xx"
  refine WC_join (ys := (rowsOf N W H r (N * H)).map lineOf) (ObjAt.up (ObjAt.new rfl)) (by have := f.sum; omega) ?_
  walk_at "xx"
  refine read_spec c hA' (by omega) (by omega) f (by rw [nl_eq]) ?_
  intro J3 b3 hi3
  refine at_planes c hi3 ?_
  walk_at "xx"
  refine item_list ho.up.up.up k0 (by omega) hv ?_
  refine eq_dd hi3.planes.rd hrd.wg.up.up.up imgD_shaped imgD_shaped (by omega) ?_
  rw [imgD_eqv]
  walk_at "xx"
  rfl
end Mine
open PySem PySem.W PyProof.Rows Mine
theorem PySem.Challenge.cw_ui0502_10_holds : PySem.Challenge.rw_ui0502_10.Holds := by
  refine Mine.hd.all ?_
  intro w s₀ s₁ mg mb G Y fa o pm cd doc dV kV ho hd' hcd hD hmg hg args vals as hpre hlay hrd hwl hlo
  have KX : (hd.heap_39 w.params).In s₁.heap := kIn_of (K := hd.heap_39) (as := hd.as) (e := fun _ => by kernel_rfl) Y
  refine Ground.open G ?_
  intro T B D TE TW
  have hfa : fa = 132 := by
    have h1 := mg_of (n := Str.ofString "law") KX T.g (v := .ref 132) (by kernel_rfl)
    have h2 : mg (Str.ofString "law") = some (.ref fa) := hmg
    rw [h1] at h2
    injection h2 with h2
    injection h2 with h2
    exact h2.symm
  subst hfa
  clear hd' hcd hD hmg ho
  wrow_args hpre hlay hrd hwl hlo
  rename_i ns _ _ _ _ _ _ _ a vs _ hL _ _ _ hI _ hlen _
  let C : Cx := { prog := PySem.Challenge.rw_ui0502_10.row.prog, w := w, G := s₁.heap, gob := (a, .list (ns.map .int)) :: topObjs, glo := [], mg := mg, mb := mb }
  have glb : ∀ x v, nsIn (hd.heap_39 w.params) mainGlobals x = some none → bootBuiltins x = some v → x ≠ Str.ofString "__name__" → mg x = some v ∨ (mg x = none ∧ mb x = some v) :=
    fun x v e1 e2 e3 => .inr ⟨mg_none_of KX T.g e1, (T.builtins x e3).trans e2⟩
  have c : Law C := by
    refine ⟨KX, fun x hx => List.mem_cons_of_mem _ hx, ?_, ?_⟩
    rotate_left
    · obtain ⟨C', O, _⟩ := T.ownAt (x := Str.ofString "PackError") (newId := "ValueError.__new__") (bm := [.type "ValueError", .type "Exception", .type "BaseException", .type "object"]) (by kernel_rfl)
      have h1 : mg (Str.ofString "PackError") = some (.ref 31) := mg_of KX T.g (by kernel_rfl)
      have h2 := O.bound
      rw [h1] at h2
      injection h2 with h2
      injection h2 with h2
      subst h2
      exact O.own
    intro x v hx
    simp only [lawGlo, List.mem_cons, List.not_mem_nil, or_false] at hx
    rcases hx with e | e | e | e | e | e | e | e | e | e | e | e | e | e | e <;> cases e
    · exact glb _ _ (by kernel_rfl) (by boot_by_name) (by decide)
    · exact glb _ _ (by kernel_rfl) (by boot_by_name) (by decide)
    · exact glb _ _ (by kernel_rfl) (by boot_by_name) (by decide)
    · exact glb _ _ (by kernel_rfl) (by boot_by_name) (by decide)
    · exact glb _ _ (by kernel_rfl) (by boot_by_name) (by decide)
    · exact glb _ _ (by kernel_rfl) (by boot_by_name) (by decide)
    · exact .inl (mg_of KX T.g (by kernel_rfl))
    · exact .inl (mg_of KX T.g (by kernel_rfl))
    · exact .inl (mg_of KX T.g (by kernel_rfl))
    · exact .inl (mg_of KX T.g (by kernel_rfl))
    · exact .inl (mg_of KX T.g (by kernel_rfl))
    · exact .inl (mg_of KX T.g (by kernel_rfl))
    · exact .inl (mg_of KX T.g (by kernel_rfl))
    · exact .inl (mg_of KX T.g (by kernel_rfl))
    · exact .inl (mg_of KX T.g (by kernel_rfl))
  have ok : C.Ok := by
    refine ⟨?_, T.g, T.b, fun x v hx => (nomatch hx), T.nolimit⟩
    · intro b o hb
      rcases List.mem_cons.mp hb with e | hb'
      · cases e
        exact ⟨vs.toArray, hL, by simpa using RVs.ints hI⟩
      · exact topObjs_ok KX b o hb'
  exact bridge PySem.Challenge.rw_ui0502_10 (C := C) rfl rfl rfl ok hg (law_main c (.head _) (by omega) (fun x hx => List.mem_cons_of_mem _ hx))

