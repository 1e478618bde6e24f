import Derived.Test.YtagihpbpblnnoaaGreatQ02
set_option linter.all false
namespace AH
open Go
section
variable {P : Program} {N : Nat} {ord : Nat → DOrd}
theorem astep_pick_ {o : Oper} {env : Env} {σ : AHeap} {K : Env → AHeap → Prop} (h : astep P o env σ K) : ∃ env' σ', σ.n ≤ σ'.n ∧ K env' σ' ∧ ∀ K' : Env → AHeap → Prop, K' env' σ' → astep P o env σ K' := by
  unfold astep at h ⊢
  split at h
  next f args ts ho =>
    unfold callP at h ⊢
    split at h
    next g first cap hf =>
      obtain ⟨v, σ', hc, hK⟩ := h
      exact ⟨_, σ', hc.2.1, hK, fun K' hK' => ⟨v, σ', hc, hK'⟩⟩
    next => exact h.elim
  next op hop =>
    unfold bindO at h ⊢
    split at h
    next v σ' he => exact ⟨_, σ', aop_n he, h, fun K' hK' => hK'⟩
    next => exact h.elim
theorem aops_pick_ {ops : Array Oper} : ∀ (os : List Oper) {env : Env} {σ : AHeap} {K : Env → AHeap → Prop}, aops P ops os env σ K → ∃ env' σ', σ.n ≤ σ'.n ∧ K env' σ' ∧ ∀ K' : Env → AHeap → Prop, K' env' σ' → aops P ops os env σ K' := by
  intro os
  induction os with
  | nil => intro env σ K h; exact ⟨env, σ, Nat.le_refl _, h, fun K' hK' => hK'⟩
  | cons o os ih =>
    intro env σ K h
    simp only [aops] at h ⊢
    unfold agated at h ⊢
    cases hg : agate ops env o with
    | none => rw [hg] at h; exact h.elim
    | some b =>
      rw [hg] at h
      cases b with
      | true =>
        obtain ⟨env1, σ1, hn1, h1, h2⟩ := astep_pick_ (h.1 rfl)
        obtain ⟨env2, σ2, hn2, h3, h4⟩ := ih h1
        exact ⟨env2, σ2, Nat.le_trans hn1 hn2, h3, fun K' hK' => ⟨fun _ => h2 _ (h4 K' hK'), fun e => (by cases e)⟩⟩
      | false =>
        obtain ⟨env2, σ2, hn2, h3, h4⟩ := ih (h.2 rfl)
        exact ⟨env2, σ2, hn2, h3, fun K' hK' => ⟨fun e => (by cases e), fun _ => h4 K' hK'⟩⟩
theorem astepT_pick_ {o : Oper} {kept : Option Nat} {env : Env} {σ : AHeap} {K : Env → AHeap → Prop} (h : astepT P o kept env σ K) : ∃ env' σ', σ.n ≤ σ'.n ∧ K env' σ' ∧ ∀ K' : Env → AHeap → Prop, K' env' σ' → astepT P o kept env σ K' := by
  unfold astepT at h ⊢
  cases kept with
  | none => exact astep_pick_ h
  | some i =>
    simp only [bindO] at h ⊢
    split at h
    next v σ' he =>
      refine ⟨_, σ', ?_, h, fun K' hK' => hK'⟩
      unfold aopAt at he
      split at he
      · split at he
        · cases he; exact Nat.le_refl _
        · cases he
      · cases he
    next => exact h.elim
theorem aopsT_pick_ {ops : Array Oper} {base : Nat} {res : List Nat} : ∀ (os : List Oper) {k : Nat} {env : Env} {σ : AHeap} {tr : List DRec} {K : Env → AHeap → List DRec → Prop}, aopsT P ops base res k os env σ tr K →
    ∃ env' σ' tr', σ.n ≤ σ'.n ∧ K env' σ' tr' ∧ ∀ K' : Env → AHeap → List DRec → Prop, K' env' σ' tr' → aopsT P ops base res k os env σ tr K' := by
  intro os
  induction os with
  | nil => intro k env σ tr K h; exact ⟨env, σ, tr, Nat.le_refl _, h, fun K' hK' => hK'⟩
  | cons o os ih =>
    intro k env σ tr K h
    simp only [aopsT] at h ⊢
    unfold agated at h ⊢
    cases hg : agate ops env o with
    | none => rw [hg] at h; exact h.elim
    | some b =>
      rw [hg] at h
      cases b with
      | true =>
        obtain ⟨env1, σ1, hn1, h1, h2⟩ := astepT_pick_ (h.1 rfl)
        obtain ⟨env2, σ2, tr2, hn2, h3, h4⟩ := ih h1
        exact ⟨env2, σ2, tr2, Nat.le_trans hn1 hn2, h3, fun K' hK' => ⟨fun _ => h2 _ (h4 K' hK'), fun e => (by cases e)⟩⟩
      | false =>
        obtain ⟨env2, σ2, tr2, hn2, h3, h4⟩ := ih (h.2 rfl)
        exact ⟨env2, σ2, tr2, hn2, h3, fun K' hK' => ⟨fun e => (by cases e), fun _ => h4 K' hK'⟩⟩
def Picks (c : (Exit → Env → AHeap → Prop) → Env → AHeap → Prop) : Prop := ∀ (K : Exit → Env → AHeap → Prop) (env : Env) (σ : AHeap), c K env σ →
  ∃ e env' σ', σ.n ≤ σ'.n ∧ K e env' σ' ∧ ∀ K' : Exit → Env → AHeap → Prop, K' e env' σ' → c K' env σ
theorem aloop_pick {c : (Exit → Env → AHeap → Prop) → Env → AHeap → Prop} (hc : Picks c) : ∀ n, Picks fun K env σ => aloop c K n env σ := by
  intro n
  induction n with
  | zero => intro K env σ h; exact h.elim
  | succ n ih =>
    intro K env σ h
    obtain ⟨e, env1, σ1, hn1, h1, h2⟩ := hc _ _ _ h
    cases e with
    | normal =>
      obtain ⟨e2, env2, σ2, hn2, h3, h4⟩ := ih K env1 σ1 h1
      exact ⟨e2, env2, σ2, Nat.le_trans hn1 hn2, h3, fun K' hK' => h2 _ (h4 K' hK')⟩
    | _ => exact ⟨_, env1, σ1, hn1, h1, fun K' hK' => h2 _ hK'⟩
theorem wpc_pick : ∀ (c : Code), Picks fun K env σ => wpc P ord c K env σ := by
  intro c
  induction c with
  | skip => intro K env σ h; exact ⟨_, env, σ, Nat.le_refl _, h, fun K' hK' => hK'⟩
  | region id ops draw =>
    intro K env σ h
    cases draw with
    | false =>
      obtain ⟨env', σ', hn, h1, h2⟩ := aops_pick_ _ h
      exact ⟨_, env', σ', hn, h1, fun K' hK' => h2 _ hK'⟩
    | true =>
      have h : @adraw P ops (ord id) env σ ⟨K .normal⟩ := h
      unfold adraw at h
      obtain ⟨env', σ', tr', hn, h1, h2⟩ := aopsT_pick_ _ h
      refine ⟨.normal, env', σ', Nat.le_trans ?_ hn, h1.2, fun K' hK' => ?_⟩
      · split
        · exact Nat.le_refl _
        · exact Nat.le_add_right _ _
      · show @adraw P ops (ord id) env σ ⟨K' .normal⟩
        unfold adraw
        exact h2 _ ⟨h1.1, hK'⟩
  | seq x y ihx ihy =>
    intro K env σ h
    obtain ⟨e, env1, σ1, hn1, h1, h2⟩ := ihx _ _ _ h
    cases e with
    | normal =>
      obtain ⟨e2, env2, σ2, hn2, h3, h4⟩ := ihy K env1 σ1 h1
      exact ⟨e2, env2, σ2, Nat.le_trans hn1 hn2, h3, fun K' hK' => h2 _ (h4 K' hK')⟩
    | _ => exact ⟨_, env1, σ1, hn1, h1, fun K' hK' => h2 _ hK'⟩
  | cond c x y ihx ihy =>
    intro K env σ h
    have h : @acond (aeval env c) ⟨wpc P ord x K env σ⟩ ⟨wpc P ord y K env σ⟩ := h
    show ∃ e env' σ', σ.n ≤ σ'.n ∧ K e env' σ' ∧ ∀ K' : Exit → Env → AHeap → Prop, K' e env' σ' → @acond (aeval env c) ⟨wpc P ord x K' env σ⟩ ⟨wpc P ord y K' env σ⟩
    unfold acond at h ⊢
    split at h
    next b hb =>
      cases b with
      | true =>
        obtain ⟨e, env', σ', hn, h1, h2⟩ := ihx K env σ (h.1 rfl)
        exact ⟨e, env', σ', hn, h1, fun K' hK' => ⟨fun _ => h2 K' hK', fun e => (by cases e)⟩⟩
      | false =>
        obtain ⟨e, env', σ', hn, h1, h2⟩ := ihy K env σ (h.2 rfl)
        exact ⟨e, env', σ', hn, h1, fun K' hK' => ⟨fun e => (by cases e), fun _ => h2 K' hK'⟩⟩
    next => exact h.elim
  | block id c ih =>
    intro K env σ h
    obtain ⟨e, env1, σ1, hn1, h1, h2⟩ := ih _ _ _ h
    cases e with
    | exit id' =>
      by_cases he : id' = id
      · have h1 : (if id' = id then K .normal env1 σ1 else K (.exit id') env1 σ1) := h1
        rw [if_pos he] at h1
        refine ⟨_, env1, σ1, hn1, h1, fun K' hK' => h2 _ ?_⟩
        show (if id' = id then K' .normal env1 σ1 else K' (.exit id') env1 σ1)
        rw [if_pos he]; exact hK'
      · have h1 : (if id' = id then K .normal env1 σ1 else K (.exit id') env1 σ1) := h1
        rw [if_neg he] at h1
        refine ⟨_, env1, σ1, hn1, h1, fun K' hK' => h2 _ ?_⟩
        show (if id' = id then K' .normal env1 σ1 else K' (.exit id') env1 σ1)
        rw [if_neg he]; exact hK'
    | _ => exact ⟨_, env1, σ1, hn1, h1, fun K' hK' => h2 _ hK'⟩
  | loop c ih =>
    intro K env σ h
    obtain ⟨n, h⟩ := h
    obtain ⟨e, env', σ', hn, h1, h2⟩ := aloop_pick ih n K env σ h
    exact ⟨e, env', σ', hn, h1, fun K' hK' => ⟨n, h2 K' hK'⟩⟩
  | exit id => intro K env σ h; exact ⟨_, env, σ, Nat.le_refl _, h, fun K' hK' => hK'⟩
  | ret => intro K env σ h; exact ⟨_, env, σ, Nat.le_refl _, h, fun K' hK' => hK'⟩
  | _ => intro K env σ h; exact h.elim
theorem ACallW.call {f : FuncId} {args : List AV} {σ σ' : AHeap} {v : AV} (h : ACallW P f args σ (fun x τ => x = v ∧ τ = σ')) (hn : σ.n ≤ σ'.n) : ACall P f args σ v σ' := by
  refine ⟨h.1, hn, fun μ w us hR hv => (h.2 μ w us hR hv).mono ?_⟩
  rintro e w' ⟨x, τ, ⟨rfl, rfl⟩, hq⟩
  exact hq
/-- 'Called so, the function returns a value and leaves a memory of which Q is true.' -/
def Fn (P : Program) (f : FuncId) (args : List AV) (σ : AHeap) (Q : AV → AHeap → Prop) : Prop := ∃ v σ', ACall P f args σ v σ' ∧ Q v σ'
theorem Fn.use {f : FuncId} {args : List AV} {σ : AHeap} {Q Q' : AV → AHeap → Prop} (h : Fn P f args σ Q) (hk : ∀ v σ', σ.n ≤ σ'.n → Q v σ' → Q' v σ') : Fn P f args σ Q' := by
  obtain ⟨v, σ', hc, hq⟩ := h
  exact ⟨v, σ', hc, hk v σ' hc.2.1 hq⟩
theorem Fn.eq {f : FuncId} {args : List AV} {σ σ' : AHeap} {v : AV} {Q : AV → AHeap → Prop} (h : Fn P f args σ fun x τ => x = v ∧ τ = σ') (hk : Q v σ') : Fn P f args σ Q := by
  obtain ⟨x, τ, hc, rfl, rfl⟩ := h
  exact ⟨x, τ, hc, hk⟩
theorem callP_fn {g : FuncId} {args : List AV} {σ : AHeap} {k : AV → AHeap → Prop} : @callP P (.fn g [] []) args σ ⟨k⟩ = Fn P g args σ k := by
  simp only [callP, Fn, List.nil_append, List.append_nil]
theorem callP_clo {g : FuncId} {first cap : List AV} {args : List AV} {σ : AHeap} {k : AV → AHeap → Prop} : @callP P (.fn g first cap) args σ ⟨k⟩ = Fn P g (first ++ args ++ cap) σ k := rfl
theorem fn_of {f : FuncId} {fn : Func} {c : Code} {args : List AV} {σ : AHeap} {Q : AV → AHeap → Prop} (ord : Nat → DOrd) (hm : P.follows .mixedOrders = true)
    (hf : P.funcs[f]? = some fn) (hn : (fn.name == "runtime.NumGoroutine") = false) (hb : fn.body = some c) (hok : (codeOk fn.ntmps ord c && decide (args.length ≤ fn.ntmps)) = true)
    (h : wpc P ord c (aresK P fn.results.toList Q) (envOf args) σ) : Fn P f args σ Q := by
  obtain ⟨e, env', σ', hn', h1, h2⟩ := wpc_pick c _ _ _ h
  have key : ∀ (v : AV), (∀ Q' : AV → AHeap → Prop, Q' v σ' → aresK P fn.results.toList Q' e env' σ') → Q v σ' → Fn P f args σ Q := by
    intro v hv hq
    exact ⟨v, σ', (acall_of ord hm hf hn hb hok (h2 _ (hv (fun x τ => x = v ∧ τ = σ') ⟨rfl, rfl⟩))).call hn', hq⟩
  have fin : @bindR (ares P env' σ' fn.results.toList) ⟨fun v => Q v σ'⟩ → (∀ Q' : AV → AHeap → Prop, @bindR (ares P env' σ' fn.results.toList) ⟨fun v => Q' v σ'⟩ → aresK P fn.results.toList Q' e env' σ') → Fn P f args σ Q := by
    intro hb hQ'
    unfold bindR at hb
    split at hb
    next vs hvs => exact key (atup vs) (fun Q' hq => hQ' Q' (by rw [hvs]; exact hq)) hb
    next => exact hb.elim
  cases e with
  | normal => exact fin h1 fun Q' hq => hq
  | ret => exact fin h1 fun Q' hq => hq
  | _ => exact h1.elim
/-- The rule of a loop: a measure that falls. -/
theorem aloops_of {step : (Exit → Env → AHeap → Prop) → Env → AHeap → Prop} {K : Exit → Env → AHeap → Prop} (I : Nat → Env → AHeap → Prop)
    (mono : ∀ {K K' : Exit → Env → AHeap → Prop} {env : Env} {σ : AHeap}, (∀ e env σ, K e env σ → K' e env σ) → step K env σ → step K' env σ)
    (h : ∀ m env σ, I m env σ → step (athen (fun env' σ' => ∃ m', m' < m ∧ I m' env' σ') K) env σ) : ∀ (m : Nat) (env : Env) (σ : AHeap), I m env σ → @aloops ⟨step⟩ ⟨K⟩ env σ := by
  have hup : ∀ (n n' : Nat) (env : Env) (σ : AHeap), n ≤ n' → aloop step K n env σ → aloop step K n' env σ := by
    intro n
    induction n with
    | zero => intro n' env σ _ h; exact h.elim
    | succ n ih =>
      intro n' env σ hn h
      obtain ⟨n'', rfl⟩ : ∃ n'', n' = n'' + 1 := ⟨n' - 1, by omega⟩
      refine mono ?_ h
      intro e env σ he
      cases e with
      | normal => exact ih n'' env σ (by omega) he
      | _ => exact he
  have key : ∀ (m : Nat) (env : Env) (σ : AHeap), I m env σ → aloop step K (m + 1) env σ := by
    intro m
    induction m using Nat.strongRecOn with
    | _ m ih =>
      intro env σ hI
      refine mono ?_ (h m env σ hI)
      intro e env' σ' he
      cases e with
      | normal =>
        obtain ⟨m', hlt, hI'⟩ := he
        exact hup (m' + 1) m env' σ' (by omega) (ih m' hlt env' σ' hI')
      | _ => exact he
  exact fun m env σ hI => ⟨m + 1, key m env σ hI⟩
theorem wpc_mono {c : Code} {K K' : Exit → Env → AHeap → Prop} {env : Env} {σ : AHeap} (hk : ∀ e env σ, K e env σ → K' e env σ) (h : wpc P ord c K env σ) : wpc P ord c K' env σ := by
  obtain ⟨e, env', σ', _, h1, h2⟩ := wpc_pick c _ _ _ h
  exact h2 K' (hk _ _ _ h1)
/-- A loop in code: what holds of its head, with a measure that falls. -/
theorem aloops_wpc {c : Code} {K : Exit → Env → AHeap → Prop} {env : Env} {σ : AHeap} (I : Nat → Env → AHeap → Prop) (m : Nat) (h0 : I m env σ)
    (h : ∀ m env σ, I m env σ → wpc P ord c (athen (fun env' σ' => ∃ m', m' < m ∧ I m' env' σ') K) env σ) : @aloops ⟨wpc P ord c⟩ ⟨K⟩ env σ :=
  aloops_of (step := wpc P ord c) I (fun hk hh => wpc_mono hk hh) h m env σ h0
/-- 'It is enough to show a': what simp leaves where a contract was used. -/
def Alt (a : Prop) [b : Kt Prop] : Prop := a ∨ b.val
theorem Alt.mk {a b : Prop} (h : a) : @Alt a ⟨b⟩ := .inl h
theorem Alt_true {b : Prop} : @Alt True ⟨b⟩ = True := by simp [Alt]
theorem callP_alt {g : FuncId} {args : List AV} {v : AV} {σ σ' : AHeap} {k : AV → AHeap → Prop} (h : Fn P g args σ fun x τ => x = v ∧ τ = σ') :
    @callP P (.fn g [] []) args σ ⟨k⟩ = @Alt (k v σ') ⟨@callP P (.fn g [] []) args σ ⟨k⟩⟩ := by
  refine propext ⟨fun hh => .inr hh, fun hh => ?_⟩
  rcases hh with hh | hh
  · rw [callP_fn]; exact h.eq hh
  · exact hh
theorem callP_use {g : FuncId} {args : List AV} {σ : AHeap} {Q k : AV → AHeap → Prop} (h : Fn P g args σ Q) (hk : ∀ v σ', σ.n ≤ σ'.n → Q v σ' → k v σ') : @callP P (.fn g [] []) args σ ⟨k⟩ := by
  rw [callP_fn]; exact h.use hk
theorem abin_add (t : TypeId) (k : IntKind) (a b : Int) : abin P .add t (.int k a) (.int k b) = aint .add k a b := by simp [abin]
theorem abin_sub (t : TypeId) (k : IntKind) (a b : Int) : abin P .sub t (.int k a) (.int k b) = aint .sub k a b := by simp [abin]
theorem abin_mul (t : TypeId) (k : IntKind) (a b : Int) : abin P .mul t (.int k a) (.int k b) = aint .mul k a b := by simp [abin]
theorem abin_quo (t : TypeId) (k : IntKind) (a b : Int) : abin P .quo t (.int k a) (.int k b) = aint .quo k a b := by simp [abin]
theorem abin_rem (t : TypeId) (k : IntKind) (a b : Int) : abin P .rem t (.int k a) (.int k b) = aint .rem k a b := by simp [abin]
theorem abin_and (t : TypeId) (k : IntKind) (a b : Int) : abin P .and t (.int k a) (.int k b) = aint .and k a b := by simp [abin]
theorem abin_or (t : TypeId) (k : IntKind) (a b : Int) : abin P .or t (.int k a) (.int k b) = aint .or k a b := by simp [abin]
theorem abin_xor (t : TypeId) (k : IntKind) (a b : Int) : abin P .xor t (.int k a) (.int k b) = aint .xor k a b := by simp [abin]
theorem abin_eql (t : TypeId) (k : IntKind) (a b : Int) : abin P .eql t (.int k a) (.int k b) = aint .eql k a b := by simp [abin]
theorem abin_neq (t : TypeId) (k : IntKind) (a b : Int) : abin P .neq t (.int k a) (.int k b) = aint .neq k a b := by simp [abin]
theorem abin_lss (t : TypeId) (k : IntKind) (a b : Int) : abin P .lss t (.int k a) (.int k b) = aint .lss k a b := by simp [abin]
theorem abin_leq (t : TypeId) (k : IntKind) (a b : Int) : abin P .leq t (.int k a) (.int k b) = aint .leq k a b := by simp [abin]
theorem abin_gtr (t : TypeId) (k : IntKind) (a b : Int) : abin P .gtr t (.int k a) (.int k b) = aint .gtr k a b := by simp [abin]
theorem abin_geq (t : TypeId) (k : IntKind) (a b : Int) : abin P .geq t (.int k a) (.int k b) = aint .geq k a b := by simp [abin]
end
attribute [go_sem] Alt_true abin_add abin_sub abin_mul abin_quo abin_rem abin_and abin_or abin_xor abin_eql abin_neq abin_lss abin_leq abin_gtr abin_geq
end AH
/- THE ABSTRACT MACHINE: what may be forgotten of the memory behind a call. -/
namespace AH
open Go
mutual
def AV.lt (n : Nat) : AV → Bool
  | .ptr i _ => decide (i < n)
  | .sl i _ _ _ => decide (i < n)
  | .fn _ a b => AV.lts n a && AV.lts n b
  | .iface _ v => AV.lt n v
  | .agg cs => AV.lts n cs
  | .tup cs => AV.lts n cs
  | _ => true
def AV.lts (n : Nat) : List AV → Bool
  | [] => true
  | a :: as => AV.lt n a && AV.lts n as
end
theorem lts_get {n : Nat} : ∀ {cs : List AV}, AV.lts n cs = true → ∀ (j : Nat) (a : AV), cs[j]? = some a → a.lt n = true
  | [], _, j, a, h => by simp at h
  | c :: cs, h, j, a, ha => by
    simp only [AV.lts, Bool.and_eq_true] at h
    cases j with
    | zero => simp at ha; subst ha; exact h.1
    | succ j => exact lts_get h.2 j a (by simpa using ha)
theorem VR.restrict {μ μ' : Mu} {n : Nat} (hm : ∀ i, i < n → μ' i = μ i) {a : AV} {u : Value} (h : VR μ' a u) : a.lt n = true → VR μ a u := by
  induction h with
  | bool b => exact fun _ => .bool b
  | int k n => exact fun _ => .int k n
  | str s => exact fun _ => .str s
  | ptr i k l hl => intro hlt; simp only [AV.lt, decide_eq_true_eq] at hlt; exact .ptr i k l (hm i hlt ▸ hl)
  | nilp => exact fun _ => .nilp
  | sl i k m e cap l off hl hn ho => intro hlt; simp only [AV.lt, decide_eq_true_eq] at hlt; exact .sl i k m e cap l off (hm i hlt ▸ hl) hn ho
  | nils => exact fun _ => .nils
  | fn f xs ys us vs hx hy h h' ih ih' =>
    intro hlt
    simp only [AV.lt, Bool.and_eq_true] at hlt
    exact .fn f xs ys us vs hx hy (fun j a u ha hu => ih j a u ha hu (lts_get hlt.1 j a ha)) (fun j a u ha hu => ih' j a u ha hu (lts_get hlt.2 j a ha))
  | nilfn => exact fun _ => .nilfn
  | iface t a u h ih => intro hlt; simp only [AV.lt] at hlt; exact .iface t a u (ih hlt)
  | nilif => exact fun _ => .nilif
  | agg cs us hl h ih => intro hlt; simp only [AV.lt] at hlt; exact .agg cs us hl fun j a u ha hu => ih j a u ha hu (lts_get hlt j a ha)
  | tup cs us hl h ih => intro hlt; simp only [AV.lt] at hlt; exact .tup cs us hl fun j a u ha hu => ih j a u ha hu (lts_get hlt j a ha)
  | undef u => exact fun _ => .undef u
theorem VR.transfer {μ μ' : Mu} {n : Nat} (hm : ∀ i, i < n → μ' i = μ i) (hd : ∀ i l, μ i = some l → i < n) {a : AV} {u : Value} (h : VR μ a u) : ∀ {u' : Value}, VR μ' a u' → VR μ a u' := by
  induction h with
  | bool b => intro u' h'; cases h'; exact .bool b
  | int k n => intro u' h'; cases h'; exact .int k n
  | str s => intro u' h'; cases h'; exact .str s
  | ptr i k l hl => intro u' h'; cases h' with | ptr _ _ l' hl' => rw [hm i (hd i l hl)] at hl'; exact .ptr i k l' hl'
  | nilp => intro u' h'; cases h'; exact .nilp
  | sl i k m e cap l off hl hn ho => intro u' h'; cases h' with | sl _ _ _ _ cap' l' off' hl' hn' ho' => rw [hm i (hd i l hl)] at hl'; exact .sl i k m e cap' l' off' hl' hn' ho'
  | nils => intro u' h'; cases h'; exact .nils
  | fn f xs ys us vs hx hy h h' ih ih' =>
    intro u' hh
    cases hh with
    | fn _ _ _ us' vs' hx' hy' h1 h2 =>
      refine .fn f xs ys us' vs' hx' hy' (fun j a u ha hu => ?_) (fun j a u ha hu => ?_)
      · have hj : j < us.size := by rw [← hx]; exact (List.getElem?_eq_some_iff.1 ha).1
        exact ih j a us[j] ha (Array.getElem?_eq_getElem hj) (h1 j a u ha hu)
      · have hj : j < vs.size := by rw [← hy]; exact (List.getElem?_eq_some_iff.1 ha).1
        exact ih' j a vs[j] ha (Array.getElem?_eq_getElem hj) (h2 j a u ha hu)
  | nilfn => intro u' h'; cases h'; exact .nilfn
  | iface t a u h ih => intro u' h'; cases h' with | iface _ _ u2 h2 => exact .iface t a u2 (ih h2)
  | nilif => intro u' h'; cases h'; exact .nilif
  | agg cs us hl h ih =>
    intro u' hh
    cases hh with
    | agg _ us' hl' h1 =>
      refine .agg cs us' hl' fun j a u ha hu => ?_
      have hj : j < us.size := by rw [← hl]; exact (List.getElem?_eq_some_iff.1 ha).1
      exact ih j a us[j] ha (Array.getElem?_eq_getElem hj) (h1 j a u ha hu)
  | tup cs us hl h ih =>
    intro u' hh
    cases hh with
    | tup _ us' hl' h1 =>
      refine .tup cs us' hl' fun j a u ha hu => ?_
      have hj : j < us.size := by rw [← hl]; exact (List.getElem?_eq_some_iff.1 ha).1
      exact ih j a us[j] ha (Array.getElem?_eq_getElem hj) (h1 j a u ha hu)
  | undef u => intro u' _; exact .undef u'
/-- What a call has made and does not return is forgotten. -/
theorem ACall.forget {P : Program} {f : FuncId} {args : List AV} {σ σ' τ : AHeap} {v : AV} (h : ACall P f args σ v σ') (hn : τ.n = σ.n)
    (hg : ∀ i, i < σ.n → τ.get i = σ'.get i ∧ (σ'.get i = σ.get i ∨ ∀ B, σ'.get i = some B → ∃ C, σ.get i = some C ∧ ∀ a ∈ B.cells, a.lt σ.n = true ∨ a ∈ C.cells)) (hv : v.lt σ.n = true) : ACall P f args σ v τ := by
  refine ⟨h.1, Nat.le_of_eq hn.symm, fun μ w us hR hus => (h.2.2 μ w us hR hus).mono ?_⟩
  rintro e w' ⟨u, μ', rfl, hvu, hR', hS⟩
  have hm : ∀ i, i < σ.n → μ' i = μ i := hS.ext
  refine ⟨u, μ, rfl, hvu.restrict hm hv, ⟨fun i l hl => by rw [hn]; exact hR.dom i l hl, ?_, ?_⟩, ?_⟩
  · intro i B l hB hl
    have hi := hR.dom i l hl
    obtain ⟨h1, h2⟩ := hg i hi
    rw [h1] at hB
    obtain ⟨arr, el, fr, b1, b2, b3, b4, b5⟩ := (hR'.blk i B l hB (by rw [hm i hi]; exact hl)).ex
    refine ⟨arr, el, fr, b1, b2, b3, b4, fun j a ha => ?_⟩
    obtain ⟨y, hy, hvr⟩ := b5 j a ha
    refine ⟨y, hy, ?_⟩
    rcases h2 with h2 | h2
    · rw [h2] at hB
      obtain ⟨_, _, _, _, _, _, _, c5⟩ := (hR.blk i B l hB hl).ex
      obtain ⟨y0, _, hv0⟩ := c5 j a ha
      exact hv0.transfer hm hR.dom hvr
    · obtain ⟨C, hC, h3⟩ := h2 B hB
      rcases h3 a (List.mem_of_getElem? ha) with h4 | h4
      · exact hvr.restrict hm h4
      · obtain ⟨j', hj'⟩ := List.mem_iff_getElem?.1 h4
        obtain ⟨_, _, _, _, _, _, _, c5⟩ := (hR.blk i C l hC hl).ex
        obtain ⟨y0, _, hv0⟩ := c5 j' a hj'
        exact hv0.transfer hm hR.dom hvr
  · intro i j B C l m hij hB hC hrw hl hm'
    have hi := hR.dom i l hl
    have hj := hR.dom j m hm'
    exact hR'.sep i j B C l m hij ((hg i hi).1 ▸ hB) ((hg j hj).1 ▸ hC) hrw (by rw [hm i hi]; exact hl) (by rw [hm j hj]; exact hm')
  · refine ⟨hS.os, hS.tape, hS.output, hS.size, Nat.le_of_eq hn.symm, fun i _ => rfl, ?_, hS.cells, ?_, ?_, hS.other⟩
    · rintro b o hb ⟨i, B, l, hB, hrw, hl, hh⟩
      have hi := hR.dom i l hl
      exact hS.terr b o hb ⟨i, B, l, (hg i hi).1 ▸ hB, hrw, by rw [hm i hi]; exact hl, hh⟩
    · intro i B hi hB hr
      exact hS.ro i B hi ((hg i hi).1 ▸ hB) hr
    · intro i B h1 h2; omega
/-- Below n the memories are the same. -/
def Keeps (n : Nat) (σ τ : AHeap) : Prop := ∀ i, i < n → τ.get i = σ.get i
theorem Keeps.refl (n : Nat) (σ : AHeap) : Keeps n σ σ := fun _ _ => rfl
theorem Keeps_refl (n : Nat) (σ : AHeap) : Keeps n σ σ ↔ True := ⟨fun _ => trivial, fun _ => Keeps.refl n σ⟩
theorem Keeps.trans {n : Nat} {σ τ υ : AHeap} (h : Keeps n σ τ) (h' : Keeps n τ υ) : Keeps n σ υ := fun i hi => (h' i hi).trans (h i hi)
theorem Keeps.le {n m : Nat} {σ τ : AHeap} (h : Keeps n σ τ) (hm : m ≤ n) : Keeps m σ τ := fun i hi => h i (by omega)
theorem Keeps_push {n : Nat} {σ τ : AHeap} {B : ABlk} (h : n ≤ τ.n) : Keeps n σ (τ.push B) ↔ Keeps n σ τ := by
  constructor
  · intro hk i hi; have := hk i hi; rwa [AHeap.push_get, if_neg (by omega)] at this
  · intro hk i hi; rw [AHeap.push_get, if_neg (by omega)]; exact hk i hi
theorem Keeps_set {n j : Nat} {σ τ : AHeap} {B : ABlk} (h : n ≤ j) : Keeps n σ (τ.set j B) ↔ Keeps n σ τ := by
  constructor
  · intro hk i hi; have := hk i hi; rwa [AHeap.set_get, if_neg (by omega)] at this
  · intro hk i hi; rw [AHeap.set_get, if_neg (by omega)]; exact hk i hi
theorem Keeps_kill {n j : Nat} {σ τ : AHeap} (h : n ≤ j) : Keeps n σ (τ.kill j) ↔ Keeps n σ τ := by
  constructor
  · intro hk i hi; have := hk i hi; rwa [AHeap.kill_get, if_neg (by omega)] at this
  · intro hk i hi; rw [AHeap.kill_get, if_neg (by omega)]; exact hk i hi
theorem fn_pure {P : Program} {f : FuncId} {fn : Func} {c : Code} {args : List AV} {σ : AHeap} {v : AV} (ord : Nat → DOrd) (hm : P.follows .mixedOrders = true)
    (hf : P.funcs[f]? = some fn) (hn : (fn.name == "runtime.NumGoroutine") = false) (hb : fn.body = some c) (hok : (codeOk fn.ntmps ord c && decide (args.length ≤ fn.ntmps)) = true) (hv : v.lt σ.n = true)
    (h : wpc P ord c (aresK P fn.results.toList fun x τ => x = v ∧ Keeps σ.n σ τ) (envOf args) σ) : Fn P f args σ fun x τ => x = v ∧ τ = σ := by
  obtain ⟨x, τ, hc, rfl, hk⟩ := fn_of ord hm hf hn hb hok h
  exact ⟨x, σ, hc.forget rfl (fun i hi => ⟨(hk i hi).symm, .inl (hk i hi)⟩) hv, rfl, rfl⟩
theorem aun_not (b : Bool) : aun .not (.bool b) = some (.bool !b) := id rfl
theorem aun_neg (k : IntKind) (n : Int) : aun .neg (.int k n) = some (.int k (k.wrap (0 - n))) := id rfl
theorem fn_mut {P : Program} {f : FuncId} {fn : Func} {c : Code} {args : List AV} {σ ρ : AHeap} {v : AV} (ord : Nat → DOrd) (hm : P.follows .mixedOrders = true)
    (hf : P.funcs[f]? = some fn) (hn : (fn.name == "runtime.NumGoroutine") = false) (hb : fn.body = some c) (hok : (codeOk fn.ntmps ord c && decide (args.length ≤ fn.ntmps)) = true) (hv : v.lt σ.n = true)
    (hr : ρ.n = σ.n) (hl : ∀ i, i < σ.n → ρ.get i = σ.get i ∨ ∀ B, ρ.get i = some B → ∃ C, σ.get i = some C ∧ ∀ a ∈ B.cells, a.lt σ.n = true ∨ a ∈ C.cells)
    (h : wpc P ord c (aresK P fn.results.toList fun x τ => x = v ∧ Keeps σ.n ρ τ) (envOf args) σ) : Fn P f args σ fun x τ => x = v ∧ τ = ρ := by
  obtain ⟨x, τ, hc, rfl, hk⟩ := fn_of ord hm hf hn hb hok h
  exact ⟨x, ρ, hc.forget hr (fun i hi => ⟨(hk i hi).symm, by rw [hk i hi]; exact hl i hi⟩) hv, rfl, rfl⟩
theorem mut_set {σ : AHeap} {j : Nat} {B C : ABlk} (hC : σ.get j = some C) (h : ∀ a ∈ B.cells, a.lt σ.n = true ∨ a ∈ C.cells) :
    ∀ i, i < σ.n → (σ.set j B).get i = σ.get i ∨ ∀ D, (σ.set j B).get i = some D → ∃ C, σ.get i = some C ∧ ∀ a ∈ D.cells, a.lt σ.n = true ∨ a ∈ C.cells := by
  intro i _
  by_cases e : i = j
  · right
    intro D hD
    rw [AHeap.set_get, if_pos e] at hD
    cases hD; subst e
    exact ⟨C, hC, h⟩
  · left; rw [AHeap.set_get, if_neg e]
theorem mut_win {n k : Nat} {cs0 cs cs' : List AV} (hl : cs'.length = cs.length) (hk : k + cs.length ≤ cs0.length) (h : ∀ a ∈ cs', a.lt n = true ∨ a ∈ cs) : ∀ a ∈ splice cs0 k cs', a.lt n = true ∨ a ∈ splice cs0 k cs := by
  intro a ha
  unfold splice at ha ⊢
  simp only [List.mem_append] at ha ⊢
  rcases ha with (ha | ha) | ha
  · exact .inr (.inl (.inl ha))
  · rcases h a ha with h | h
    · exact .inl h
    · exact .inr (.inl (.inr h))
  · rw [hl] at ha; exact .inr (.inr ha)
theorem splice_cs {α : Type} (c : α) (cs : List α) (j : Nat) (vs : List α) : splice (c :: cs) (j + 1) vs = c :: splice cs j vs := by
  unfold splice; simp [Nat.add_right_comm]
theorem splice_c0 {α : Type} (c : α) (cs : List α) (v : α) (vs : List α) : splice (c :: cs) 0 (v :: vs) = v :: splice cs 0 vs := by
  unfold splice; simp
theorem splice_00 {α : Type} (cs : List α) : splice cs 0 [] = cs := by
  unfold splice; simp
/-! ### a window of a block -/
section
variable {cs0 cs vs : List AV} {k j n : Nat}
theorem win_len (h : k + cs.length ≤ cs0.length) : (splice cs0 k cs).length = cs0.length := by
  unfold splice; simp; omega
theorem win_get (h : k + cs.length ≤ cs0.length) (hj : j < cs.length) : (splice cs0 k cs)[k + j]? = cs[j]? := by
  unfold splice
  rw [List.getElem?_append_left (by simp; omega), List.getElem?_append_right (by simp; omega)]
  congr 1
  simp; omega
theorem win_get0 (h : k + cs.length ≤ cs0.length) (hj : 0 < cs.length) : (splice cs0 k cs)[k]? = cs[0]? := win_get (j := 0) h hj
theorem win_sub (h : k + cs.length ≤ cs0.length) (hj : j + n ≤ cs.length) : ((splice cs0 k cs).drop (k + j)).take n = (cs.drop j).take n := by
  unfold splice
  rw [List.append_assoc, List.drop_append, List.drop_eq_nil_of_le (by simp; omega), List.nil_append, List.drop_append, List.take_append]
  have e : k + j - (cs0.take k).length = j := by simp; omega
  rw [e]
  have : n - (cs.drop j).length = 0 := by simp; omega
  rw [this]; simp
theorem win_sub0 (h : k + cs.length ≤ cs0.length) (hj : n ≤ cs.length) : ((splice cs0 k cs).drop k).take n = cs.take n := by
  have := win_sub (j := 0) (n := n) h (by omega)
  simpa using this
theorem win_put (h : k + cs.length ≤ cs0.length) (hj : j + vs.length ≤ cs.length) : splice (splice cs0 k cs) (k + j) vs = splice cs0 k (splice cs j vs) := by
  unfold splice
  apply List.ext_getElem?
  intro q
  simp only [List.getElem?_append, List.getElem?_take, List.getElem?_drop, List.length_append, List.length_take, List.length_drop]
  repeat' split
  all_goals first
    | rfl
    | (exfalso; omega)
    | (congr 1; omega)
theorem win_put0 (h : k + cs.length ≤ cs0.length) (hj : vs.length ≤ cs.length) : splice (splice cs0 k cs) k vs = splice cs0 k (splice cs 0 vs) := win_put (j := 0) h (by omega)
end
theorem lts_ints (n : Nat) (kk : IntKind) (xs : List Int) : AV.lts n (xs.map (.int kk)) = true := by
  induction xs with
  | nil => rfl
  | cons x xs ih => simp [AV.lts, AV.lt, ih]
theorem lts_append (n : Nat) (a b : List AV) : AV.lts n (a ++ b) = (AV.lts n a && AV.lts n b) := by
  induction a with
  | nil => simp [AV.lts]
  | cons x xs ih => simp [AV.lts, ih, Bool.and_assoc]
theorem push_get_lt {σ : AHeap} {B : ABlk} {i : Nat} (h : i < σ.n) : (σ.push B).get i = σ.get i := by rw [AHeap.push_get, if_neg (by omega)]
theorem set_get_ne {σ : AHeap} {B : ABlk} {i j : Nat} (h : i ≠ j) : (σ.set j B).get i = σ.get i := by rw [AHeap.set_get, if_neg h]
theorem kill_get_ne {σ : AHeap} {i j : Nat} (h : i ≠ j) : (σ.kill j).get i = σ.get i := by rw [AHeap.kill_get, if_neg h]
theorem push_set_lt {τ : AHeap} {Y Z : ABlk} {i : Nat} (h : i < τ.n) : (τ.push Z).set i Y = (τ.set i Y).push Z := by
  unfold AHeap.push AHeap.set
  congr 1
  funext j
  dsimp only
  by_cases e : j = i
  · subst e; rw [if_pos rfl, if_neg (by omega), if_pos rfl]
  · rw [if_neg e, if_neg e]
theorem push_kill_lt {τ : AHeap} {Z : ABlk} {i : Nat} (h : i < τ.n) : (τ.push Z).kill i = (τ.kill i).push Z := by
  unfold AHeap.push AHeap.kill
  congr 1
  funext j
  dsimp only
  by_cases e : j = i
  · subst e; rw [if_pos rfl, if_neg (by omega), if_pos rfl]
  · rw [if_neg e, if_neg e]
attribute [go_sem] push_set_lt push_kill_lt
theorem if_le {α : Type} {a b : Nat} (h : a ≤ b) (x y : α) : (if a ≤ b then x else y) = x := if_pos h
theorem if_rng {α : Type} {a n : Int} (h : 0 ≤ a) (h' : a < n) (x y : α) : (if 0 ≤ a ∧ a < n then x else y) = x := if_pos ⟨h, h'⟩
theorem amin2_int (k k' : IntKind) (x y : Int) : amin2 (.int k x) (.int k' y) = some (.int k (min x y)) := by
  unfold amin2; simp only [Int.min_def]; split <;> split <;> first | rfl | (exfalso; omega) | (congr 2; omega)
theorem amax2_int (k k' : IntKind) (x y : Int) : amax2 (.int k x) (.int k' y) = some (.int k (max x y)) := by
  unfold amax2; simp only [Int.max_def]; split <;> split <;> first | rfl | (exfalso; omega) | (congr 2; omega)
theorem if_rng1 {α : Type} {a n : Int} (h : 1 ≤ a) (h' : a - 1 < n) (x y : α) : (if 1 ≤ a ∧ a - 1 < n then x else y) = x := if_pos ⟨h, h'⟩
attribute [go_sem] if_rng1 amin2_int amax2_int if_le if_rng
attribute [go_sem high] push_get_lt set_get_ne kill_get_ne
attribute [go_sem] astore AV.one List.all_cons List.all_nil afill splice_cs splice_c0 splice_00 win_get win_get0 win_sub win_sub0 win_put win_put0 win_len List.take_succ_cons List.take_zero List.drop_succ_cons List.drop_zero List.nil_append List.cons_append List.append_nil List.length_cons List.length_nil
theorem int_beq (a b : Int) : (a == b) = decide (a = b) := by by_cases h : a = b <;> simp [h]
theorem int_bne (a b : Int) : (a != b) = !decide (a = b) := by by_cases h : a = b <;> simp [h, bne]
attribute [go_sem] int_beq int_bne aun_not aun_neg Keeps_refl Keeps_push Keeps_set Keeps_kill
end AH
