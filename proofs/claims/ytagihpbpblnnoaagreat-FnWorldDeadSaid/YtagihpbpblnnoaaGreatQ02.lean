import Derived.Test.YtagihpbpblnnoaaGreatQ01
set_option linter.all false
namespace AH
open Go
section
variable {P : Program} {ord : Nat → DOrd} {K : Exit → Env → AHeap → Prop} {env : Env} {σ : AHeap}
theorem wpc_skip : wpc P ord .skip K env σ = K .normal env σ := _root_.id rfl
theorem wpc_region (id : Nat) (ops : Array Oper) : wpc P ord (.region id ops false) K env σ = aops P ops ops.toList env σ (K .normal) := _root_.id rfl
theorem wpc_draw (id : Nat) (ops : Array Oper) : wpc P ord (.region id ops true) K env σ = @adraw P ops (ord id) env σ ⟨K .normal⟩ := _root_.id rfl
theorem wpc_seq (a b : Code) : wpc P ord (.seq a b) K env σ = wpc P ord a (athen (wpc P ord b K) K) env σ := _root_.id rfl
theorem wpc_cond (c : Operand) (a b : Code) : wpc P ord (.cond c a b) K env σ = @acond (aeval env c) ⟨wpc P ord a K env σ⟩ ⟨wpc P ord b K env σ⟩ := _root_.id rfl
theorem wpc_block (id : Nat) (c : Code) : wpc P ord (.block id c) K env σ = wpc P ord c (ainBlock id K) env σ := _root_.id rfl
theorem wpc_loop (c : Code) : wpc P ord (.loop c) K env σ = @aloops ⟨wpc P ord c⟩ ⟨K⟩ env σ := _root_.id rfl
theorem wpc_exit (id : Nat) : wpc P ord (.exit id) K env σ = K (.exit id) env σ := _root_.id rfl
theorem wpc_ret : wpc P ord .ret K env σ = K .ret env σ := _root_.id rfl
theorem athen_normal (n : Env → AHeap → Prop) : athen n K .normal env σ = n env σ := _root_.id rfl
theorem athen_ret (n : Env → AHeap → Prop) : athen n K .ret env σ = K .ret env σ := _root_.id rfl
theorem athen_exit (n : Env → AHeap → Prop) (id : Nat) : athen n K (.exit id) env σ = K (.exit id) env σ := _root_.id rfl
theorem athen_normal' (n : Env → AHeap → Prop) : athen n K .normal = n := _root_.id rfl
theorem ainBlock_normal (id : Nat) : ainBlock id K .normal env σ = K .normal env σ := _root_.id rfl
theorem ainBlock_normal' (id : Nat) : ainBlock id K .normal = K .normal := _root_.id rfl
theorem ainBlock_ret (id : Nat) : ainBlock id K .ret env σ = K .ret env σ := _root_.id rfl
theorem ainBlock_exit (id id' : Nat) : ainBlock id K (.exit id') env σ = if id' = id then K .normal env σ else K (.exit id') env σ := _root_.id rfl
theorem aresK_normal (rs : List ResultVar) (Q : AV → AHeap → Prop) : aresK P rs Q .normal env σ = @bindR (ares P env σ rs) ⟨fun v => Q v σ⟩ := _root_.id rfl
theorem aresK_normal' (rs : List ResultVar) (Q : AV → AHeap → Prop) : aresK P rs Q .normal = fun env σ => @bindR (ares P env σ rs) ⟨fun v => Q v σ⟩ := _root_.id rfl
theorem aresK_ret (rs : List ResultVar) (Q : AV → AHeap → Prop) : aresK P rs Q .ret env σ = @bindR (ares P env σ rs) ⟨fun v => Q v σ⟩ := _root_.id rfl
theorem acond_bool (t : Bool) (a b : Prop) : @acond (.bool t) ⟨a⟩ ⟨b⟩ ↔ (t = true → a) ∧ (t = false → b) := Iff.rfl
theorem acond_true (a b : Prop) : @acond (.bool true) ⟨a⟩ ⟨b⟩ ↔ a := by simp [acond]
theorem acond_false (a b : Prop) : @acond (.bool false) ⟨a⟩ ⟨b⟩ ↔ b := by simp [acond]
theorem aops_nil (ops : Array Oper) (k : Env → AHeap → Prop) : aops P ops [] env σ k = k env σ := _root_.id rfl
theorem aops_cons (ops : Array Oper) (o : Oper) (os : List Oper) (k : Env → AHeap → Prop) :
    aops P ops (o :: os) env σ k = @agated (agate ops env o) ⟨astep P o env σ fun env' σ' => aops P ops os env' σ' k⟩ ⟨aops P ops os (env.put o.dst (.tup [])) σ k⟩ := _root_.id rfl
def gateOf (d : Option Tmp) (want : Bool) (env : Env) : Option Bool :=
  match d with
  | some d => (match env d with | .bool b => some (b == want) | .tup [] => some false | _ => none)
  | none => none
def gateB (v : AV) (want : Bool) : Option Bool := match v with | .bool b => some (b == want) | .tup [] => some false | _ => none
theorem gateB_skip (want : Bool) : gateB (.tup []) want = some false := _root_.id rfl
theorem gateOf_some (d : Tmp) (want : Bool) : gateOf (some d) want env = gateB (env d) want := _root_.id rfl
theorem gateB_bool (b want : Bool) : gateB (.bool b) want = some (b == want) := _root_.id rfl
/-- An operation without a guard. -/
theorem aops_plain (ops : Array Oper) (dst : Option Tmp) (op : Op) (ty : TypeId) (pos : String) (after : Array Edge) (os : List Oper) (k : Env → AHeap → Prop) :
    aops P ops (⟨dst, op, ty, pos, after, none⟩ :: os) env σ k ↔ astep P ⟨dst, op, ty, pos, after, none⟩ env σ fun env' σ' => aops P ops os env' σ' k := by
  simp [aops, agate, agated]
theorem aops_guard (ops : Array Oper) (dst : Option Tmp) (op : Op) (ty : TypeId) (pos : String) (after : Array Edge) (j : Nat) (want : Bool) (os : List Oper) (k : Env → AHeap → Prop) :
    aops P ops (⟨dst, op, ty, pos, after, some (j, want)⟩ :: os) env σ k =
      @agated (gateOf ((ops[j]?).bind (·.dst)) want env)
        ⟨astep P ⟨dst, op, ty, pos, after, some (j, want)⟩ env σ fun env' σ' => aops P ops os env' σ' k⟩ ⟨aops P ops os (env.put dst (.tup [])) σ k⟩ := _root_.id rfl
theorem agated_some (b : Bool) (x y : Prop) : @agated (some b) ⟨x⟩ ⟨y⟩ ↔ (b = true → x) ∧ (b = false → y) := Iff.rfl
theorem agated_true (x y : Prop) : @agated (some true) ⟨x⟩ ⟨y⟩ ↔ x := by simp [agated]
theorem agated_false (x y : Prop) : @agated (some false) ⟨x⟩ ⟨y⟩ ↔ y := by simp [agated]
theorem bindO_some (v : AV) (k : AV → AHeap → Prop) : @bindO (some (v, σ)) ⟨k⟩ = k v σ := _root_.id rfl
theorem bindR_some (vs : List AV) (k : AV → Prop) : @bindR (some vs) ⟨k⟩ = k (atup vs) := _root_.id rfl
theorem astep_call (dst : Option Tmp) (f : Operand) (args : Array Operand) (ts : Array TypeId) (ty : TypeId) (pos : String) (after : Array Edge) (g : Option (Nat × Bool)) (k : Env → AHeap → Prop) :
    astep P ⟨dst, .call ⟨.value f, args, ts⟩, ty, pos, after, g⟩ env σ k = @callP P (aeval env f) (args.toList.map (aeval env)) σ ⟨fun v σ' => k (env.put dst v) σ'⟩ := _root_.id rfl
theorem astep_move (x : Operand) (dst : Option Tmp) (ty : TypeId) (pos : String) (after : Array Edge) (g : Option (Nat × Bool)) (k : Env → AHeap → Prop) : astep P ⟨dst, (.move x), ty, pos, after, g⟩ env σ k = @bindO (aop P (aeval env) (.move x) σ) ⟨fun v σ' => k (env.put dst v) σ'⟩ := _root_.id rfl
theorem astep_assign (x : Operand) (dst : Option Tmp) (ty : TypeId) (pos : String) (after : Array Edge) (g : Option (Nat × Bool)) (k : Env → AHeap → Prop) : astep P ⟨dst, (.assign x), ty, pos, after, g⟩ env σ k = @bindO (aop P (aeval env) (.assign x) σ) ⟨fun v σ' => k (env.put dst v) σ'⟩ := _root_.id rfl
theorem astep_pick (a b c : Operand) (dst : Option Tmp) (ty : TypeId) (pos : String) (after : Array Edge) (g : Option (Nat × Bool)) (k : Env → AHeap → Prop) : astep P ⟨dst, (.pick a b c), ty, pos, after, g⟩ env σ k = @bindO (aop P (aeval env) (.pick a b c) σ) ⟨fun v σ' => k (env.put dst v) σ'⟩ := _root_.id rfl
theorem astep_alloc (e : TypeId) (dst : Option Tmp) (ty : TypeId) (pos : String) (after : Array Edge) (g : Option (Nat × Bool)) (k : Env → AHeap → Prop) : astep P ⟨dst, (.alloc e), ty, pos, after, g⟩ env σ k = @bindO (aop P (aeval env) (.alloc e) σ) ⟨fun v σ' => k (env.put dst v) σ'⟩ := _root_.id rfl
theorem astep_box (e : TypeId) (x : Operand) (dst : Option Tmp) (ty : TypeId) (pos : String) (after : Array Edge) (g : Option (Nat × Bool)) (k : Env → AHeap → Prop) : astep P ⟨dst, (.box e x), ty, pos, after, g⟩ env σ k = @bindO (aop P (aeval env) (.box e x) σ) ⟨fun v σ' => k (env.put dst v) σ'⟩ := _root_.id rfl
theorem astep_build (t : TypeId) (ps : Array (Nat × Operand)) (dst : Option Tmp) (ty : TypeId) (pos : String) (after : Array Edge) (g : Option (Nat × Bool)) (k : Env → AHeap → Prop) : astep P ⟨dst, (.build t ps), ty, pos, after, g⟩ env σ k = @bindO (aop P (aeval env) (.build t ps) σ) ⟨fun v σ' => k (env.put dst v) σ'⟩ := _root_.id rfl
theorem astep_buildSlice (t : TypeId) (n : Nat) (ps : Array (Nat × Operand)) (dst : Option Tmp) (ty : TypeId) (pos : String) (after : Array Edge) (g : Option (Nat × Bool)) (k : Env → AHeap → Prop) : astep P ⟨dst, (.buildSlice t n ps), ty, pos, after, g⟩ env σ k = @bindO (aop P (aeval env) (.buildSlice t n ps) σ) ⟨fun v σ' => k (env.put dst v) σ'⟩ := _root_.id rfl
theorem astep_load (t : TypeId) (x : Operand) (dst : Option Tmp) (ty : TypeId) (pos : String) (after : Array Edge) (g : Option (Nat × Bool)) (k : Env → AHeap → Prop) : astep P ⟨dst, (.load t x), ty, pos, after, g⟩ env σ k = @bindO (aop P (aeval env) (.load t x) σ) ⟨fun v σ' => k (env.put dst v) σ'⟩ := _root_.id rfl
theorem astep_store (t : TypeId) (x y : Operand) (dst : Option Tmp) (ty : TypeId) (pos : String) (after : Array Edge) (g : Option (Nat × Bool)) (k : Env → AHeap → Prop) : astep P ⟨dst, (.store t x y), ty, pos, after, g⟩ env σ k = @bindO (aop P (aeval env) (.store t x y) σ) ⟨fun v σ' => k (env.put dst v) σ'⟩ := _root_.id rfl
theorem astep_nilCheck (x : Operand) (dst : Option Tmp) (ty : TypeId) (pos : String) (after : Array Edge) (g : Option (Nat × Bool)) (k : Env → AHeap → Prop) : astep P ⟨dst, (.nilCheck x), ty, pos, after, g⟩ env σ k = @bindO (aop P (aeval env) (.nilCheck x) σ) ⟨fun v σ' => k (env.put dst v) σ'⟩ := _root_.id rfl
theorem astep_binOp (op : BinOp) (t : TypeId) (x y : Operand) (u : TypeId) (dst : Option Tmp) (ty : TypeId) (pos : String) (after : Array Edge) (g : Option (Nat × Bool)) (k : Env → AHeap → Prop) : astep P ⟨dst, (.binOp op t x y u), ty, pos, after, g⟩ env σ k = @bindO (aop P (aeval env) (.binOp op t x y u) σ) ⟨fun v σ' => k (env.put dst v) σ'⟩ := _root_.id rfl
theorem astep_unOp (op : UnOp) (t : TypeId) (x : Operand) (dst : Option Tmp) (ty : TypeId) (pos : String) (after : Array Edge) (g : Option (Nat × Bool)) (k : Env → AHeap → Prop) : astep P ⟨dst, (.unOp op t x), ty, pos, after, g⟩ env σ k = @bindO (aop P (aeval env) (.unOp op t x) σ) ⟨fun v σ' => k (env.put dst v) σ'⟩ := _root_.id rfl
theorem astep_convert (s d : TypeId) (x : Operand) (dst : Option Tmp) (ty : TypeId) (pos : String) (after : Array Edge) (g : Option (Nat × Bool)) (k : Env → AHeap → Prop) : astep P ⟨dst, (.convert s d x), ty, pos, after, g⟩ env σ k = @bindO (aop P (aeval env) (.convert s d x) σ) ⟨fun v σ' => k (env.put dst v) σ'⟩ := _root_.id rfl
theorem astep_makeFunc (f : Fn) (a b : Array Operand) (dst : Option Tmp) (ty : TypeId) (pos : String) (after : Array Edge) (g : Option (Nat × Bool)) (k : Env → AHeap → Prop) : astep P ⟨dst, (.makeFunc f a b), ty, pos, after, g⟩ env σ k = @bindO (aop P (aeval env) (.makeFunc f a b) σ) ⟨fun v σ' => k (env.put dst v) σ'⟩ := _root_.id rfl
theorem astep_makeSlice (t : TypeId) (x y : Operand) (dst : Option Tmp) (ty : TypeId) (pos : String) (after : Array Edge) (g : Option (Nat × Bool)) (k : Env → AHeap → Prop) : astep P ⟨dst, (.makeSlice t x y), ty, pos, after, g⟩ env σ k = @bindO (aop P (aeval env) (.makeSlice t x y) σ) ⟨fun v σ' => k (env.put dst v) σ'⟩ := _root_.id rfl
theorem astep_slice (t : TypeId) (x : Operand) (a b c : Option Operand) (dst : Option Tmp) (ty : TypeId) (pos : String) (after : Array Edge) (g : Option (Nat × Bool)) (k : Env → AHeap → Prop) : astep P ⟨dst, (.slice t x a b c), ty, pos, after, g⟩ env σ k = @bindO (aop P (aeval env) (.slice t x a b c) σ) ⟨fun v σ' => k (env.put dst v) σ'⟩ := _root_.id rfl
theorem astep_fieldAddr (t : TypeId) (x : Operand) (f : Nat) (dst : Option Tmp) (ty : TypeId) (pos : String) (after : Array Edge) (g : Option (Nat × Bool)) (k : Env → AHeap → Prop) : astep P ⟨dst, (.fieldAddr t x f), ty, pos, after, g⟩ env σ k = @bindO (aop P (aeval env) (.fieldAddr t x f) σ) ⟨fun v σ' => k (env.put dst v) σ'⟩ := _root_.id rfl
theorem astep_indexAddr (t : TypeId) (x y : Operand) (dst : Option Tmp) (ty : TypeId) (pos : String) (after : Array Edge) (g : Option (Nat × Bool)) (k : Env → AHeap → Prop) : astep P ⟨dst, (.indexAddr t x y), ty, pos, after, g⟩ env σ k = @bindO (aop P (aeval env) (.indexAddr t x y) σ) ⟨fun v σ' => k (env.put dst v) σ'⟩ := _root_.id rfl
theorem astep_index (t : TypeId) (x y : Operand) (dst : Option Tmp) (ty : TypeId) (pos : String) (after : Array Edge) (g : Option (Nat × Bool)) (k : Env → AHeap → Prop) : astep P ⟨dst, (.index t x y), ty, pos, after, g⟩ env σ k = @bindO (aop P (aeval env) (.index t x y) σ) ⟨fun v σ' => k (env.put dst v) σ'⟩ := _root_.id rfl
theorem astep_extract (x : Operand) (i : Nat) (dst : Option Tmp) (ty : TypeId) (pos : String) (after : Array Edge) (g : Option (Nat × Bool)) (k : Env → AHeap → Prop) : astep P ⟨dst, (.extract x i), ty, pos, after, g⟩ env σ k = @bindO (aop P (aeval env) (.extract x i) σ) ⟨fun v σ' => k (env.put dst v) σ'⟩ := _root_.id rfl
theorem astep_builtin (b : Builtin) (as : Array Operand) (ts : Array TypeId) (dst : Option Tmp) (ty : TypeId) (pos : String) (after : Array Edge) (g : Option (Nat × Bool)) (k : Env → AHeap → Prop) : astep P ⟨dst, (.call ⟨.builtin b, as, ts⟩), ty, pos, after, g⟩ env σ k = @bindO (aop P (aeval env) (.call ⟨.builtin b, as, ts⟩) σ) ⟨fun v σ' => k (env.put dst v) σ'⟩ := _root_.id rfl
theorem callP_intro {g : FuncId} {args : List AV} {v : AV} {σ' : AHeap} {k : AV → AHeap → Prop} (h : ACall P g args σ v σ') (hk : k v σ') : @callP P (.fn g [] []) args σ ⟨k⟩ :=
  ⟨v, σ', by simpa using h, hk⟩
theorem put_get (d : Tmp) (v : AV) (t : Tmp) : Env.put env (some d) v t = if t = d then v else env t := _root_.id rfl
theorem put_none (v : AV) : Env.put env none v = env := _root_.id rfl
theorem aeval_tmp (t : Tmp) : aeval env (.tmp t) = env t := _root_.id rfl
theorem aeval_const (v : Value) : aeval env (.const v) = ofValue v := _root_.id rfl
theorem aeval_func (f : FuncId) : aeval env (.func f) = .fn f [] [] := _root_.id rfl
theorem ofValue_bool (b : Bool) : ofValue (.bool b) = .bool b := _root_.id rfl
theorem ofValue_int (k : IntKind) (n : Int) : ofValue (.int k n) = .int k n := _root_.id rfl
theorem ofValue_str (s : ByteArray) : ofValue (.string s) = .str s := _root_.id rfl
theorem ofValue_nil : ofValue (.slice none 0 0) = .nils := _root_.id rfl
theorem ofValue_nilp : ofValue (.pointer none) = .nilp := _root_.id rfl
theorem envOf_zero (a : AV) (as : List AV) : envOf (a :: as) 0 = a := _root_.id rfl
theorem envOf_succ (a : AV) (as : List AV) (n : Nat) : envOf (a :: as) (n + 1) = envOf as n := by simp [envOf]
theorem abin_int (op : BinOp) (t : TypeId) (k : IntKind) (a b : Int) (h : (op == .shl || op == .shr) = false) : abin P op t (.int k a) (.int k b) = aint op k a b := by
  simp only [abin]
  rw [if_neg]
  · simp
  · intro hc
    rcases hc with rfl | rfl <;> simp at h
/-! ### regions that draw -/
theorem agate_guard (ops : Array Oper) (dst : Option Tmp) (op : Op) (ty : TypeId) (pos : String) (after : Array Edge) (i : Nat) (want : Bool) :
    agate ops env ⟨dst, op, ty, pos, after, some (i, want)⟩ = gateOf ((ops[i]?).bind (·.dst)) want env := _root_.id rfl
theorem adraw_mk (ops : Array Oper) (B : List Nat) (prs : List (Nat × Nat)) (k : Env → AHeap → Prop) :
    @adraw P ops ⟨B, prs, []⟩ env σ ⟨k⟩ = aopsT P ops 0 [] 0 ops.toList env σ [] fun env' σ' tr => chkAll ops.size tr prs ∧ k env' σ' := by
  unfold adraw
  simp only [if_true]
  have key : ∀ (os : List Oper) (j b b' : Nat) (env : Env) (σ : AHeap) (tr : List DRec) (K : Env → AHeap → List DRec → Prop), aopsT P ops b [] j os env σ tr K = aopsT P ops b' [] j os env σ tr K := by
    intro os
    induction os with
    | nil => intros; rfl
    | cons o os ih =>
      intro j b b' env σ tr K
      simp only [aopsT, keptAt, List.findIdx?_nil, Option.map_none, astepT]
      congr 1
      · congr 1; congr 1; funext env' σ'; exact ih _ _ _ _ _ _ _
      · congr 1; exact ih _ _ _ _ _ _ _
  exact key _ _ _ _ _ _ _ _
theorem aopsT_free (ops : Array Oper) (b : Nat) : ∀ (os : List Oper) (j : Nat) (env : Env) (σ : AHeap) (tr : List DRec) (k : Env → AHeap → Prop),
    aopsT P ops b [] j os env σ tr (fun env' σ' _ => k env' σ') = aops P ops os env σ k := by
  intro os
  induction os with
  | nil => intros; rfl
  | cons o os ih =>
    intro j env σ tr k
    have e1 : (astepT P o (keptAt b [] j) env σ fun env' σ' => aopsT P ops b [] (j + 1) os env' σ' (⟨atOf (keptAt b [] j) (touched env o), σ, σ'⟩ :: tr) fun env' σ' _ => k env' σ') = astep P o env σ fun env' σ' => aops P ops os env' σ' k := by
      rw [show keptAt b [] j = none by simp [keptAt]]
      simp only [astepT]
      congr 1; funext env' σ'; exact ih _ _ _ _ _
    simp only [aopsT, aops]
    rw [e1, ih]
theorem adraw_free (ops : Array Oper) (B : List Nat) (k : Env → AHeap → Prop) :
    @adraw P ops ⟨B, [], []⟩ env σ ⟨k⟩ = aops P ops ops.toList env σ k := by
  unfold adraw
  simp only [if_true, chkAll, true_and]
  exact aopsT_free ops σ.n _ _ _ _ _ _
theorem aopsT_nil (ops : Array Oper) (b : Nat) (res : List Nat) (j : Nat) (tr : List DRec) (k : Env → AHeap → List DRec → Prop) : aopsT P ops b res j [] env σ tr k = k env σ tr := _root_.id rfl
theorem aopsT_plain (ops : Array Oper) (j : Nat) (dst : Option Tmp) (op : Op) (ty : TypeId) (pos : String) (after : Array Edge) (os : List Oper) (tr : List DRec) (k : Env → AHeap → List DRec → Prop) :
    aopsT P ops 0 [] j (⟨dst, op, ty, pos, after, none⟩ :: os) env σ tr k ↔
      astep P ⟨dst, op, ty, pos, after, none⟩ env σ fun env' σ' => aopsT P ops 0 [] (j + 1) os env' σ' (⟨touched env ⟨dst, op, ty, pos, after, none⟩, σ, σ'⟩ :: tr) k := by
  simp [aopsT, agate, agated, keptAt, astepT, atOf]
theorem aopsT_guard (ops : Array Oper) (j : Nat) (dst : Option Tmp) (op : Op) (ty : TypeId) (pos : String) (after : Array Edge) (i : Nat) (want : Bool) (os : List Oper) (tr : List DRec) (k : Env → AHeap → List DRec → Prop) :
    aopsT P ops 0 [] j (⟨dst, op, ty, pos, after, some (i, want)⟩ :: os) env σ tr k =
      @agated (gateOf ((ops[i]?).bind (·.dst)) want env)
        ⟨astep P ⟨dst, op, ty, pos, after, some (i, want)⟩ env σ fun env' σ' => aopsT P ops 0 [] (j + 1) os env' σ' (⟨touched env ⟨dst, op, ty, pos, after, some (i, want)⟩, σ, σ'⟩ :: tr) k⟩
        ⟨aopsT P ops 0 [] (j + 1) os (env.put dst (.tup [])) σ (⟨none, σ, σ⟩ :: tr) k⟩ := by
  rw [← agate_guard ops dst op ty pos after i want]
  rfl
def chkAt (at_ : Option Nat) (pre post : AHeap) : Prop :=
  match at_ with
  | some b => pre.get b = post.get b
  | none => True
theorem chkAll_nil (n : Nat) (tr : List DRec) : chkAll n tr [] ↔ True := Iff.rfl
theorem chkAll_cons (n : Nat) (tr : List DRec) (p : Nat × Nat) (ps : List (Nat × Nat)) : chkAll n tr (p :: ps) ↔ chkPair n tr p ∧ chkAll n tr ps := Iff.rfl
def chk2 (x y : Option DRec) : Prop :=
  match x, y with
  | some x, some y => chkAt x.at_ y.pre y.post
  | _, _ => False
theorem chkPair_eq (n : Nat) (tr : List DRec) (i j : Nat) : chkPair n tr (i, j) = chk2 tr[n - 1 - i]? tr[n - 1 - j]? := by
  unfold chkPair chk2 chkAt
  rfl
theorem chk2_some (a b : Option Nat) (p q r s : AHeap) : chk2 (some ⟨a, p, q⟩) (some ⟨b, r, s⟩) = chkAt a r s := _root_.id rfl
theorem chkAt_some (b : Nat) (p q : AHeap) : chkAt (some b) p q ↔ p.get b = q.get b := Iff.rfl
theorem chkAt_none (p q : AHeap) : chkAt none p q ↔ True := Iff.rfl
def ptrOf (v : AV) : Option Nat := match v with | .ptr i _ => some i | _ => none
theorem touched_load (dst : Option Tmp) (t : TypeId) (a : Operand) (ty : TypeId) (pos : String) (after : Array Edge) (g : Option (Nat × Bool)) : touched env ⟨dst, .load t a, ty, pos, after, g⟩ = ptrOf (aeval env a) := _root_.id rfl
theorem touched_move (dst : Option Tmp) (x : Operand) (ty : TypeId) (pos : String) (after : Array Edge) (g : Option (Nat × Bool)) : touched env ⟨dst, .move x, ty, pos, after, g⟩ = none := _root_.id rfl
theorem touched_assign (dst : Option Tmp) (x : Operand) (ty : TypeId) (pos : String) (after : Array Edge) (g : Option (Nat × Bool)) : touched env ⟨dst, .assign x, ty, pos, after, g⟩ = none := _root_.id rfl
theorem touched_pick (dst : Option Tmp) (a b c : Operand) (ty : TypeId) (pos : String) (after : Array Edge) (g : Option (Nat × Bool)) : touched env ⟨dst, .pick a b c, ty, pos, after, g⟩ = none := _root_.id rfl
theorem touched_alloc (dst : Option Tmp) (e : TypeId) (ty : TypeId) (pos : String) (after : Array Edge) (g : Option (Nat × Bool)) : touched env ⟨dst, .alloc e, ty, pos, after, g⟩ = none := _root_.id rfl
theorem touched_box (dst : Option Tmp) (e : TypeId) (x : Operand) (ty : TypeId) (pos : String) (after : Array Edge) (g : Option (Nat × Bool)) : touched env ⟨dst, .box e x, ty, pos, after, g⟩ = none := _root_.id rfl
theorem touched_build (dst : Option Tmp) (t : TypeId) (ps : Array (Nat × Operand)) (ty : TypeId) (pos : String) (after : Array Edge) (g : Option (Nat × Bool)) : touched env ⟨dst, .build t ps, ty, pos, after, g⟩ = none := _root_.id rfl
theorem touched_buildSlice (dst : Option Tmp) (t : TypeId) (n : Nat) (ps : Array (Nat × Operand)) (ty : TypeId) (pos : String) (after : Array Edge) (g : Option (Nat × Bool)) : touched env ⟨dst, .buildSlice t n ps, ty, pos, after, g⟩ = none := _root_.id rfl
theorem touched_store (dst : Option Tmp) (t : TypeId) (x y : Operand) (ty : TypeId) (pos : String) (after : Array Edge) (g : Option (Nat × Bool)) : touched env ⟨dst, .store t x y, ty, pos, after, g⟩ = none := _root_.id rfl
theorem touched_nilCheck (dst : Option Tmp) (x : Operand) (ty : TypeId) (pos : String) (after : Array Edge) (g : Option (Nat × Bool)) : touched env ⟨dst, .nilCheck x, ty, pos, after, g⟩ = none := _root_.id rfl
theorem touched_binOp (dst : Option Tmp) (op : BinOp) (t : TypeId) (x y : Operand) (u : TypeId) (ty : TypeId) (pos : String) (after : Array Edge) (g : Option (Nat × Bool)) : touched env ⟨dst, .binOp op t x y u, ty, pos, after, g⟩ = none := _root_.id rfl
theorem touched_unOp (dst : Option Tmp) (op : UnOp) (t : TypeId) (x : Operand) (ty : TypeId) (pos : String) (after : Array Edge) (g : Option (Nat × Bool)) : touched env ⟨dst, .unOp op t x, ty, pos, after, g⟩ = none := _root_.id rfl
theorem touched_convert (dst : Option Tmp) (s d : TypeId) (x : Operand) (ty : TypeId) (pos : String) (after : Array Edge) (g : Option (Nat × Bool)) : touched env ⟨dst, .convert s d x, ty, pos, after, g⟩ = none := _root_.id rfl
theorem touched_makeSlice (dst : Option Tmp) (t : TypeId) (x y : Operand) (ty : TypeId) (pos : String) (after : Array Edge) (g : Option (Nat × Bool)) : touched env ⟨dst, .makeSlice t x y, ty, pos, after, g⟩ = none := _root_.id rfl
theorem touched_fieldAddr (dst : Option Tmp) (t : TypeId) (x : Operand) (f : Nat) (ty : TypeId) (pos : String) (after : Array Edge) (g : Option (Nat × Bool)) : touched env ⟨dst, .fieldAddr t x f, ty, pos, after, g⟩ = none := _root_.id rfl
theorem touched_indexAddr (dst : Option Tmp) (t : TypeId) (x y : Operand) (ty : TypeId) (pos : String) (after : Array Edge) (g : Option (Nat × Bool)) : touched env ⟨dst, .indexAddr t x y, ty, pos, after, g⟩ = none := _root_.id rfl
theorem touched_index (dst : Option Tmp) (t : TypeId) (x y : Operand) (ty : TypeId) (pos : String) (after : Array Edge) (g : Option (Nat × Bool)) : touched env ⟨dst, .index t x y, ty, pos, after, g⟩ = none := _root_.id rfl
theorem touched_extract (dst : Option Tmp) (x : Operand) (i : Nat) (ty : TypeId) (pos : String) (after : Array Edge) (g : Option (Nat × Bool)) : touched env ⟨dst, .extract x i, ty, pos, after, g⟩ = none := _root_.id rfl
theorem touched_call (dst : Option Tmp) (c : Call) (ty : TypeId) (pos : String) (after : Array Edge) (g : Option (Nat × Bool)) : touched env ⟨dst, .call c, ty, pos, after, g⟩ = none := _root_.id rfl
theorem ptrOf_ptr (i k : Nat) : ptrOf (.ptr i k) = some i := _root_.id rfl
/-! ### the heap -/
theorem get_push_new (B : ABlk) : (σ.push B).get σ.n = some B := by simp [AHeap.push_get]
theorem get_set_same {σ : AHeap} (i : Nat) (B : ABlk) : (σ.set i B).get i = some B := by simp [AHeap.set_get]
theorem push_set_new (B C : ABlk) : (σ.push B).set σ.n C = σ.push C := by
  unfold AHeap.push AHeap.set
  congr 1
  funext j
  dsimp only
  split <;> rfl
theorem set_set (i : Nat) (B C : ABlk) : (σ.set i B).set i C = σ.set i C := by
  unfold AHeap.set
  congr 1
  funext j
  dsimp only
  split <;> rfl
def aloadG (B : Option ABlk) (g : Option (Bool × Nat)) (k : Nat) : Option AV :=
  match B, g with
  | some B, some (true, n) => if k + n ≤ B.cells.length then some (.agg ((B.cells.drop k).take n)) else none
  | some B, some (false, _) => B.cells[k]?
  | _, _ => none
theorem aload_ptr (t : TypeId) (i k : Nat) : aload P t (.ptr i k) σ = aloadG (σ.get i) (tyAgg P t) k := _root_.id rfl
attribute [go_sem low] aload_ptr
attribute [go_sem high] adraw_free
attribute [go_sem ↓] touched_move touched_assign touched_pick touched_alloc touched_box touched_build touched_buildSlice touched_store touched_nilCheck touched_binOp touched_unOp touched_convert touched_makeSlice touched_fieldAddr touched_indexAddr touched_index touched_extract touched_call
attribute [go_sem] aloadG
attribute [go_sem ↓] wpc_skip wpc_region wpc_draw wpc_seq wpc_cond wpc_block wpc_loop wpc_exit wpc_ret athen_normal athen_ret athen_exit athen_normal' ainBlock_normal ainBlock_normal' ainBlock_ret ainBlock_exit aresK_normal aresK_normal' aresK_ret
  acond_true acond_false aops_nil aops_plain aops_guard astep_call aopsT_nil aopsT_plain aopsT_guard
attribute [go_sem ↓] astep_move astep_assign astep_pick astep_alloc astep_box astep_build astep_buildSlice astep_load astep_store astep_nilCheck astep_binOp astep_unOp astep_convert astep_makeFunc astep_makeSlice astep_slice astep_fieldAddr astep_indexAddr astep_index astep_extract astep_builtin
attribute [go_sem] aop bindO_some bindR_some put_get put_none gateOf_some gateB_bool gateB_skip agated_true agated_false aeval_tmp aeval_const aeval_func ofValue_bool ofValue_int ofValue_str ofValue_nil ofValue_nilp aint ashift
  List.toList_toArray List.map_cons List.map_nil Option.map_some Option.bind_some List.getElem?_toArray List.getElem?_cons_zero List.getElem?_cons_succ atup ares abin_int adraw_mk chkAll_nil chkAll_cons chkPair_eq chk2_some chkAt_some chkAt_none touched_load ptrOf_ptr AHeap.push_n AHeap.set_n AHeap.kill_n AHeap.push_get AHeap.set_get AHeap.kill_get push_set_new set_set AV.cells
end
theorem dA {p : Prop} (h : p := by ((first | assumption | exact isL_sl _ _ _ _ | exact isL_nils | (intro _; assumption) | (intro hb_; simp only [Bool.and_eq_true, Bool.or_eq_true, nt_eq_true, Bool.or_eq_false_iff, Bool.and_eq_false_iff, Bool.not_eq_true', Bool.not_eq_false', decide_eq_true_eq, decide_eq_false_iff_not] at hb_; omega) | (simp only [AHeap.push_n, AHeap.set_n, AHeap.kill_n, List.length_cons, List.length_nil, List.length_map, List.length_set]; omega) | omega | exact rfl | (simp only [push_n', set_n', kill_n']; done) | (simp only [push_n', set_n', kill_n', res_n]; done) | (simp only [push_n', set_n', kill_n', res_n]; omega) | (simp only [List.all_cons, List.all_nil, AV.one, Bool.and_true, Bool.and_self]; done) | (simp only [List.map_cons, List.map_nil, unint_int, List.length_cons, List.length_nil, Nat.reduceAdd]; done) | ((try intro _); repeat (first | assumption | refine get_push_eq _ (by first | rfl | (simp only [AHeap.push_n, AHeap.set_n, AHeap.kill_n]; done) | (simp only [push_n', set_n', kill_n', res_n]; done)) | exact get_set_same _ _ | refine (push_get_lt (by first | omega | (simp only [AHeap.push_n, AHeap.set_n, AHeap.kill_n]; omega))).trans ?_ | refine (set_get_ne (by omega)).trans ?_ | refine LAt.push ?_ | (refine LAt.set ?_ (by omega)) | apply LsV.push | apply BkV.push | apply Rd.push | apply Rd.upd | apply LsV.set | apply Rd.set | apply LsV.kill | apply Rd.kill | apply LsV.res | apply Run.push | omega))) <;> fail)) : p := h
theorem dA2 {p : Prop} (h : p := by ((first | assumption | exact isL_sl _ _ _ _ | exact isL_nils | (intro _; assumption) | (intro hb_; simp only [Bool.and_eq_true, Bool.or_eq_true, nt_eq_true, Bool.or_eq_false_iff, Bool.and_eq_false_iff, Bool.not_eq_true', Bool.not_eq_false', decide_eq_true_eq, decide_eq_false_iff_not] at hb_; omega) | (simp only [AHeap.push_n, AHeap.set_n, AHeap.kill_n, List.length_cons, List.length_nil, List.length_map, List.length_set]; omega) | omega | exact rfl | (simp only [push_n', set_n', kill_n']; done) | (simp only [push_n', set_n', kill_n', res_n]; done) | (simp only [push_n', set_n', kill_n', res_n]; omega) | (simp only [List.all_cons, List.all_nil, AV.one, Bool.and_true, Bool.and_self]; done) | (simp only [List.map_cons, List.map_nil, unint_int, List.length_cons, List.length_nil, Nat.reduceAdd]; done) | ((try intro _); repeat (first | assumption | refine get_push_eq _ (by first | rfl | (simp only [AHeap.push_n, AHeap.set_n, AHeap.kill_n]; done) | (simp only [push_n', set_n', kill_n', res_n]; done)) | exact get_set_same _ _ | refine (push_get_lt (by first | omega | (simp only [AHeap.push_n, AHeap.set_n, AHeap.kill_n]; omega))).trans ?_ | refine (set_get_ne (by omega)).trans ?_ | refine LAt.push ?_ | (refine LAt.set ?_ (by omega)) | apply LsV.push | apply BkV.push | apply Rd.push | apply Rd.upd | apply LsV.set | apply Rd.set | apply LsV.kill | apply Rd.kill | apply LsV.res | apply Run.push | exact LsV.ne (by assumption) (by omega) | omega))) <;> fail)) : p := h
theorem dB {p : Prop} (h : p := by ((first | assumption | exact NE.ne (by assumption) | exact NE.sym (by assumption) | exact isL_sl _ _ _ _ | exact isL_nils | (intro _; assumption) | (intro hb_; simp only [Bool.and_eq_true, Bool.or_eq_true, nt_eq_true, Bool.or_eq_false_iff, Bool.and_eq_false_iff, Bool.not_eq_true', Bool.not_eq_false', decide_eq_true_eq, decide_eq_false_iff_not] at hb_; omega) | (simp only [AHeap.push_n, AHeap.set_n, AHeap.kill_n, List.length_cons, List.length_nil, List.length_map, List.length_set]; omega) | omega | exact rfl | (simp only [push_n', set_n', kill_n']; done) | (simp only [push_n', set_n', kill_n', res_n]; done) | (simp only [push_n', set_n', kill_n', res_n]; omega) | (simp only [List.all_cons, List.all_nil, AV.one, Bool.and_true, Bool.and_self]; done) | (simp only [List.map_cons, List.map_nil, unint_int, List.length_cons, List.length_nil, Nat.reduceAdd]; done) | ((try intro _); repeat (first | assumption | (refine get_push_eq _ ?_; first | rfl | (simp only [push_n', set_n', kill_n', res_n]; done)) | exact get_set_same _ _ | (refine (push_get_lt ?_).trans ?_; first | omega | (simp only [push_n', set_n', kill_n', res_n]; omega)) | (refine (set_get_ne ?_).trans ?_; first | exact NE.ne (by assumption) | exact NE.sym (by assumption) | omega) | (refine (kill_get_ne ?_).trans ?_; first | exact NE.ne (by assumption) | exact NE.sym (by assumption) | omega) | (refine (res_lt ?_).trans ?_; first | omega | (simp only [push_n', set_n', kill_n', res_n]; omega)) | refine LAt.push ?_ | (refine LAt.set ?_ (by omega)) | apply LsV.push | apply BkV.push | apply Rd.push | apply Rd.upd | apply LsV.set | apply Rd.set | apply LsV.kill | apply Rd.kill | apply LsV.res | apply Run.push | exact NE.or (by assumption) | exact NE.or' (by assumption) | exact LsV.ne (by assumption) (by omega) | omega))) <;> fail)) : p := h
theorem cGT {p : Prop} (h : p := by ((((try simp (disch := first | exact NE.ne (by assumption) | exact NE.sym (by assumption) | omega | (simp only [push_n', set_n', kill_n', res_n]; omega)) only [push_get_lt, set_get_ne, kill_get_ne, res_lt]); first | done | assumption | exact get_set_same _ _ | (refine get_push_eq _ ?_; simp only [push_n', set_n', kill_n', res_n]; done) | (refine get_push_eq _ ?_; simp only [push_n', set_n', kill_n', res_n]; omega))) <;> fail)) : p := h
theorem cKP {p : Prop} (h : p := by (((intro j_ hj_; simp (disch := first | exact NE.ne (by assumption) | exact NE.sym (by assumption) | omega | (simp only [push_n', set_n', kill_n', res_n]; omega)) only [push_get_lt, set_get_ne, kill_get_ne, res_lt])) <;> fail)) : p := h
theorem cKO {p : Prop} (h : p := by (((intro j_ hj_ ho_; obtain ⟨z1, z2, z3, z4, z5, z6, z7, z8⟩ := ho_; simp (disch := first | exact NE.ne (by assumption) | exact NE.sym (by assumption) | omega | (simp only [push_n', set_n', kill_n', res_n]; omega)) only [push_get_lt, set_get_ne, kill_get_ne, res_lt])) <;> fail)) : p := h
theorem cVcl {p : Prop} (h : p := by ((first | exact ⟨.nils, .nils, by simp only [rOut, hself, swapW_len, put_len]; exact Keeps.refl _ _, .inr ⟨rfl, rfl⟩, .inr ⟨rfl, rfl⟩⟩ | (intro a b hab1 hab2; exact ⟨a, b, Keeps.refl _ _, hab1, hab2⟩) | exact ⟨sv, pv, by simp only [rOut, hself, swapW_len, put_len]; exact Keeps.refl _ _, .inl ⟨rfl, rfl⟩, .inl ⟨rfl, rfl⟩⟩ | exact ⟨.nils, pv, by simp only [rOut, hself, swapW_len, put_len]; exact Keeps.refl _ _, .inr ⟨rfl, rfl⟩, .inl ⟨rfl, rfl⟩⟩) <;> fail)) : p := h
end AH
