import Derived.Test.YtagihpbpblnnoaaGreatQ04
set_option linter.all false
namespace AH
open Go
/-- A value that is there only where b. -/
def gv (b : Bool) (v : AV) : AV := if b = true then v else .tup []
/-- Not, kept from the simplifier's eyes. -/
def nt (b : Bool) : Bool := !b
def pk (t : Bool) (a b : AV) : AV := if t = true then a else b
theorem gv_true (v : AV) : gv true v = v := _root_.id rfl
theorem gv_false (v : AV) : gv false v = .tup [] := _root_.id rfl
theorem nt_true : nt true = false := _root_.id rfl
theorem nt_false : nt false = true := _root_.id rfl
theorem nt_nt (b : Bool) : nt (nt b) = b := by cases b <;> rfl
theorem nt_eq_true (b : Bool) : (nt b = true) ↔ b = false := by cases b <;> simp [nt]
theorem nt_eq_false (b : Bool) : (nt b = false) ↔ b = true := by cases b <;> simp [nt]
theorem gv_gv (a b : Bool) (v : AV) : gv a (gv b v) = gv (a && b) v := by cases a <;> cases b <;> rfl
theorem pk_true (a b : AV) : pk true a b = a := _root_.id rfl
theorem pk_false (a b : AV) : pk false a b = b := _root_.id rfl
theorem pk_or (t q : Bool) : pk t (.bool true) (gv (nt t) (.bool q)) = .bool (t || q) := by cases t <;> rfl
theorem pk_and (t q : Bool) : pk t (gv t (.bool q)) (.bool false) = .bool (t && q) := by cases t <;> rfl
theorem pk_orn (t q : Bool) : pk (nt t) (.bool true) (gv t (.bool q)) = .bool (nt t || q) := by cases t <;> rfl
theorem pk_or' (t q : Bool) : pk t (.bool true) (.bool q) = .bool (t || q) := by cases t <;> rfl
theorem pk_and' (t q : Bool) : pk t (.bool q) (.bool false) = .bool (t && q) := by cases t <;> rfl
def pickO (c a b : AV) (σ : AHeap) : Option (AV × AHeap) :=
  match c with
  | .bool t => some (if t then a else b, σ)
  | _ => none
section
variable {P : Program} {ord : Nat → DOrd} {env : Env} {σ : AHeap}
theorem aop_pick {ρ : Operand → AV} (c a b : Operand) : aop P ρ (.pick c a b) σ = pickO (ρ c) (ρ a) (ρ b) σ := _root_.id rfl
theorem pickO_bool (t : Bool) (a b : AV) : pickO (.bool t) a b σ = some (pk t a b, σ) := _root_.id rfl
def gateC (v : AV) (want : Bool) : Option Bool := gateB v want
theorem gateC_bool_t (b : Bool) : gateC (.bool b) true = some b := by cases b <;> rfl
theorem gateC_bool_f (b : Bool) : gateC (.bool b) false = some (nt b) := by cases b <;> rfl
theorem gateC_skip (want : Bool) : gateC (.tup []) want = some false := _root_.id rfl
theorem gateC_gv_t (b q : Bool) : gateC (gv b (.bool q)) true = some (b && q) := by cases b <;> cases q <;> rfl
theorem gateC_gv_f (b q : Bool) : gateC (gv b (.bool q)) false = some (b && nt q) := by cases b <;> cases q <;> rfl
def gateD (d : Option Tmp) (want : Bool) (env : Env) : Option Bool := gateOf d want env
theorem gateD_some (d : Tmp) (want : Bool) : gateD (some d) want env = gateC (env d) want := _root_.id rfl
/-- A pure operation under a guard. -/
def pureG (g : Option Bool) (x : Option (AV × AHeap)) (σ : AHeap) [k : Kt (AV → AHeap → Prop)] : Prop := @agated g ⟨@bindO x ⟨k.val⟩⟩ ⟨k.val (.tup []) σ⟩
theorem pureG_congr {g g' : Option Bool} {x x' : Option (AV × AHeap)} {σ σ' : AHeap} {k : Kt (AV → AHeap → Prop)} {p : Prop} (hg : g = g') (hs : σ = σ') (hp : (g' = some true) = p) (hx : p → x = x') : @pureG g x σ k = @pureG g' x' σ' k := by
  subst hg hs hp
  unfold pureG agated
  split
  next b => cases b with
    | true => rw [hx rfl]
    | false => simp
  next => rfl
attribute [congr] pureG_congr
theorem pureG_some (b : Bool) (v : AV) (k : AV → AHeap → Prop) : @pureG (some b) (some (v, σ)) σ ⟨k⟩ = k (gv b v) σ := by
  cases b <;> simp [pureG, agated, bindO, gv]
theorem pureG_true (x : Option (AV × AHeap)) (k : AV → AHeap → Prop) : @pureG (some true) x σ ⟨k⟩ = @bindO x ⟨k⟩ := by simp [pureG, agated]
theorem pureG_false (x : Option (AV × AHeap)) (k : AV → AHeap → Prop) : @pureG (some false) x σ ⟨k⟩ = k (.tup []) σ := by simp [pureG, agated]
theorem some_true (b : Bool) : (some b = some true) ↔ b = true := by simp
def gp (b : Bool) (t : Option Nat) : Option Nat := if b = true then t else none
/-- The value alone. -/
def valO (x : Option (AV × AHeap)) : Option AV := x.map (·.1)
theorem valO_some (v : AV) (τ : AHeap) : valO (some (v, τ)) = some v := _root_.id rfl
theorem valO_map (x : Option AV) (τ : AHeap) : valO (x.map fun v => (v, τ)) = x := by cases x <;> rfl
def pureV (g : Option Bool) (x : Option AV) (σ : AHeap) [k : Kt (AV → AHeap → Prop)] : Prop := @agated g ⟨@bindO (x.map fun v => (v, σ)) ⟨k.val⟩⟩ ⟨k.val (.tup []) σ⟩
theorem pureV_congr {g g' : Option Bool} {x x' : Option AV} {σ σ' : AHeap} {k : Kt (AV → AHeap → Prop)} {p : Prop} (hg : g = g') (hs : σ = σ') (hp : (g' = some true) = p) (hx : p → x = x') : @pureV g x σ k = @pureV g' x' σ' k := by
  subst hg hs hp
  unfold pureV agated
  split
  next b => cases b with
    | true => rw [hx rfl]
    | false => simp
  next => rfl
attribute [congr] pureV_congr
theorem pureV_some (b : Bool) (v : AV) (k : AV → AHeap → Prop) : @pureV (some b) (some v) σ ⟨k⟩ = k (gv b v) σ := by
  cases b <;> simp [pureV, agated, bindO, gv]
theorem pureV_true (x : Option AV) (k : AV → AHeap → Prop) : @pureV (some true) x σ ⟨k⟩ = @bindO (x.map fun v => (v, σ)) ⟨k⟩ := by simp [pureV, agated]
theorem pureV_false (x : Option AV) (k : AV → AHeap → Prop) : @pureV (some false) x σ ⟨k⟩ = k (.tup []) σ := by simp [pureV, agated]
def pureVT (g : Option Bool) (x : Option AV) (t : Option Nat) (σ : AHeap) [k : Kt (AV → AHeap → Option Nat → Prop)] : Prop := @agated g ⟨@bindO (x.map fun v => (v, σ)) ⟨fun v σ' => k.val v σ' t⟩⟩ ⟨k.val (.tup []) σ none⟩
theorem pureVT_congr {g g' : Option Bool} {x x' : Option AV} {t t' : Option Nat} {σ σ' : AHeap} {k : Kt (AV → AHeap → Option Nat → Prop)} {p : Prop} (hg : g = g') (hs : σ = σ') (hp : (g' = some true) = p) (hx : p → x = x') (ht : p → t = t') : @pureVT g x t σ k = @pureVT g' x' t' σ' k := by
  subst hg hs hp
  unfold pureVT agated
  split
  next b => cases b with
    | true => rw [hx rfl, ht rfl]
    | false => simp
  next => rfl
attribute [congr] pureVT_congr
theorem pureVT_some (b : Bool) (v : AV) (t : Option Nat) (k : AV → AHeap → Option Nat → Prop) : @pureVT (some b) (some v) t σ ⟨k⟩ = k (gv b v) σ (gp b t) := by
  cases b <;> simp [pureVT, agated, bindO, gv, gp]
theorem pureVT_true (x : Option AV) (t : Option Nat) (k : AV → AHeap → Option Nat → Prop) : @pureVT (some true) x t σ ⟨k⟩ = @bindO (x.map fun v => (v, σ)) ⟨fun v σ' => k v σ' t⟩ := by simp [pureVT, agated]
theorem pureVT_false (x : Option AV) (t : Option Nat) (k : AV → AHeap → Option Nat → Prop) : @pureVT (some false) x t σ ⟨k⟩ = k (.tup []) σ none := by simp [pureVT, agated]
def pureGT (g : Option Bool) (x : Option (AV × AHeap)) (t : Option Nat) (σ : AHeap) [k : Kt (AV → AHeap → Option Nat → Prop)] : Prop := @agated g ⟨@bindO x ⟨fun v σ' => k.val v σ' t⟩⟩ ⟨k.val (.tup []) σ none⟩
theorem pureGT_congr {g g' : Option Bool} {x x' : Option (AV × AHeap)} {t t' : Option Nat} {σ σ' : AHeap} {k : Kt (AV → AHeap → Option Nat → Prop)} {p : Prop} (hg : g = g') (hs : σ = σ') (hp : (g' = some true) = p) (hx : p → x = x') (ht : p → t = t') : @pureGT g x t σ k = @pureGT g' x' t' σ' k := by
  subst hg hs hp
  unfold pureGT agated
  split
  next b => cases b with
    | true => rw [hx rfl, ht rfl]
    | false => simp
  next => rfl
attribute [congr] pureGT_congr
theorem pureGT_some (b : Bool) (v : AV) (t : Option Nat) (k : AV → AHeap → Option Nat → Prop) : @pureGT (some b) (some (v, σ)) t σ ⟨k⟩ = k (gv b v) σ (gp b t) := by
  cases b <;> simp [pureGT, agated, bindO, gv, gp]
theorem pureGT_true (x : Option (AV × AHeap)) (t : Option Nat) (k : AV → AHeap → Option Nat → Prop) : @pureGT (some true) x t σ ⟨k⟩ = @bindO x ⟨fun v σ' => k v σ' t⟩ := by simp [pureGT, agated]
theorem pureGT_false (x : Option (AV × AHeap)) (t : Option Nat) (k : AV → AHeap → Option Nat → Prop) : @pureGT (some false) x t σ ⟨k⟩ = k (.tup []) σ none := by simp [pureGT, agated]
theorem chkAt_gp (b : Bool) (t : Option Nat) (p q : AHeap) : chkAt (gp b t) p q ↔ (b = true → chkAt t p q) := by cases b <;> simp [gp, chkAt]
theorem gp_none (b : Bool) : gp b none = none := by cases b <;> rfl
/-- A call under a guard. -/
def gC (P : Program) (b : Bool) (f : AV) (args : List AV) (σ : AHeap) [k : Kt (AV → AHeap → Prop)] : Prop := (b = true → @callP P f args σ ⟨k.val⟩) ∧ (b = false → k.val (.tup []) σ)
def gCo (P : Program) (g : Option Bool) (f : AV) (args : List AV) (σ : AHeap) [k : Kt (AV → AHeap → Prop)] : Prop := @agated g ⟨@callP P f args σ ⟨k.val⟩⟩ ⟨k.val (.tup []) σ⟩
theorem gCo_congr {P : Program} {g g' : Option Bool} {f : AV} {args : List AV} {σ : AHeap} {k : Kt (AV → AHeap → Prop)} (h : g = g') : @gCo P g f args σ k = @gCo P g' f args σ k := by rw [h]
attribute [congr] gCo_congr
theorem gCo_some (b : Bool) (f : AV) (args : List AV) (k : AV → AHeap → Prop) : @gCo P (some b) f args σ ⟨k⟩ = @gC P b f args σ ⟨k⟩ := _root_.id rfl
theorem gC_congr {P : Program} {b b' : Bool} {f f' : AV} {args args' : List AV} {σ σ' : AHeap} {k : Kt (AV → AHeap → Prop)} {p : Prop} (hg : b = b') (hs : σ = σ') (hp : (b' = true) = p) (hf : p → f = f') (hx : p → args = args') : @gC P b f args σ k = @gC P b' f' args' σ' k := by
  subst hg hs hp
  unfold gC
  cases b with
  | true => rw [hf rfl, hx rfl]
  | false => simp
attribute [congr] gC_congr
theorem gC_true (f : AV) (args : List AV) (k : AV → AHeap → Prop) : @gC P true f args σ ⟨k⟩ = @callP P f args σ ⟨k⟩ := by simp [gC]
theorem gC_false (f : AV) (args : List AV) (k : AV → AHeap → Prop) : @gC P false f args σ ⟨k⟩ = k (.tup []) σ := by simp [gC]
theorem gC_alt {g : FuncId} {args : List AV} {v : AV} {k : AV → AHeap → Prop} (b : Bool) (h : b = true → Fn P g args σ fun x τ => x = v ∧ τ = σ) :
    @gC P b (.fn g [] []) args σ ⟨k⟩ = @Alt (k (gv b v) σ) ⟨@gC P b (.fn g [] []) args σ ⟨k⟩⟩ := by
  refine propext ⟨fun hh => .inr hh, fun hh => ?_⟩
  rcases hh with hh | hh
  · cases b with
    | true =>
      refine ⟨fun _ => ?_, fun e => (by cases e)⟩
      rw [callP_fn]; exact (h rfl).eq hh
    | false => exact ⟨fun e => (by cases e), fun _ => hh⟩
  · exact hh
/-- A call under a guard: what is enough. -/
theorem agated_nt (b : Bool) (x y : Prop) : @agated (some (nt b)) ⟨x⟩ ⟨y⟩ ↔ (b = false → x) ∧ (b = true → y) := by cases b <;> simp [agated, nt]
theorem same_move {ρ : Operand → AV} (x : Operand) : aop P ρ (.move x) σ = (valO (aop P ρ (.move x) σ)).map fun v => (v, σ) := by
  simp only [aop]
  repeat' split
  all_goals first | rfl | (generalize (_ : Option AV) = z; cases z <;> rfl) | (simp only [valO, Option.map_map]; rfl) | (simp [valO]) | (rename_i h; simp_all [valO])
theorem same_assign {ρ : Operand → AV} (x : Operand) : aop P ρ (.assign x) σ = (valO (aop P ρ (.assign x) σ)).map fun v => (v, σ) := by
  simp only [aop]
  repeat' split
  all_goals first | rfl | (generalize (_ : Option AV) = z; cases z <;> rfl) | (simp only [valO, Option.map_map]; rfl) | (simp [valO]) | (rename_i h; simp_all [valO])
theorem same_pick {ρ : Operand → AV} (a b c : Operand) : aop P ρ (.pick a b c) σ = (valO (aop P ρ (.pick a b c) σ)).map fun v => (v, σ) := by
  simp only [aop]
  repeat' split
  all_goals first | rfl | (generalize (_ : Option AV) = z; cases z <;> rfl) | (simp only [valO, Option.map_map]; rfl) | (simp [valO]) | (rename_i h; simp_all [valO])
theorem same_load {ρ : Operand → AV} (t : TypeId) (x : Operand) : aop P ρ (.load t x) σ = (valO (aop P ρ (.load t x) σ)).map fun v => (v, σ) := by
  simp only [aop]
  repeat' split
  all_goals first | rfl | (generalize (_ : Option AV) = z; cases z <;> rfl) | (simp only [valO, Option.map_map]; rfl) | (simp [valO]) | (rename_i h; simp_all [valO])
theorem same_nilCheck {ρ : Operand → AV} (x : Operand) : aop P ρ (.nilCheck x) σ = (valO (aop P ρ (.nilCheck x) σ)).map fun v => (v, σ) := by
  simp only [aop]
  repeat' split
  all_goals first | rfl | (generalize (_ : Option AV) = z; cases z <;> rfl) | (simp only [valO, Option.map_map]; rfl) | (simp [valO]) | (rename_i h; simp_all [valO])
theorem same_binOp {ρ : Operand → AV} (op : BinOp) (t : TypeId) (x y : Operand) (u : TypeId) : aop P ρ (.binOp op t x y u) σ = (valO (aop P ρ (.binOp op t x y u) σ)).map fun v => (v, σ) := by
  simp only [aop]
  repeat' split
  all_goals first | rfl | (generalize (_ : Option AV) = z; cases z <;> rfl) | (simp only [valO, Option.map_map]; rfl) | (simp [valO]) | (rename_i h; simp_all [valO])
theorem same_unOp {ρ : Operand → AV} (op : UnOp) (t : TypeId) (x : Operand) : aop P ρ (.unOp op t x) σ = (valO (aop P ρ (.unOp op t x) σ)).map fun v => (v, σ) := by
  simp only [aop]
  repeat' split
  all_goals first | rfl | (generalize (_ : Option AV) = z; cases z <;> rfl) | (simp only [valO, Option.map_map]; rfl) | (simp [valO]) | (rename_i h; simp_all [valO])
theorem same_convert {ρ : Operand → AV} (s d : TypeId) (x : Operand) : aop P ρ (.convert s d x) σ = (valO (aop P ρ (.convert s d x) σ)).map fun v => (v, σ) := by
  simp only [aop]
  repeat' split
  all_goals first | rfl | (generalize (_ : Option AV) = z; cases z <;> rfl) | (simp only [valO, Option.map_map]; rfl) | (simp [valO]) | (rename_i h; simp_all [valO])
theorem same_slice {ρ : Operand → AV} (t : TypeId) (x : Operand) (a b : Option Operand) : aop P ρ (.slice t x a b none) σ = (valO (aop P ρ (.slice t x a b none) σ)).map fun v => (v, σ) := by
  simp only [aop]
  repeat' split
  all_goals first | rfl | (generalize (_ : Option AV) = z; cases z <;> rfl) | (simp only [valO, Option.map_map]; rfl) | (simp [valO]) | (rename_i h; simp_all [valO])
theorem same_fieldAddr {ρ : Operand → AV} (t : TypeId) (x : Operand) (f : Nat) : aop P ρ (.fieldAddr t x f) σ = (valO (aop P ρ (.fieldAddr t x f) σ)).map fun v => (v, σ) := by
  simp only [aop]
  repeat' split
  all_goals first | rfl | (generalize (_ : Option AV) = z; cases z <;> rfl) | (simp only [valO, Option.map_map]; rfl) | (simp [valO]) | (rename_i h; simp_all [valO])
theorem same_indexAddr {ρ : Operand → AV} (t : TypeId) (x y : Operand) : aop P ρ (.indexAddr t x y) σ = (valO (aop P ρ (.indexAddr t x y) σ)).map fun v => (v, σ) := by
  simp only [aop]
  repeat' split
  all_goals first | rfl | (generalize (_ : Option AV) = z; cases z <;> rfl) | (simp only [valO, Option.map_map]; rfl) | (simp [valO]) | (rename_i h; simp_all [valO])
theorem same_index {ρ : Operand → AV} (t : TypeId) (x y : Operand) : aop P ρ (.index t x y) σ = (valO (aop P ρ (.index t x y) σ)).map fun v => (v, σ) := by
  simp only [aop]
  repeat' split
  all_goals first | rfl | (generalize (_ : Option AV) = z; cases z <;> rfl) | (simp only [valO, Option.map_map]; rfl) | (simp [valO]) | (rename_i h; simp_all [valO])
theorem same_extract {ρ : Operand → AV} (x : Operand) (i : Nat) : aop P ρ (.extract x i) σ = (valO (aop P ρ (.extract x i) σ)).map fun v => (v, σ) := by
  simp only [aop]
  repeat' split
  all_goals first | rfl | (generalize (_ : Option AV) = z; cases z <;> rfl) | (simp only [valO, Option.map_map]; rfl) | (simp [valO]) | (rename_i h; simp_all [valO])
theorem same_build {ρ : Operand → AV} (t : TypeId) (ps : Array (Nat × Operand)) : aop P ρ (.build t ps) σ = (valO (aop P ρ (.build t ps) σ)).map fun v => (v, σ) := by
  simp only [aop]
  repeat' split
  all_goals first | rfl | (generalize (_ : Option AV) = z; cases z <;> rfl) | (simp only [valO, Option.map_map]; rfl) | (simp [valO]) | (rename_i h; simp_all [valO])
theorem same_len {ρ : Operand → AV} (x : Operand) (t : TypeId) : aop P ρ (.call ⟨.builtin .len, #[x], #[t]⟩) σ = (valO (aop P ρ (.call ⟨.builtin .len, #[x], #[t]⟩) σ)).map fun v => (v, σ) := by
  have h : aop P ρ (.call ⟨.builtin .len, #[x], #[t]⟩) σ = (match P.underlying t, alen (ρ x), ρ x with
      | some (.slice _), some n, .sl .. => some (.int .i64 n, σ)
      | some (.slice _), some n, .nils => some (.int .i64 n, σ)
      | some .string, some n, .str _ => some (.int .i64 n, σ)
      | _, _, _ => none) := rfl
  rw [h]
  split <;> rfl
theorem aopsG_move (ops : Array Oper) (dst : Option Tmp) (x : Operand) (ty : TypeId) (pos : String) (after : Array Edge) (i_ : Nat) (want : Bool) (os : List Oper) (k : Env → AHeap → Prop) :
    aops P ops (⟨dst, (.move x), ty, pos, after, some (i_, want)⟩ :: os) env σ k = @pureV (gateD ((ops[i_]?).bind (·.dst)) want env) (valO (aop P (aeval env) (.move x) σ)) σ ⟨fun v σ' => aops P ops os (env.put dst v) σ' k⟩ := by
  unfold pureV
  rw [← same_move]
  rfl
theorem aopsTG_move (ops : Array Oper) (j : Nat) (dst : Option Tmp) (x : Operand) (ty : TypeId) (pos : String) (after : Array Edge) (i_ : Nat) (want : Bool) (os : List Oper) (tr : List DRec) (k : Env → AHeap → List DRec → Prop) :
    aopsT P ops 0 [] j (⟨dst, (.move x), ty, pos, after, some (i_, want)⟩ :: os) env σ tr k = @pureVT (gateD ((ops[i_]?).bind (·.dst)) want env) (valO (aop P (aeval env) (.move x) σ)) none σ ⟨fun v σ' a => aopsT P ops 0 [] (j + 1) os (env.put dst v) σ' (⟨a, σ, σ'⟩ :: tr) k⟩ := by
  unfold pureVT
  rw [← same_move]
  rw [show gateD ((ops[i_]?).bind (·.dst)) want env = agate ops env ⟨dst, (.move x), ty, pos, after, some (i_, want)⟩ from rfl]
  rfl
theorem aopsG_assign (ops : Array Oper) (dst : Option Tmp) (x : Operand) (ty : TypeId) (pos : String) (after : Array Edge) (i_ : Nat) (want : Bool) (os : List Oper) (k : Env → AHeap → Prop) :
    aops P ops (⟨dst, (.assign x), ty, pos, after, some (i_, want)⟩ :: os) env σ k = @pureV (gateD ((ops[i_]?).bind (·.dst)) want env) (valO (aop P (aeval env) (.assign x) σ)) σ ⟨fun v σ' => aops P ops os (env.put dst v) σ' k⟩ := by
  unfold pureV
  rw [← same_assign]
  rfl
theorem aopsTG_assign (ops : Array Oper) (j : Nat) (dst : Option Tmp) (x : Operand) (ty : TypeId) (pos : String) (after : Array Edge) (i_ : Nat) (want : Bool) (os : List Oper) (tr : List DRec) (k : Env → AHeap → List DRec → Prop) :
    aopsT P ops 0 [] j (⟨dst, (.assign x), ty, pos, after, some (i_, want)⟩ :: os) env σ tr k = @pureVT (gateD ((ops[i_]?).bind (·.dst)) want env) (valO (aop P (aeval env) (.assign x) σ)) none σ ⟨fun v σ' a => aopsT P ops 0 [] (j + 1) os (env.put dst v) σ' (⟨a, σ, σ'⟩ :: tr) k⟩ := by
  unfold pureVT
  rw [← same_assign]
  rw [show gateD ((ops[i_]?).bind (·.dst)) want env = agate ops env ⟨dst, (.assign x), ty, pos, after, some (i_, want)⟩ from rfl]
  rfl
theorem aopsG_pick (ops : Array Oper) (dst : Option Tmp) (a b c : Operand) (ty : TypeId) (pos : String) (after : Array Edge) (i_ : Nat) (want : Bool) (os : List Oper) (k : Env → AHeap → Prop) :
    aops P ops (⟨dst, (.pick a b c), ty, pos, after, some (i_, want)⟩ :: os) env σ k = @pureV (gateD ((ops[i_]?).bind (·.dst)) want env) (valO (aop P (aeval env) (.pick a b c) σ)) σ ⟨fun v σ' => aops P ops os (env.put dst v) σ' k⟩ := by
  unfold pureV
  rw [← same_pick]
  rfl
theorem aopsTG_pick (ops : Array Oper) (j : Nat) (dst : Option Tmp) (a b c : Operand) (ty : TypeId) (pos : String) (after : Array Edge) (i_ : Nat) (want : Bool) (os : List Oper) (tr : List DRec) (k : Env → AHeap → List DRec → Prop) :
    aopsT P ops 0 [] j (⟨dst, (.pick a b c), ty, pos, after, some (i_, want)⟩ :: os) env σ tr k = @pureVT (gateD ((ops[i_]?).bind (·.dst)) want env) (valO (aop P (aeval env) (.pick a b c) σ)) none σ ⟨fun v σ' a => aopsT P ops 0 [] (j + 1) os (env.put dst v) σ' (⟨a, σ, σ'⟩ :: tr) k⟩ := by
  unfold pureVT
  rw [← same_pick]
  rw [show gateD ((ops[i_]?).bind (·.dst)) want env = agate ops env ⟨dst, (.pick a b c), ty, pos, after, some (i_, want)⟩ from rfl]
  rfl
theorem aopsG_load (ops : Array Oper) (dst : Option Tmp) (t : TypeId) (x : Operand) (ty : TypeId) (pos : String) (after : Array Edge) (i_ : Nat) (want : Bool) (os : List Oper) (k : Env → AHeap → Prop) :
    aops P ops (⟨dst, (.load t x), ty, pos, after, some (i_, want)⟩ :: os) env σ k = @pureV (gateD ((ops[i_]?).bind (·.dst)) want env) (valO (aop P (aeval env) (.load t x) σ)) σ ⟨fun v σ' => aops P ops os (env.put dst v) σ' k⟩ := by
  unfold pureV
  rw [← same_load]
  rfl
theorem aopsTG_load (ops : Array Oper) (j : Nat) (dst : Option Tmp) (t : TypeId) (x : Operand) (ty : TypeId) (pos : String) (after : Array Edge) (i_ : Nat) (want : Bool) (os : List Oper) (tr : List DRec) (k : Env → AHeap → List DRec → Prop) :
    aopsT P ops 0 [] j (⟨dst, (.load t x), ty, pos, after, some (i_, want)⟩ :: os) env σ tr k = @pureVT (gateD ((ops[i_]?).bind (·.dst)) want env) (valO (aop P (aeval env) (.load t x) σ)) (ptrOf (aeval env x)) σ ⟨fun v σ' a => aopsT P ops 0 [] (j + 1) os (env.put dst v) σ' (⟨a, σ, σ'⟩ :: tr) k⟩ := by
  unfold pureVT
  rw [← same_load]
  rw [show gateD ((ops[i_]?).bind (·.dst)) want env = agate ops env ⟨dst, (.load t x), ty, pos, after, some (i_, want)⟩ from rfl]
  rfl
theorem aopsG_nilCheck (ops : Array Oper) (dst : Option Tmp) (x : Operand) (ty : TypeId) (pos : String) (after : Array Edge) (i_ : Nat) (want : Bool) (os : List Oper) (k : Env → AHeap → Prop) :
    aops P ops (⟨dst, (.nilCheck x), ty, pos, after, some (i_, want)⟩ :: os) env σ k = @pureV (gateD ((ops[i_]?).bind (·.dst)) want env) (valO (aop P (aeval env) (.nilCheck x) σ)) σ ⟨fun v σ' => aops P ops os (env.put dst v) σ' k⟩ := by
  unfold pureV
  rw [← same_nilCheck]
  rfl
theorem aopsTG_nilCheck (ops : Array Oper) (j : Nat) (dst : Option Tmp) (x : Operand) (ty : TypeId) (pos : String) (after : Array Edge) (i_ : Nat) (want : Bool) (os : List Oper) (tr : List DRec) (k : Env → AHeap → List DRec → Prop) :
    aopsT P ops 0 [] j (⟨dst, (.nilCheck x), ty, pos, after, some (i_, want)⟩ :: os) env σ tr k = @pureVT (gateD ((ops[i_]?).bind (·.dst)) want env) (valO (aop P (aeval env) (.nilCheck x) σ)) none σ ⟨fun v σ' a => aopsT P ops 0 [] (j + 1) os (env.put dst v) σ' (⟨a, σ, σ'⟩ :: tr) k⟩ := by
  unfold pureVT
  rw [← same_nilCheck]
  rw [show gateD ((ops[i_]?).bind (·.dst)) want env = agate ops env ⟨dst, (.nilCheck x), ty, pos, after, some (i_, want)⟩ from rfl]
  rfl
theorem aopsG_binOp (ops : Array Oper) (dst : Option Tmp) (op : BinOp) (t : TypeId) (x y : Operand) (u : TypeId) (ty : TypeId) (pos : String) (after : Array Edge) (i_ : Nat) (want : Bool) (os : List Oper) (k : Env → AHeap → Prop) :
    aops P ops (⟨dst, (.binOp op t x y u), ty, pos, after, some (i_, want)⟩ :: os) env σ k = @pureV (gateD ((ops[i_]?).bind (·.dst)) want env) (valO (aop P (aeval env) (.binOp op t x y u) σ)) σ ⟨fun v σ' => aops P ops os (env.put dst v) σ' k⟩ := by
  unfold pureV
  rw [← same_binOp]
  rfl
theorem aopsTG_binOp (ops : Array Oper) (j : Nat) (dst : Option Tmp) (op : BinOp) (t : TypeId) (x y : Operand) (u : TypeId) (ty : TypeId) (pos : String) (after : Array Edge) (i_ : Nat) (want : Bool) (os : List Oper) (tr : List DRec) (k : Env → AHeap → List DRec → Prop) :
    aopsT P ops 0 [] j (⟨dst, (.binOp op t x y u), ty, pos, after, some (i_, want)⟩ :: os) env σ tr k = @pureVT (gateD ((ops[i_]?).bind (·.dst)) want env) (valO (aop P (aeval env) (.binOp op t x y u) σ)) none σ ⟨fun v σ' a => aopsT P ops 0 [] (j + 1) os (env.put dst v) σ' (⟨a, σ, σ'⟩ :: tr) k⟩ := by
  unfold pureVT
  rw [← same_binOp]
  rw [show gateD ((ops[i_]?).bind (·.dst)) want env = agate ops env ⟨dst, (.binOp op t x y u), ty, pos, after, some (i_, want)⟩ from rfl]
  rfl
theorem aopsG_unOp (ops : Array Oper) (dst : Option Tmp) (op : UnOp) (t : TypeId) (x : Operand) (ty : TypeId) (pos : String) (after : Array Edge) (i_ : Nat) (want : Bool) (os : List Oper) (k : Env → AHeap → Prop) :
    aops P ops (⟨dst, (.unOp op t x), ty, pos, after, some (i_, want)⟩ :: os) env σ k = @pureV (gateD ((ops[i_]?).bind (·.dst)) want env) (valO (aop P (aeval env) (.unOp op t x) σ)) σ ⟨fun v σ' => aops P ops os (env.put dst v) σ' k⟩ := by
  unfold pureV
  rw [← same_unOp]
  rfl
theorem aopsTG_unOp (ops : Array Oper) (j : Nat) (dst : Option Tmp) (op : UnOp) (t : TypeId) (x : Operand) (ty : TypeId) (pos : String) (after : Array Edge) (i_ : Nat) (want : Bool) (os : List Oper) (tr : List DRec) (k : Env → AHeap → List DRec → Prop) :
    aopsT P ops 0 [] j (⟨dst, (.unOp op t x), ty, pos, after, some (i_, want)⟩ :: os) env σ tr k = @pureVT (gateD ((ops[i_]?).bind (·.dst)) want env) (valO (aop P (aeval env) (.unOp op t x) σ)) none σ ⟨fun v σ' a => aopsT P ops 0 [] (j + 1) os (env.put dst v) σ' (⟨a, σ, σ'⟩ :: tr) k⟩ := by
  unfold pureVT
  rw [← same_unOp]
  rw [show gateD ((ops[i_]?).bind (·.dst)) want env = agate ops env ⟨dst, (.unOp op t x), ty, pos, after, some (i_, want)⟩ from rfl]
  rfl
theorem aopsG_convert (ops : Array Oper) (dst : Option Tmp) (s d : TypeId) (x : Operand) (ty : TypeId) (pos : String) (after : Array Edge) (i_ : Nat) (want : Bool) (os : List Oper) (k : Env → AHeap → Prop) :
    aops P ops (⟨dst, (.convert s d x), ty, pos, after, some (i_, want)⟩ :: os) env σ k = @pureV (gateD ((ops[i_]?).bind (·.dst)) want env) (valO (aop P (aeval env) (.convert s d x) σ)) σ ⟨fun v σ' => aops P ops os (env.put dst v) σ' k⟩ := by
  unfold pureV
  rw [← same_convert]
  rfl
theorem aopsTG_convert (ops : Array Oper) (j : Nat) (dst : Option Tmp) (s d : TypeId) (x : Operand) (ty : TypeId) (pos : String) (after : Array Edge) (i_ : Nat) (want : Bool) (os : List Oper) (tr : List DRec) (k : Env → AHeap → List DRec → Prop) :
    aopsT P ops 0 [] j (⟨dst, (.convert s d x), ty, pos, after, some (i_, want)⟩ :: os) env σ tr k = @pureVT (gateD ((ops[i_]?).bind (·.dst)) want env) (valO (aop P (aeval env) (.convert s d x) σ)) none σ ⟨fun v σ' a => aopsT P ops 0 [] (j + 1) os (env.put dst v) σ' (⟨a, σ, σ'⟩ :: tr) k⟩ := by
  unfold pureVT
  rw [← same_convert]
  rw [show gateD ((ops[i_]?).bind (·.dst)) want env = agate ops env ⟨dst, (.convert s d x), ty, pos, after, some (i_, want)⟩ from rfl]
  rfl
theorem aopsG_slice (ops : Array Oper) (dst : Option Tmp) (t : TypeId) (x : Operand) (a b : Option Operand) (ty : TypeId) (pos : String) (after : Array Edge) (i_ : Nat) (want : Bool) (os : List Oper) (k : Env → AHeap → Prop) :
    aops P ops (⟨dst, (.slice t x a b none), ty, pos, after, some (i_, want)⟩ :: os) env σ k = @pureV (gateD ((ops[i_]?).bind (·.dst)) want env) (valO (aop P (aeval env) (.slice t x a b none) σ)) σ ⟨fun v σ' => aops P ops os (env.put dst v) σ' k⟩ := by
  unfold pureV
  rw [← same_slice]
  rfl
theorem aopsTG_slice (ops : Array Oper) (j : Nat) (dst : Option Tmp) (t : TypeId) (x : Operand) (a b : Option Operand) (ty : TypeId) (pos : String) (after : Array Edge) (i_ : Nat) (want : Bool) (os : List Oper) (tr : List DRec) (k : Env → AHeap → List DRec → Prop) :
    aopsT P ops 0 [] j (⟨dst, (.slice t x a b none), ty, pos, after, some (i_, want)⟩ :: os) env σ tr k = @pureVT (gateD ((ops[i_]?).bind (·.dst)) want env) (valO (aop P (aeval env) (.slice t x a b none) σ)) none σ ⟨fun v σ' a => aopsT P ops 0 [] (j + 1) os (env.put dst v) σ' (⟨a, σ, σ'⟩ :: tr) k⟩ := by
  unfold pureVT
  rw [← same_slice]
  rw [show gateD ((ops[i_]?).bind (·.dst)) want env = agate ops env ⟨dst, (.slice t x a b none), ty, pos, after, some (i_, want)⟩ from rfl]
  rfl
theorem aopsG_fieldAddr (ops : Array Oper) (dst : Option Tmp) (t : TypeId) (x : Operand) (f : Nat) (ty : TypeId) (pos : String) (after : Array Edge) (i_ : Nat) (want : Bool) (os : List Oper) (k : Env → AHeap → Prop) :
    aops P ops (⟨dst, (.fieldAddr t x f), ty, pos, after, some (i_, want)⟩ :: os) env σ k = @pureV (gateD ((ops[i_]?).bind (·.dst)) want env) (valO (aop P (aeval env) (.fieldAddr t x f) σ)) σ ⟨fun v σ' => aops P ops os (env.put dst v) σ' k⟩ := by
  unfold pureV
  rw [← same_fieldAddr]
  rfl
theorem aopsTG_fieldAddr (ops : Array Oper) (j : Nat) (dst : Option Tmp) (t : TypeId) (x : Operand) (f : Nat) (ty : TypeId) (pos : String) (after : Array Edge) (i_ : Nat) (want : Bool) (os : List Oper) (tr : List DRec) (k : Env → AHeap → List DRec → Prop) :
    aopsT P ops 0 [] j (⟨dst, (.fieldAddr t x f), ty, pos, after, some (i_, want)⟩ :: os) env σ tr k = @pureVT (gateD ((ops[i_]?).bind (·.dst)) want env) (valO (aop P (aeval env) (.fieldAddr t x f) σ)) none σ ⟨fun v σ' a => aopsT P ops 0 [] (j + 1) os (env.put dst v) σ' (⟨a, σ, σ'⟩ :: tr) k⟩ := by
  unfold pureVT
  rw [← same_fieldAddr]
  rw [show gateD ((ops[i_]?).bind (·.dst)) want env = agate ops env ⟨dst, (.fieldAddr t x f), ty, pos, after, some (i_, want)⟩ from rfl]
  rfl
theorem aopsG_indexAddr (ops : Array Oper) (dst : Option Tmp) (t : TypeId) (x y : Operand) (ty : TypeId) (pos : String) (after : Array Edge) (i_ : Nat) (want : Bool) (os : List Oper) (k : Env → AHeap → Prop) :
    aops P ops (⟨dst, (.indexAddr t x y), ty, pos, after, some (i_, want)⟩ :: os) env σ k = @pureV (gateD ((ops[i_]?).bind (·.dst)) want env) (valO (aop P (aeval env) (.indexAddr t x y) σ)) σ ⟨fun v σ' => aops P ops os (env.put dst v) σ' k⟩ := by
  unfold pureV
  rw [← same_indexAddr]
  rfl
theorem aopsTG_indexAddr (ops : Array Oper) (j : Nat) (dst : Option Tmp) (t : TypeId) (x y : Operand) (ty : TypeId) (pos : String) (after : Array Edge) (i_ : Nat) (want : Bool) (os : List Oper) (tr : List DRec) (k : Env → AHeap → List DRec → Prop) :
    aopsT P ops 0 [] j (⟨dst, (.indexAddr t x y), ty, pos, after, some (i_, want)⟩ :: os) env σ tr k = @pureVT (gateD ((ops[i_]?).bind (·.dst)) want env) (valO (aop P (aeval env) (.indexAddr t x y) σ)) none σ ⟨fun v σ' a => aopsT P ops 0 [] (j + 1) os (env.put dst v) σ' (⟨a, σ, σ'⟩ :: tr) k⟩ := by
  unfold pureVT
  rw [← same_indexAddr]
  rw [show gateD ((ops[i_]?).bind (·.dst)) want env = agate ops env ⟨dst, (.indexAddr t x y), ty, pos, after, some (i_, want)⟩ from rfl]
  rfl
theorem aopsG_index (ops : Array Oper) (dst : Option Tmp) (t : TypeId) (x y : Operand) (ty : TypeId) (pos : String) (after : Array Edge) (i_ : Nat) (want : Bool) (os : List Oper) (k : Env → AHeap → Prop) :
    aops P ops (⟨dst, (.index t x y), ty, pos, after, some (i_, want)⟩ :: os) env σ k = @pureV (gateD ((ops[i_]?).bind (·.dst)) want env) (valO (aop P (aeval env) (.index t x y) σ)) σ ⟨fun v σ' => aops P ops os (env.put dst v) σ' k⟩ := by
  unfold pureV
  rw [← same_index]
  rfl
theorem aopsTG_index (ops : Array Oper) (j : Nat) (dst : Option Tmp) (t : TypeId) (x y : Operand) (ty : TypeId) (pos : String) (after : Array Edge) (i_ : Nat) (want : Bool) (os : List Oper) (tr : List DRec) (k : Env → AHeap → List DRec → Prop) :
    aopsT P ops 0 [] j (⟨dst, (.index t x y), ty, pos, after, some (i_, want)⟩ :: os) env σ tr k = @pureVT (gateD ((ops[i_]?).bind (·.dst)) want env) (valO (aop P (aeval env) (.index t x y) σ)) none σ ⟨fun v σ' a => aopsT P ops 0 [] (j + 1) os (env.put dst v) σ' (⟨a, σ, σ'⟩ :: tr) k⟩ := by
  unfold pureVT
  rw [← same_index]
  rw [show gateD ((ops[i_]?).bind (·.dst)) want env = agate ops env ⟨dst, (.index t x y), ty, pos, after, some (i_, want)⟩ from rfl]
  rfl
theorem aopsG_extract (ops : Array Oper) (dst : Option Tmp) (x : Operand) (i : Nat) (ty : TypeId) (pos : String) (after : Array Edge) (i_ : Nat) (want : Bool) (os : List Oper) (k : Env → AHeap → Prop) :
    aops P ops (⟨dst, (.extract x i), ty, pos, after, some (i_, want)⟩ :: os) env σ k = @pureV (gateD ((ops[i_]?).bind (·.dst)) want env) (valO (aop P (aeval env) (.extract x i) σ)) σ ⟨fun v σ' => aops P ops os (env.put dst v) σ' k⟩ := by
  unfold pureV
  rw [← same_extract]
  rfl
theorem aopsTG_extract (ops : Array Oper) (j : Nat) (dst : Option Tmp) (x : Operand) (i : Nat) (ty : TypeId) (pos : String) (after : Array Edge) (i_ : Nat) (want : Bool) (os : List Oper) (tr : List DRec) (k : Env → AHeap → List DRec → Prop) :
    aopsT P ops 0 [] j (⟨dst, (.extract x i), ty, pos, after, some (i_, want)⟩ :: os) env σ tr k = @pureVT (gateD ((ops[i_]?).bind (·.dst)) want env) (valO (aop P (aeval env) (.extract x i) σ)) none σ ⟨fun v σ' a => aopsT P ops 0 [] (j + 1) os (env.put dst v) σ' (⟨a, σ, σ'⟩ :: tr) k⟩ := by
  unfold pureVT
  rw [← same_extract]
  rw [show gateD ((ops[i_]?).bind (·.dst)) want env = agate ops env ⟨dst, (.extract x i), ty, pos, after, some (i_, want)⟩ from rfl]
  rfl
theorem aopsG_build (ops : Array Oper) (dst : Option Tmp) (t : TypeId) (ps : Array (Nat × Operand)) (ty : TypeId) (pos : String) (after : Array Edge) (i_ : Nat) (want : Bool) (os : List Oper) (k : Env → AHeap → Prop) :
    aops P ops (⟨dst, (.build t ps), ty, pos, after, some (i_, want)⟩ :: os) env σ k = @pureV (gateD ((ops[i_]?).bind (·.dst)) want env) (valO (aop P (aeval env) (.build t ps) σ)) σ ⟨fun v σ' => aops P ops os (env.put dst v) σ' k⟩ := by
  unfold pureV
  rw [← same_build]
  rfl
theorem aopsTG_build (ops : Array Oper) (j : Nat) (dst : Option Tmp) (t : TypeId) (ps : Array (Nat × Operand)) (ty : TypeId) (pos : String) (after : Array Edge) (i_ : Nat) (want : Bool) (os : List Oper) (tr : List DRec) (k : Env → AHeap → List DRec → Prop) :
    aopsT P ops 0 [] j (⟨dst, (.build t ps), ty, pos, after, some (i_, want)⟩ :: os) env σ tr k = @pureVT (gateD ((ops[i_]?).bind (·.dst)) want env) (valO (aop P (aeval env) (.build t ps) σ)) none σ ⟨fun v σ' a => aopsT P ops 0 [] (j + 1) os (env.put dst v) σ' (⟨a, σ, σ'⟩ :: tr) k⟩ := by
  unfold pureVT
  rw [← same_build]
  rw [show gateD ((ops[i_]?).bind (·.dst)) want env = agate ops env ⟨dst, (.build t ps), ty, pos, after, some (i_, want)⟩ from rfl]
  rfl
theorem aopsG_len (ops : Array Oper) (dst : Option Tmp) (x : Operand) (t : TypeId) (ty : TypeId) (pos : String) (after : Array Edge) (i_ : Nat) (want : Bool) (os : List Oper) (k : Env → AHeap → Prop) :
    aops P ops (⟨dst, (.call ⟨.builtin .len, #[x], #[t]⟩), ty, pos, after, some (i_, want)⟩ :: os) env σ k = @pureV (gateD ((ops[i_]?).bind (·.dst)) want env) (valO (aop P (aeval env) (.call ⟨.builtin .len, #[x], #[t]⟩) σ)) σ ⟨fun v σ' => aops P ops os (env.put dst v) σ' k⟩ := by
  unfold pureV
  rw [← same_len]
  rfl
theorem aopsTG_len (ops : Array Oper) (j : Nat) (dst : Option Tmp) (x : Operand) (t : TypeId) (ty : TypeId) (pos : String) (after : Array Edge) (i_ : Nat) (want : Bool) (os : List Oper) (tr : List DRec) (k : Env → AHeap → List DRec → Prop) :
    aopsT P ops 0 [] j (⟨dst, (.call ⟨.builtin .len, #[x], #[t]⟩), ty, pos, after, some (i_, want)⟩ :: os) env σ tr k = @pureVT (gateD ((ops[i_]?).bind (·.dst)) want env) (valO (aop P (aeval env) (.call ⟨.builtin .len, #[x], #[t]⟩) σ)) none σ ⟨fun v σ' a => aopsT P ops 0 [] (j + 1) os (env.put dst v) σ' (⟨a, σ, σ'⟩ :: tr) k⟩ := by
  unfold pureVT
  rw [← same_len]
  rw [show gateD ((ops[i_]?).bind (·.dst)) want env = agate ops env ⟨dst, (.call ⟨.builtin .len, #[x], #[t]⟩), ty, pos, after, some (i_, want)⟩ from rfl]
  rfl
theorem aopsG_call (ops : Array Oper) (dst : Option Tmp) (f : Operand) (args : Array Operand) (ts : Array TypeId) (ty : TypeId) (pos : String) (after : Array Edge) (i_ : Nat) (want : Bool) (os : List Oper) (k : Env → AHeap → Prop) :
    aops P ops (⟨dst, .call ⟨.value f, args, ts⟩, ty, pos, after, some (i_, want)⟩ :: os) env σ k = @gCo P (gateD ((ops[i_]?).bind (·.dst)) want env) (aeval env f) (args.toList.map (aeval env)) σ ⟨fun v σ' => aops P ops os (env.put dst v) σ' k⟩ := _root_.id rfl
theorem aopsTG_call (ops : Array Oper) (j : Nat) (dst : Option Tmp) (f : Operand) (args : Array Operand) (ts : Array TypeId) (ty : TypeId) (pos : String) (after : Array Edge) (i_ : Nat) (want : Bool) (os : List Oper) (tr : List DRec) (k : Env → AHeap → List DRec → Prop) :
    aopsT P ops 0 [] j (⟨dst, .call ⟨.value f, args, ts⟩, ty, pos, after, some (i_, want)⟩ :: os) env σ tr k = @gCo P (gateD ((ops[i_]?).bind (·.dst)) want env) (aeval env f) (args.toList.map (aeval env)) σ ⟨fun v σ' => aopsT P ops 0 [] (j + 1) os (env.put dst v) σ' (⟨none, σ, σ'⟩ :: tr) k⟩ := by
  rw [show gateD ((ops[i_]?).bind (·.dst)) want env = agate ops env ⟨dst, .call ⟨.value f, args, ts⟩, ty, pos, after, some (i_, want)⟩ from rfl]
  rfl
end
attribute [go_sem] gv_gv gv_true gv_false nt_true nt_false nt_nt nt_eq_true nt_eq_false pk_true pk_false pk_or pk_and pk_orn pk_or' pk_and' pickO_bool gateC_bool_t gateC_bool_f gateC_skip gateC_gv_t gateC_gv_f gateD_some gCo_some pureV_some pureVT_some valO_some valO_map pureG_some pureGT_some chkAt_gp gp_none some_true
attribute [go_sem high] gC_true gC_false pureV_true pureV_false pureVT_true pureVT_false pureG_true pureG_false pureGT_true pureGT_false
attribute [go_sem ↓ high] aop_pick aopsG_move aopsG_assign aopsG_pick aopsG_load aopsG_nilCheck aopsG_binOp aopsG_unOp aopsG_convert aopsG_slice aopsG_fieldAddr aopsG_indexAddr aopsG_index aopsG_extract aopsG_build aopsG_len aopsTG_move aopsTG_assign aopsTG_pick aopsTG_load aopsTG_nilCheck aopsTG_binOp aopsTG_unOp aopsTG_convert aopsTG_slice aopsTG_fieldAddr aopsTG_indexAddr aopsTG_index aopsTG_extract aopsTG_build aopsTG_len aopsG_call aopsTG_call
end AH
