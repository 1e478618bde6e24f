import Derived.Test.YtagihpbpblnnoaaGreatQ15
set_option linter.all false
namespace AH
open Go Go.Proofs Ho
theorem res_n (σ : AHeap) (c : Nat) : (σ.reserve c).n = σ.n + c := _root_.id rfl
theorem res_get (σ : AHeap) (c j : Nat) : (σ.reserve c).get j = if σ.n ≤ j ∧ j < σ.n + c then none else σ.get j := _root_.id rfl
theorem res_lt {σ : AHeap} {c j : Nat} (h : j < σ.n) : (σ.reserve c).get j = σ.get j := by rw [res_get, if_neg (by omega)]
section
variable {P : Program} {env : Env} {σ : AHeap}
theorem adraw_res (ops : Array Oper) (B : List Nat) (prs : List (Nat × Nat)) (r : Nat) (rs : List Nat) (k : Env → AHeap → Prop) :
    @adraw P ops ⟨B, prs, r :: rs⟩ env σ ⟨k⟩ = aopsT P ops σ.n (r :: rs) 0 ops.toList env (σ.reserve (rs.length + 1)) [] fun env' σ' tr => chkAll ops.size tr prs ∧ k env' σ' := _root_.id rfl
theorem aopsTR_nil (ops : Array Oper) (base r : Nat) (rs : List Nat) (j : Nat) (tr : List DRec) (K : Env → AHeap → List DRec → Prop) : aopsT P ops base (r :: rs) j [] env σ tr K = K env σ tr := _root_.id rfl
theorem aopsTR_plain (ops : Array Oper) (base r : Nat) (rs : List Nat) (j : Nat) (dst : Option Tmp) (op : Go.Op) (ty : TypeId) (pos : String) (after : Array Edge) (os : List Oper) (tr : List DRec) (K : Env → AHeap → List DRec → Prop) :
    aopsT P ops base (r :: rs) j (⟨dst, op, ty, pos, after, none⟩ :: os) env σ tr K ↔
      astepT P ⟨dst, op, ty, pos, after, none⟩ (keptAt base (r :: rs) j) env σ fun env' σ' => aopsT P ops base (r :: rs) (j + 1) os env' σ' (⟨atOf (keptAt base (r :: rs) j) (touched env ⟨dst, op, ty, pos, after, none⟩), σ, σ'⟩ :: tr) K := by
  simp [aopsT, agate, agated]
def kAt (base k : Nat) : List Nat → Nat → Option Nat
  | [], _ => none
  | r :: rs, t => if r = k then some (base + t) else kAt base k rs (t + 1)
theorem keptAt_k (base : Nat) (res : List Nat) (k : Nat) : keptAt base res k = kAt base k res 0 := by
  have key : ∀ (l : List Nat) (t : Nat), (l.findIdx? (· == k)).map (base + t + ·) = kAt base k l t := by
    intro l
    induction l with
    | nil => intro t; rfl
    | cons r rs ih =>
      intro t
      rw [List.findIdx?_cons]
      unfold kAt
      by_cases e : r = k
      · simp [e]
      · rw [if_neg (by simpa using e), if_neg e, ← ih (t + 1), Option.map_map]
        congr 1
        funext x
        simp only [Function.comp]
        omega
  have := key res 0
  simpa [keptAt] using this
theorem astepT_none (o : Oper) (K : Env → AHeap → Prop) : astepT P o none env σ K = astep P o env σ K := _root_.id rfl
theorem astepT_some (o : Oper) (i : Nat) (K : Env → AHeap → Prop) : astepT P o (some i) env σ K = @bindO (aopAt P (aeval env) o.op i σ) ⟨fun v σ' => K (env.put o.dst v) σ'⟩ := _root_.id rfl
theorem aopAt_alloc {ρ : Operand → AV} (e : TypeId) (i : Nat) : aopAt P ρ (.alloc e) i σ = (tyZero P e).map fun z => (.ptr i 0, σ.set i ⟨z, true⟩) := by
  have h : aop P ρ (.alloc e) ⟨i, fun _ => none⟩ = (tyZero P e).map fun z => (.ptr i 0, AHeap.push ⟨i, fun _ => none⟩ ⟨z, true⟩) := rfl
  unfold aopAt
  rw [h]
  generalize tyZero P e = s
  cases s <;> simp [AHeap.push_get]
def bsAt (s : Option (Nat × Nat × List AV)) (len : Nat) (parts : List (Nat × AV)) (i : Nat) (σ : AHeap) : Option (AV × AHeap) :=
  match s with
  | some (e, _, z) => if len * e ≤ 16777216 then (afill (fun i => some (i * e, e)) (List.replicate len z).flatten parts).map fun cs => (.sl i 0 len e, σ.set i ⟨cs, true⟩) else none
  | none => none
theorem aopAt_bs {ρ : Operand → AV} (t : TypeId) (len : Nat) (parts : Array (Nat × Operand)) (i : Nat) : aopAt P ρ (.buildSlice t len parts) i σ = bsAt (tySlice P t) len (parts.toList.map fun (i, x) => (i, ρ x)) i σ := by
  have h : aop P ρ (.buildSlice t len parts) ⟨i, fun _ => none⟩ = match tySlice P t with
    | some (e, _, z) => if len * e ≤ 16777216 then
        (afill (fun i => some (i * e, e)) (List.replicate len z).flatten (parts.toList.map fun (i, x) => (i, ρ x))).map fun cs => (.sl i 0 len e, AHeap.push ⟨i, fun _ => none⟩ ⟨cs, true⟩)
      else none
    | none => none := rfl
  unfold aopAt bsAt
  rw [h]
  generalize tySlice P t = s
  rcases s with _ | ⟨e, b, z⟩
  · rfl
  · dsimp only
    by_cases hc : len * e ≤ 16777216
    · rw [if_pos hc, if_pos hc]
      generalize afill _ _ _ = f
      cases f <;> simp [AHeap.push_get]
    · rw [if_neg hc, if_neg hc]
def mkAt (s : Option (Nat × Nat × List AV)) (l c : AV) (i : Nat) (σ : AHeap) : Option (AV × AHeap) :=
  match s, l, c with
  | some (e, by', z), .int .i64 l, .int .i64 c =>
    if 0 ≤ l ∧ l ≤ c ∧ c < 9223372036854775807 ∧ by' * c ≤ 140737488355328 then some (.sl i 0 l.toNat e, σ.set i ⟨(List.replicate l.toNat z).flatten, true⟩) else none
  | _, _, _ => none
theorem aopAt_mk {ρ : Operand → AV} (t : TypeId) (l c : Operand) (i : Nat) : aopAt P ρ (.makeSlice t l c) i σ = mkAt (tySlice P t) (ρ l) (ρ c) i σ := by
  have h : aop P ρ (.makeSlice t l c) ⟨i, fun _ => none⟩ = amake P t (ρ l) (ρ c) ⟨i, fun _ => none⟩ := rfl
  unfold aopAt mkAt
  rw [h]
  unfold amake
  generalize tySlice P t = s
  generalize ρ l = x
  generalize ρ c = y
  rcases s with _ | ⟨e, b, z⟩
  · rfl
  · cases x <;> (try rfl)
    rename_i k n
    cases k <;> (try rfl)
    cases y <;> (try rfl)
    rename_i k m
    cases k <;> (try rfl)
    dsimp only
    by_cases hc : 0 ≤ n ∧ n ≤ m ∧ m < 9223372036854775807 ∧ b * m ≤ 140737488355328
    · rw [if_pos hc, if_pos hc]
      simp [AHeap.push_get]
    · rw [if_neg hc, if_neg hc]
end
theorem atOf_none (t : Option Nat) : atOf none t = t := _root_.id rfl
theorem atOf_some (i : Nat) (t : Option Nat) : atOf (some i) t = some i := _root_.id rfl
attribute [go_sem ↓ high] adraw_res aopsTR_nil aopsTR_plain
attribute [go_sem] res_n res_lt keptAt_k kAt astepT_none astepT_some aopAt_alloc aopAt_bs aopAt_mk bsAt mkAt atOf_none atOf_some
/-! ### an empty list, appended to -/
theorem LsV.res {kk : IntKind} {σ : AHeap} {v : AV} {xs : List Int} {c : Nat} (h : LsV kk σ v xs) : LsV kk (σ.reserve c) v xs := by
  rcases h.ex with ⟨rfl, rfl⟩ | ⟨i, k, rfl, hl⟩
  · exact .nil
  · obtain ⟨h1, B, h2, h3⟩ := hl
    exact .mk' ⟨by rw [res_n]; omega, B, by rw [res_lt h1]; exact h2, h3⟩
theorem LsV.ne {kk : IntKind} {σ : AHeap} {v : AV} {xs : List Int} (h : LsV kk σ v xs) {j : Nat} (hj : σ.n ≤ j) : bOf v ≠ j ∨ v = .nils := by
  rcases h.bof h.lt with hb | hb
  · exact .inl (by omega)
  · exact .inr hb
theorem LsV.elems {kk : IntKind} {σ : AHeap} {v : AV} {xs : List Int} (h : LsV kk σ v xs) : aelems 1 v σ = some (xs.map (.int kk)) ∧ alen v = some xs.length := by
  rcases h.ex with ⟨rfl, rfl⟩ | ⟨i, k, rfl, hl'⟩
  · exact ⟨rfl, rfl⟩
  · refine ⟨?_, rfl⟩
    by_cases h0 : xs.length = 0
    · have : xs = [] := List.eq_nil_of_length_eq_zero h0
      subst this; rfl
    · obtain ⟨B, h1, h2, h3, _⟩ := hl'.cell
      show (if xs.length = 0 then some [] else _) = _
      rw [if_neg h0]
      simp only [h1]
      have hone : (xs.map (AV.int kk)).all AV.one = true := by
        rw [List.all_eq_true]; intro a ha; obtain ⟨x, _, rfl⟩ := List.mem_map.1 ha; rfl
      rw [if_pos ⟨by trivial, by omega, by rw [Nat.mul_one, h3]; exact hone⟩, Nat.mul_one, h3]
/-- A list at the end of a list of one's own. -/
theorem app_ls {P : Program} {t : TypeId} {τ : AHeap} {q n : Nat} {kk : IntKind} {v : AV} {xs ys : List Int} (hv : LsV kk τ v ys) (hq : τ.get q = some ⟨xs.map (.int kk), true⟩) (hn : xs.length = n) (hl : (ys.length : Int) ≤ 1000000) (hl' : n ≤ 1000000) :
    aappend P t (.sl q 0 n 1) v τ = @appR (tySlice P t) (.sl τ.n 0 (n + ys.length) 1, (τ.kill q).push ⟨(xs ++ ys).map (.int kk), true⟩) ⟨aappend P t (.sl q 0 n 1) v τ⟩ := by
  unfold appR
  obtain ⟨he, hln⟩ := hv.elems
  have key : ∀ (b : Nat) (z : List AV), b ≤ 8 → tySlice P t = some (1, b, z) → aappend P t (.sl q 0 n 1) v τ = some (.sl τ.n 0 (n + ys.length) 1, (τ.kill q).push ⟨(xs ++ ys).map (.int kk), true⟩) := by
    intro b z hb8 h
    have hm : (n + ys.length) * b ≤ 2000000 * 8 := Nat.mul_le_mul (by omega) hb8
    simp only [aappend, h, he, hln, hq]
    rw [if_pos ⟨trivial, trivial, by simp [hn], by omega, by omega⟩]
    simp
  split
  · rename_i h; exact key 8 _ (by omega) h
  · rename_i h; exact key 1 _ (by omega) h
  · rfl
/-- A list at the end of an empty one. -/
theorem app_ls0 {P : Program} {t : TypeId} {τ : AHeap} {q : Nat} {kk : IntKind} {v : AV} {ys : List Int} (hv : LsV kk τ v ys) (hq : τ.get q = some ⟨[], true⟩) (hl : (ys.length : Int) ≤ 1000000) :
    aappend P t (.sl q 0 0 1) v τ = @appR (tySlice P t) (.sl τ.n 0 ys.length 1, (τ.kill q).push ⟨ys.map (.int kk), true⟩) ⟨aappend P t (.sl q 0 0 1) v τ⟩ := by
  have := app_ls (P := P) (t := t) (xs := []) (n := 0) hv hq rfl hl (by omega)
  simpa using this
attribute [go_sem] app_ls app_ls0
end AH
