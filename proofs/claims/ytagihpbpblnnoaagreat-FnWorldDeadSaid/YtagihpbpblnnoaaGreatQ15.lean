import Derived.Test.YtagihpbpblnnoaaGreatQ14
set_option linter.all false
namespace AH
open Go Go.Proofs Ho
set_option maxRecDepth 10000
set_option maxHeartbeats 4000000
theorem fn_rel {P : Program} {f : FuncId} {fn : Func} {c : Code} {args : List AV} {σ : AHeap} {α : Type} (V : α → AV) (H : α → AHeap) (F : α → Prop) (ord : Nat → DOrd) (hm : P.follows .mixedOrders = true)
    (hf : P.funcs[f]? = some fn) (hn : (fn.name == "runtime.NumGoroutine") = false) (hb : fn.body = some c) (hok : (codeOk fn.ntmps ord c && decide (args.length ≤ fn.ntmps)) = true)
    (hv : ∀ a, F a → (V a).lt σ.n = true) (hr : ∀ a, F a → (H a).n = σ.n) (hl : ∀ a, F a → ∀ i, i < σ.n → (H a).get i = σ.get i ∨ ∀ B, (H a).get i = some B → ∃ C, σ.get i = some C ∧ ∀ a ∈ B.cells, a.lt σ.n = true ∨ a ∈ C.cells)
    (h : wpc P ord c (aresK P fn.results.toList fun x τ => ∃ a, x = V a ∧ Keeps σ.n (H a) τ ∧ F a) (envOf args) σ) : Fn P f args σ fun x τ => ∃ a, x = V a ∧ τ = H a ∧ F a := by
  obtain ⟨x, τ, hc, a, rfl, hk, hF⟩ := fn_of ord hm hf hn hb hok h
  exact ⟨V a, H a, hc.forget (hr a hF) (fun i hi => ⟨(hk i hi).symm, by rw [hk i hi]; exact hl a hF i hi⟩) (hv a hF), a, rfl, rfl, hF⟩
theorem callP_rel {P : Program} {g : FuncId} {args : List AV} {σ : AHeap} {α : Type} {V : α → AV} {H : α → AHeap} {F : α → Prop} (k : AV → AHeap → Prop) (h : Fn P g args σ fun x τ => ∃ a, x = V a ∧ τ = H a ∧ F a) :
    @callP P (.fn g [] []) args σ ⟨k⟩ = @Alt (∀ a, F a → k (V a) (H a)) ⟨@callP P (.fn g [] []) args σ ⟨k⟩⟩ := by
  refine propext ⟨fun hh => .inr hh, fun hh => ?_⟩
  rcases hh with hh | hh
  · refine callP_use h ?_
    rintro v σ' _ ⟨a, rfl, rfl, hF⟩
    exact hh a hF
  · exact hh
theorem pa1 (p : Int) : p + 1 + 1 = p + 2 := by omega
theorem pa2 (p : Int) : p + 2 + 1 = p + 3 := by omega
theorem pa3 (p : Int) : p + 3 + 1 = p + 4 := by omega
theorem pa4 (p : Int) : p + 4 + 1 = p + 5 := by omega
theorem pa5 (p : Int) : p + 5 + 1 = p + 6 := by omega
theorem pa6 (p : Int) : p + 6 + 1 = p + 7 := by omega
theorem pa7 (p : Int) : p + 7 + 1 = p + 8 := by omega
theorem pa8 (p : Int) : p + 8 + 1 = p + 9 := by omega
theorem pa9 (p : Int) : p + 9 + 1 = p + 10 := by omega
theorem pa10 (p : Int) : p + 10 + 1 = p + 11 := by omega
theorem pa11 (p : Int) : p + 11 + 1 = p + 12 := by omega
theorem pa12 (p : Int) : p + 12 + 1 = p + 13 := by omega
theorem pa13 (p : Int) : p + 13 + 1 = p + 14 := by omega
theorem pa14 (p : Int) : p + 14 + 1 = p + 15 := by omega
theorem pa15 (p : Int) : p + 15 + 1 = p + 16 := by omega
theorem pa16 (p : Int) : p + 16 + 1 = p + 17 := by omega
theorem pa17 (p : Int) : p + 17 + 1 = p + 18 := by omega
theorem pa18 (p : Int) : p + 18 + 1 = p + 19 := by omega
theorem pa19 (p : Int) : p + 19 + 1 = p + 20 := by omega
theorem pa20 (p : Int) : p + 20 + 1 = p + 21 := by omega
theorem pa21 (p : Int) : p + 21 + 1 = p + 22 := by omega
theorem pa22 (p : Int) : p + 22 + 1 = p + 23 := by omega
theorem pa23 (p : Int) : p + 23 + 1 = p + 24 := by omega
theorem pa24 (p : Int) : p + 24 + 1 = p + 25 := by omega
theorem pa25 (p : Int) : p + 25 + 1 = p + 26 := by omega
theorem pa26 (p : Int) : p + 26 + 1 = p + 27 := by omega
theorem pa27 (p : Int) : p + 27 + 1 = p + 28 := by omega
theorem pa28 (p : Int) : p + 28 + 1 = p + 29 := by omega
theorem pa29 (p : Int) : p + 29 + 1 = p + 30 := by omega
theorem pa30 (p : Int) : p + 30 + 1 = p + 31 := by omega
theorem pa31 (p : Int) : p + 31 + 1 = p + 32 := by omega
theorem pa32 (p : Int) : p + 32 + 1 = p + 33 := by omega
theorem pa33 (p : Int) : p + 33 + 1 = p + 34 := by omega
theorem pa34 (p : Int) : p + 34 + 1 = p + 35 := by omega
theorem pa35 (p : Int) : p + 35 + 1 = p + 36 := by omega
theorem pa36 (p : Int) : p + 36 + 1 = p + 37 := by omega
theorem pa37 (p : Int) : p + 37 + 1 = p + 38 := by omega
theorem pa38 (p : Int) : p + 38 + 1 = p + 39 := by omega
theorem pa39 (p : Int) : p + 39 + 1 = p + 40 := by omega
theorem pa40 (p : Int) : p + 40 + 1 = p + 41 := by omega
theorem pa41 (p : Int) : p + 41 + 1 = p + 42 := by omega
theorem pa42 (p : Int) : p + 42 + 1 = p + 43 := by omega
theorem pa43 (p : Int) : p + 43 + 1 = p + 44 := by omega
theorem pa44 (p : Int) : p + 44 + 1 = p + 45 := by omega
theorem pa45 (p : Int) : p + 45 + 1 = p + 46 := by omega
theorem pa46 (p : Int) : p + 46 + 1 = p + 47 := by omega
theorem pa47 (p : Int) : p + 47 + 1 = p + 48 := by omega
theorem pa48 (p : Int) : p + 48 + 1 = p + 49 := by omega
theorem pa49 (p : Int) : p + 49 + 1 = p + 50 := by omega
theorem pa50 (p : Int) : p + 50 + 1 = p + 51 := by omega
theorem pa51 (p : Int) : p + 51 + 1 = p + 52 := by omega
theorem pa52 (p : Int) : p + 52 + 1 = p + 53 := by omega
theorem pa53 (p : Int) : p + 53 + 1 = p + 54 := by omega
theorem pa54 (p : Int) : p + 54 + 1 = p + 55 := by omega
theorem pa55 (p : Int) : p + 55 + 1 = p + 56 := by omega
theorem pa56 (p : Int) : p + 56 + 1 = p + 57 := by omega
theorem pa57 (p : Int) : p + 57 + 1 = p + 58 := by omega
theorem pa58 (p : Int) : p + 58 + 1 = p + 59 := by omega
theorem pa59 (p : Int) : p + 59 + 1 = p + 60 := by omega
theorem pa60 (p : Int) : p + 60 + 1 = p + 61 := by omega
attribute [go_sem] pa1 pa2 pa3 pa4 pa5 pa6 pa7 pa8 pa9 pa10 pa11 pa12 pa13 pa14 pa15 pa16 pa17 pa18 pa19 pa20 pa21 pa22 pa23 pa24 pa25 pa26 pa27 pa28 pa29 pa30 pa31 pa32 pa33 pa34 pa35 pa36 pa37 pa38 pa39 pa40 pa41 pa42 pa43 pa44 pa45 pa46 pa47 pa48 pa49 pa50 pa51 pa52 pa53 pa54 pa55 pa56 pa57 pa58 pa59 pa60
/-- What pick draws: place k of the code, or a mixture. -/
def mixV (bs : List Int) (k : Int) : Int :=
  let x := at_ bs (k % bs.length) * 131 + at_ bs ((k * 7 + 3) % bs.length) * 1117 + k * 29 + k / bs.length * 53
  ((x.toNat ^^^ (x / 64).toNat : Nat) : Int)
def pickV (bs : List Int) (k n : Int) : Int := if n < 1 ∨ bs = [] then 0 else if k < bs.length then at_ bs k % n else mixV bs k % n
theorem pick_rng {bs : List Int} {k n : Int} (h : 1 ≤ n) : 0 ≤ pickV bs k n ∧ pickV bs k n < n := by
  unfold pickV
  split
  · omega
  · split
    · exact ⟨Int.emod_nonneg _ (by omega), Int.emod_lt_of_pos _ (by omega)⟩
    · exact ⟨Int.emod_nonneg _ (by omega), Int.emod_lt_of_pos _ (by omega)⟩
structure Rd (σ : AHeap) (i : Nat) (bv : AV) (bs : List Int) (p : Int) : Prop where
  hi : i < σ.n
  hg : σ.get i = some ⟨[bv, .int .i64 p], true⟩
  hb : LsV .u8 σ bv bs
  ne : bOf bv ≠ i ∨ bv = .nils
  by' : ∀ j : Int, 0 ≤ at_ bs j ∧ at_ bs j ≤ 255
  len : (bs.length : Int) ≤ 2000
  hp : 0 ≤ p ∧ p ≤ 1000000000
theorem Rd.push {σ : AHeap} {i : Nat} {bv : AV} {bs : List Int} {p : Int} (h : Rd σ i bv bs p) {B : ABlk} : Rd (σ.push B) i bv bs p :=
  ⟨by have := h.hi; simp; omega, by rw [push_get_lt h.hi]; exact h.hg, h.hb.push, h.ne, h.by', h.len, h.hp⟩
theorem Rd.upd {σ : AHeap} {i : Nat} {bv : AV} {bs : List Int} {p q : Int} (h : Rd σ i bv bs p) (hq : 0 ≤ q ∧ q ≤ 1000000000) : Rd (σ.set i ⟨[bv, .int .i64 q], true⟩) i bv bs q :=
  ⟨h.hi, by simp [AHeap.set_get], h.hb.set h.ne, h.ne, h.by', h.len, hq⟩
theorem Rd.set {σ : AHeap} {i j : Nat} {bv : AV} {bs : List Int} {p : Int} (h : Rd σ i bv bs p) {B : ABlk} (hj : i ≠ j) (hb : bOf bv ≠ j ∨ bv = .nils) : Rd (σ.set j B) i bv bs p :=
  ⟨h.hi, by rw [set_get_ne hj]; exact h.hg, h.hb.set hb, h.ne, h.by', h.len, h.hp⟩
theorem u8_i64 {n : Int} (h : 0 ≤ n ∧ n ≤ 255) : IntKind.i64.wrap n = n := wrap_i64 (by omega)
theorem xor_i64 {x : Int} (h : 0 ≤ x ∧ x < 1000000000000) :
    IntKind.i64.wrap ((BitVec.ofInt 64 x ^^^ BitVec.ofInt 64 (x / 64)).toNat) = ((x.toNat ^^^ (x / 64).toNat : Nat) : Int) := by
  obtain ⟨n, rfl⟩ := Int.eq_ofNat_of_zero_le h.1
  have e : ((n : Int) / 64) = ((n / 64 : Nat) : Int) := by omega
  rw [e, BitVec.ofInt_natCast, BitVec.ofInt_natCast, BitVec.toNat_xor, BitVec.toNat_ofNat, BitVec.toNat_ofNat, Nat.mod_eq_of_lt (by omega), Nat.mod_eq_of_lt (by omega)]
  have hlt : n ^^^ n / 64 < 2 ^ 40 := Nat.xor_lt_two_pow (by omega) (by omega)
  rw [wrap_i64 (by omega)]
  simp only [Int.toNat_natCast]
theorem zPick_fn (σ : AHeap) (i : Nat) (n : Int) (bv : AV) (bs : List Int) (p : Int) (hr : Rd σ i bv bs p) (hn : -1000000000000 ≤ n ∧ n ≤ 1000000000000) (hp : p ≤ 999999999) : Fn Tryz.prog 81 [.ptr i 0, .int .i64 n] σ fun x τ => x = .int .i64 (pickV bs p n) ∧ τ = σ.set i ⟨[bv, .int .i64 (p + 1)], true⟩ := by
  refine fn_mut ord81 mixed Tryz.func81 (by kernel_rfl) rfl (by kernel_rfl) ?_ ?_ ?_ ?_
  · rfl
  · rfl
  · exact mut_set hr.hg (by
      intro a ha
      simp only [List.mem_cons, List.not_mem_nil, or_false] at ha ⊢
      rcases ha with rfl | rfl
      · exact .inr (.inl rfl)
      · exact .inl rfl)
  obtain ⟨hi, hg, hb, ne, hby, hlen, hp0⟩ := hr
  have hnb : bs = [] ↔ (bs.length : Int) = 0 := by cases bs <;> simp <;> omega
  by_cases h1 : n < 1
  · simp (config := {contextual := true, maxSteps := 1000000}) (disch := first | exact dA | fail) [go_sem, envOf, wrap_i64, int_lt, -Int.not_le, -Int.not_lt, Bool.decide_and, Bool.decide_or, and_assoc, Bool.and_assoc, Bool.or_assoc, Prod.exists, Prod.forall, ord81, hg, pickV, h1]
  by_cases h2 : bs = []
  · simp (config := {contextual := true, maxSteps := 1000000}) (disch := first | exact dA | fail) [go_sem, envOf, wrap_i64, int_lt, -Int.not_le, -Int.not_lt, Bool.decide_and, Bool.decide_or, and_assoc, Bool.and_assoc, Bool.or_assoc, Prod.exists, Prod.forall, ord81, hg, pickV, h1, h2]
  have h3 : ¬ (bs.length : Int) = 0 := fun h => h2 (hnb.2 h)
  have h1' : ¬ n = 0 := by omega
  have b0 := hby p
  have lp : 0 < (bs.length : Int) := by omega
  have c1 : 0 ≤ p % bs.length := Int.emod_nonneg _ h3
  have c1' : p % bs.length < bs.length := Int.emod_lt_of_pos _ lp
  have c2 : 0 ≤ (p * 7 + 3) % bs.length := Int.emod_nonneg _ h3
  have c2' : (p * 7 + 3) % bs.length < bs.length := Int.emod_lt_of_pos _ lp
  have c3 : 0 ≤ p / bs.length := Int.ediv_nonneg hp0.1 (by omega)
  have c3' : p / bs.length ≤ p := Int.ediv_le_self _ hp0.1
  have b1 := hby (p % bs.length)
  have b2 := hby ((p * 7 + 3) % bs.length)
  by_cases h4 : (bs.length : Int) ≤ p
  · simp (config := {contextual := true, maxSteps := 1000000}) (disch := first | exact dA | fail) [go_sem, envOf, wrap_i64, int_lt, -Int.not_le, -Int.not_lt, Bool.decide_and, Bool.decide_or, and_assoc, Bool.and_assoc, Bool.or_assoc, Prod.exists, Prod.forall, ord81, hg, pickV, h1, h2, h3, h1', h4, Int.tdiv_eq_ediv_of_nonneg, Int.tmod_eq_emod_of_nonneg]
    have e := xor_i64 (x := at_ bs (p % bs.length) * 131 + at_ bs ((p * 7 + 3) % bs.length) * 1117 + p * 29 + p / bs.length * 53) (by omega)
    exact (congrArg (fun z : Int => z.tmod n) e).trans (Int.tmod_eq_emod_of_nonneg (by omega))
  · simp (config := {contextual := true, maxSteps := 1000000}) (disch := first | exact dA | fail) [go_sem, envOf, wrap_i64, int_lt, -Int.not_le, -Int.not_lt, Bool.decide_and, Bool.decide_or, and_assoc, Bool.and_assoc, Bool.or_assoc, Prod.exists, Prod.forall, ord81, hg, pickV, h1, h2, h3, h1', h4, Int.tdiv_eq_ediv_of_nonneg, Int.tmod_eq_emod_of_nonneg]
@[go_sem] theorem zPick_s (σ : AHeap) (i : Nat) (n : Int) (bv : AV) (bs : List Int) (p : Int) (hr : Rd σ i bv bs p) (hn : -1000000000000 ≤ n ∧ n ≤ 1000000000000) (hp : p ≤ 999999999) (kk_ : AV → AHeap → Prop) : @callP Tryz.prog (.fn 81 [] []) [.ptr i 0, .int .i64 n] σ ⟨kk_⟩ = @Alt (kk_ (.int .i64 (pickV bs p n)) (σ.set i ⟨[bv, .int .i64 (p + 1)], true⟩)) ⟨@callP Tryz.prog (.fn 81 [] []) [.ptr i 0, .int .i64 n] σ ⟨kk_⟩⟩ := callP_alt (zPick_fn σ i n bv bs p hr hn hp)
theorem get_push_eq {σ : AHeap} {j : Nat} (B : ABlk) (h : j = σ.n) : (σ.push B).get j = some B := by subst h; exact get_push_new B
theorem push_n' (σ : AHeap) (B : ABlk) : (σ.push B).n = σ.n + 1 := _root_.id rfl
theorem set_n' (σ : AHeap) (i : Nat) (B : ABlk) : (σ.set i B).n = σ.n := _root_.id rfl
theorem kill_n' (σ : AHeap) (i : Nat) : (σ.kill i).n = σ.n := _root_.id rfl
theorem push_set_eq {σ : AHeap} {j : Nat} (B C : ABlk) (h : j = σ.n) : (σ.push B).set j C = σ.push C := by subst h; exact push_set_new B C
attribute [go_sem] push_set_eq
def unint : AV → Int
  | .int _ n => n
  | _ => 0
theorem unint_int (k : IntKind) (n : Int) : unint (.int k n) = n := _root_.id rfl
theorem Rd.mut {σ : AHeap} {i : Nat} {bv : AV} {bs : List Int} {p : Int} (h : Rd σ i bv bs p) (q : Int) :
    ∀ y, y < σ.n → (σ.set i ⟨[bv, .int .i64 q], true⟩).get y = σ.get y ∨ ∀ B, (σ.set i ⟨[bv, .int .i64 q], true⟩).get y = some B → ∃ C, σ.get y = some C ∧ ∀ a ∈ B.cells, a.lt σ.n = true ∨ a ∈ C.cells := by
  refine mut_set h.hg ?_
  intro a ha
  simp only [List.mem_cons, List.not_mem_nil, or_false] at ha ⊢
  rcases ha with rfl | rfl
  · exact .inr (.inl rfl)
  · exact .inl rfl
theorem zNum_fn (σ : AHeap) (i j n : Nat) (cs : List AV) (bv : AV) (bs : List Int) (p : Int) (hg : σ.get j = some ⟨cs, true⟩) (hj : i < j ∧ j < σ.n) (hc : (cs.map unint).map (.int .i64) = cs) (hn : cs.length = n) (hr : Rd σ i bv bs p) (hp : p ≤ 999999999) (hl : 1 ≤ n ∧ n ≤ 1000) : Fn Tryz.prog 109 [.ptr i 0, .sl j 0 n 1] σ fun x τ => x = .int .i64 (at_ (cs.map unint) (pickV bs p n)) ∧ τ = σ.set i ⟨[bv, .int .i64 (p + 1)], true⟩ := by
  refine fn_mut ord0 mixed Tryz.func109 (by kernel_rfl) rfl (by kernel_rfl) ?_ ?_ ?_ ?_
  · rfl
  · rfl
  · exact hr.mut _
  subst hn
  have hx : LsV .i64 σ (.sl j 0 cs.length 1) (cs.map unint) := by
    have := LsV.own (kk := .i64) (xs := cs.map unint) hj.2 (rw := true) (by rw [hc]; exact hg)
    simpa using this
  have hq := pick_rng (bs := bs) (k := p) (n := cs.length) (by omega)
  have hv' : bOf (.sl j 0 cs.length 1) ≠ i ∨ AV.sl j 0 cs.length 1 = .nils := .inl (by simp [bOf]; omega)
  have hcl : ((cs.map unint).length : Int) = cs.length := by simp
  have hld := fun (τ : AHeap) (h : LsV .i64 τ (.sl j 0 cs.length 1) (cs.map unint)) (k : Int) (h0 : 0 ≤ k) (h1 : k < cs.length) => load_ls (P := Tryz.prog) (t := 3) h h0 (by omega)
  simp only [elAt, bOf, kOf] at hld
  simp (config := {contextual := true, maxSteps := 1000000}) (disch := first | exact dA | fail) [go_sem, envOf, wrap_i64, int_lt, -Int.not_le, -Int.not_lt, Bool.decide_and, Bool.decide_or, and_assoc, Bool.and_assoc, Bool.or_assoc, Prod.exists, Prod.forall, hld]
@[go_sem] theorem zNum_s (σ : AHeap) (i j n : Nat) (cs : List AV) (bv : AV) (bs : List Int) (p : Int) (hg : σ.get j = some ⟨cs, true⟩) (hj : i < j ∧ j < σ.n) (hc : (cs.map unint).map (.int .i64) = cs) (hn : cs.length = n) (hr : Rd σ i bv bs p) (hp : p ≤ 999999999) (hl : 1 ≤ n ∧ n ≤ 1000) (kk_ : AV → AHeap → Prop) : @callP Tryz.prog (.fn 109 [] []) [.ptr i 0, .sl j 0 n 1] σ ⟨kk_⟩ = @Alt (kk_ (.int .i64 (at_ (cs.map unint) (pickV bs p n))) (σ.set i ⟨[bv, .int .i64 (p + 1)], true⟩)) ⟨@callP Tryz.prog (.fn 109 [] []) [.ptr i 0, .sl j 0 n 1] σ ⟨kk_⟩⟩ := callP_alt (zNum_fn σ i j n cs bv bs p hg hj hc hn hr hp hl)
theorem Rd.at1 {σ : AHeap} {i : Nat} {bv : AV} {bs : List Int} {p : Int} (h : Rd σ i bv bs p) : bv.lt σ.n = true := h.hb.lt
theorem zCfg_fn (σ : AHeap) (i : Nat) (bv : AV) (bs : List Int) (p : Int) (hr : Rd σ i bv bs p) (hp : p ≤ 999999000) : Fn Tryz.prog 159 [.ptr i 0] σ fun x τ => x = cV (1 + pickV bs p 3) (1 + pickV bs (p + 1) 3) (1 + pickV bs (p + 2) 3) ∧ τ = σ.set i ⟨[bv, .int .i64 (p + 3)], true⟩ := by
  refine fn_mut ord0 mixed Tryz.func159 (by kernel_rfl) rfl (by kernel_rfl) ?_ ?_ ?_ ?_
  · rfl
  · rfl
  · exact hr.mut _
  have q0 := pick_rng (bs := bs) (k := p) (n := 3) (by omega)
  have q1 := pick_rng (bs := bs) (k := p + 1) (n := 3) (by omega)
  have q2 := pick_rng (bs := bs) (k := p + 2) (n := 3) (by omega)
  have hp0 := hr.hp
  have hi := hr.hi
  simp (config := {contextual := true, maxSteps := 1000000}) (disch := first | exact dA | fail) [go_sem, envOf, wrap_i64, int_lt, -Int.not_le, -Int.not_lt, Bool.decide_and, Bool.decide_or, and_assoc, Bool.and_assoc, Bool.or_assoc, Prod.exists, Prod.forall]
@[go_sem] theorem zCfg_s (σ : AHeap) (i : Nat) (bv : AV) (bs : List Int) (p : Int) (hr : Rd σ i bv bs p) (hp : p ≤ 999999000) (kk_ : AV → AHeap → Prop) : @callP Tryz.prog (.fn 159 [] []) [.ptr i 0] σ ⟨kk_⟩ = @Alt (kk_ (cV (1 + pickV bs p 3) (1 + pickV bs (p + 1) 3) (1 + pickV bs (p + 2) 3)) (σ.set i ⟨[bv, .int .i64 (p + 3)], true⟩)) ⟨@callP Tryz.prog (.fn 159 [] []) [.ptr i 0] σ ⟨kk_⟩⟩ := callP_alt (zCfg_fn σ i bv bs p hr hp)
theorem zOpen_fn (σ : AHeap) (v : AV) (xs : List Int) (hv : LsV .u8 σ v xs) (hl : (xs.length : Int) ≤ 1000000000) (hx : ∀ j : Int, 0 ≤ at_ xs j ∧ at_ xs j ≤ 255) :
    Fn Tryz.prog 63 [v] σ fun x τ => ∃ bv bs, x = .ptr σ.n 0 ∧ τ = σ.push ⟨[bv, .int .i64 0], true⟩ ∧ LsV .u8 σ bv bs ∧ (bs.length : Int) ≤ 2000 ∧ ∀ j : Int, 0 ≤ at_ bs j ∧ at_ bs j ≤ 255 := by
  refine fn_of ord0 mixed Tryz.func63 (by kernel_rfl) rfl (by kernel_rfl) ?_
  have hL := hv.isL
  by_cases h : (xs.length : Int) ≤ 2000
  · simp (config := {contextual := true, maxSteps := 1000000}) (disch := first | exact dA | fail) [go_sem, envOf, wrap_i64, int_lt, -Int.not_le, -Int.not_lt, Bool.decide_and, Bool.decide_or, and_assoc, Bool.and_assoc, Bool.or_assoc, Prod.exists, Prod.forall, h]
    exact ⟨v, rfl, xs, hv, h, hx⟩
  · rcases hv.ex with ⟨rfl, rfl⟩ | ⟨i, k, rfl, hl'⟩
    · simp at h
    · simp (config := {contextual := true, maxSteps := 1000000}) (disch := first | exact dA | fail) [go_sem, envOf, wrap_i64, int_lt, -Int.not_le, -Int.not_lt, Bool.decide_and, Bool.decide_or, and_assoc, Bool.and_assoc, Bool.or_assoc, Prod.exists, Prod.forall, h]
      refine ⟨_, rfl, xs.take 2000, hv.take 2000 (by omega), by simp; omega, fun j => ?_⟩
      have := hx j
      unfold at_ at this ⊢
      rw [List.getD_eq_getElem?_getD] at this ⊢
      rw [List.getElem?_take]
      split
      · exact this
      · simp
end AH
/- THE ABSTRACT MACHINE: one more element at a list's end. -/
namespace AH
open Go Go.Proofs Ho
def appR (s : Option (Nat × Nat × List AV)) (v : AV × AHeap) [a : Kt (Option (AV × AHeap))] : Option (AV × AHeap) :=
  match s with
  | some (1, 8, _) => some v
  | some (1, 1, _) => some v
  | _ => a.val
theorem appR_8 (z : List AV) (v : AV × AHeap) (a : Option (AV × AHeap)) : @appR (some (1, 8, z)) v ⟨a⟩ = some v := _root_.id rfl
theorem appR_1 (z : List AV) (v : AV × AHeap) (a : Option (AV × AHeap)) : @appR (some (1, 1, z)) v ⟨a⟩ = some v := _root_.id rfl
theorem app_one {P : Program} {t : TypeId} {τ : AHeap} {q j n : Nat} {kk : IntKind} {x : Int} {xs : List Int} (hj : τ.get j = some ⟨[.int kk x], true⟩) (hq : τ.get q = some ⟨xs.map (.int kk), true⟩) (hn : xs.length = n) (hb : n ≤ 1000000) :
    aappend P t (.sl q 0 n 1) (.sl j 0 1 1) τ = @appR (tySlice P t) (.sl τ.n 0 (n + 1) 1, (τ.kill q).push ⟨(xs ++ [x]).map (.int kk), true⟩) ⟨aappend P t (.sl q 0 n 1) (.sl j 0 1 1) τ⟩ := by
  unfold appR
  have key : ∀ (b : Nat) (z : List AV), b ≤ 8 → tySlice P t = some (1, b, z) → aappend P t (.sl q 0 n 1) (.sl j 0 1 1) τ = some (.sl τ.n 0 (n + 1) 1, (τ.kill q).push ⟨(xs ++ [x]).map (.int kk), true⟩) := by
    intro b z hb8 h
    have e1 : aelems 1 (.sl j 0 1 1) τ = some [.int kk x] := by simp [aelems, hj, AV.one]
    have hm : (n + 1) * b ≤ 1000001 * 8 := Nat.mul_le_mul (by omega) hb8
    simp only [aappend, h, e1, alen, hq]
    rw [if_pos ⟨trivial, trivial, by simp [hn], by omega, by omega⟩]
    simp
  split
  · rename_i h; exact key 8 _ (by omega) h
  · rename_i h; exact key 1 _ (by omega) h
  · rfl
attribute [go_sem] app_one appR_8 appR_1
theorem lsv_new {kk : IntKind} {σ : AHeap} {xs : List Int} {n : Nat} (hn : xs.length = n) : LsV kk (σ.push ⟨xs.map (.int kk), true⟩) (.sl σ.n 0 n 1) xs := by
  subst hn
  exact LsV.own (rw := true) (by simp) (by simp [AHeap.push_get])
theorem lsv_at {kk : IntKind} {σ : AHeap} {q n : Nat} {xs : List Int} (hq : q < σ.n) (hg : σ.get q = some ⟨xs.map (.int kk), true⟩) (hn : xs.length = n) : LsV kk σ (.sl q 0 n 1) xs := by
  subst hn
  exact LsV.own hq hg
theorem ptrOf_elAt (v : AV) (i : Int) : ptrOf (elAt v i) = some (bOf v) := _root_.id rfl
attribute [go_sem] ptrOf_elAt
theorem LsV.kill {kk : IntKind} {σ : AHeap} {v : AV} {xs : List Int} {j : Nat} (h : LsV kk σ v xs) (hj : bOf v ≠ j ∨ v = .nils) : LsV kk (σ.kill j) v xs := by
  rcases h.ex with ⟨rfl, rfl⟩ | ⟨i, k, rfl, hl⟩
  · exact .nil
  · obtain ⟨h1, B, h2, h3⟩ := hl
    refine .mk' ⟨h1, B, ?_, h3⟩
    rcases hj with hj | hj
    · rw [kill_get_ne (by simpa [bOf] using hj)]; exact h2
    · cases hj
theorem LsV.bof {kk : IntKind} {σ : AHeap} {v : AV} {xs : List Int} {n : Nat} (h : LsV kk σ v xs) (hl : v.lt n = true) : bOf v < n ∨ v = .nils := by
  rcases h.ex with ⟨rfl, rfl⟩ | ⟨i, k, rfl, _⟩
  · exact .inr rfl
  · left; simpa [AV.lt, bOf] using hl
theorem Rd.kill {σ : AHeap} {i j : Nat} {bv : AV} {bs : List Int} {p : Int} (h : Rd σ i bv bs p) (hj : i ≠ j) (hb : bOf bv ≠ j ∨ bv = .nils) : Rd (σ.kill j) i bv bs p :=
  ⟨h.hi, by rw [kill_get_ne hj]; exact h.hg, h.hb.kill hb, h.ne, h.by', h.len, h.hp⟩
theorem at_snoc {l : List Int} {x : Int} {P : Int → Prop} (h : ∀ j : Int, 0 ≤ j → j < l.length → P (at_ l j)) (hx : P x) : ∀ j : Int, 0 ≤ j → j < (l ++ [x]).length → P (at_ (l ++ [x]) j) := by
  intro j j0 j1
  by_cases e : j < l.length
  · have : at_ (l ++ [x]) j = at_ l j := by
      unfold at_; rw [List.getD_eq_getElem?_getD, List.getD_eq_getElem?_getD, List.getElem?_append_left (by omega)]
    rw [this]; exact h j j0 e
  · have : at_ (l ++ [x]) j = x := by
      simp at j1
      unfold at_; rw [List.getD_eq_getElem?_getD, List.getElem?_append_right (by omega), show j.toNat - l.length = 0 by omega]; rfl
    rw [this]; exact hx
end AH
/- CONTRACTS OF THE REFERENCE: the rooms of a slot. -/
namespace AH
open Go Go.Proofs Ho
set_option maxRecDepth 20000
set_option maxHeartbeats 8000000
theorem BkV.keeps {σ τ : AHeap} {b : Bk} {pv h0 h1 h2 h3 ov iv ev : AV} (h : BkV σ b pv h0 h1 h2 h3 ov iv ev) (hk : Keeps σ.n σ τ) (hn : σ.n ≤ τ.n) : BkV τ b pv h0 h1 h2 h3 ov iv ev :=
  ⟨h.p.keeps hk h.p.lt hn, h.h0.keeps hk h.h0.lt hn, h.h1.keeps hk h.h1.lt hn, h.h2.keeps hk h.h2.lt hn, h.h3.keeps hk h.h3.lt hn, h.o.keeps hk h.o.lt hn, h.i.keeps hk h.i.lt hn, h.e.keeps hk h.e.lt hn⟩
theorem zBOf_fn (σ : AHeap) (b : Bk) (pv h0 h1 h2 h3 ov iv ev : AV) (slot : Int) (hb : BkV σ b pv h0 h1 h2 h3 ov iv ev) (hs : BkS b) (h : -1000000 ≤ slot ∧ slot ≤ 1000000) :
    Fn Tryz.prog 167 [bV b pv h0 h1 h2 h3 ov iv ev, .int .i64 slot] σ fun x τ => x = .sl σ.n 0 (bookOf b slot).length 1 ∧ τ = σ.push ⟨(bookOf b slot).map (.int .i64), true⟩ := by
  have key := fn_fresh (args := [bV b pv h0 h1 h2 h3 ov iv ev, .int .i64 slot]) (σ := σ) (xs := (bookOf b slot).map (.int .i64)) ord0 mixed Tryz.func167 (by kernel_rfl) rfl (by kernel_rfl) (lts_ints _ _ _) ?_
  · simpa using key
  generalize hL : bookOf b slot = L
  have hb' := hb
  have hs' := hs
  obtain ⟨vp, _, _, _, _, vo, _, _⟩ := hb
  obtain ⟨_, ⟨sp, sp'⟩, _, ⟨so, so'⟩, _, _⟩ := hs
  simp (config := {contextual := true, maxSteps := 1000000}) (disch := first | exact dA | fail) [go_sem, envOf, wrap_i64, int_lt, -Int.not_le, -Int.not_lt, Bool.decide_and, Bool.decide_or, and_assoc, Bool.and_assoc, Bool.or_assoc, Prod.exists, Prod.forall]
  refine aloops_lt (fun R_ env τ => ∃ (u : Int), ∃ (q : Nat), ∃ (l : List Int), env 6 = .int .i64 u ∧ env 5 = .sl q 0 l.length 1 ∧ env 1 = .int .i64 slot ∧ env 2 = .ptr σ.n 0 ∧ R_ ((b.owner.length - u).toNat) ∧ (σ.n < q ∧ q < τ.n) ∧ (τ.get q = some ⟨l.map (.int .i64), true⟩) ∧ (τ.get σ.n = some ⟨[.int .i64 b.slots, pv, h0, h1, h2, h3, ov, iv, ev], true⟩) ∧ (BkV τ b pv h0 h1 h2 h3 ov iv ev) ∧ (Keeps σ.n σ τ) ∧ (0 ≤ u ∧ u ≤ b.owner.length) ∧ ((l.length : Int) ≤ u) ∧ (bookP b → L = l ++ (if 0 ≤ slot then ownedFrom (b.owner.drop u.toNat) (slot + 1) u else [])) ∧ (¬ bookP b → l = [])) (by rintro R_ env τ ⟨u, q, l, e6, e5, e1, e2, hR_, hq, gq, g0, hv', hk, hu, hl, hL', hn⟩; exact ⟨_, hR_, u, q, l, e6, e5, e1, e2, rfl, hq, gq, g0, hv', hk, hu, hl, hL', hn⟩) ⟨0, σ.n + 1, [], by first | rfl | simp [put_get, *], by first | rfl | simp [put_get, *], by first | rfl | simp [put_get, *], by first | rfl | simp [put_get, *], trivial, ?_, ?_, ?_, ?_, ?_, ?_, ?_, ?_, ?_⟩ ?_
  rotate_left 9
  rintro m_ env τ ⟨u, q, l, e6, e5, e1, e2, rfl, hq, gq, g0, hv', hk, hu, hl, hL', hn⟩
  · have vo' := hv'.o
    have hbo : bOf ov ≠ q ∨ ov = .nils := by rcases vo.bof vo.lt with h | h; exact .inl (by omega); exact .inr h
    have hu1 := hu.1
    simp (config := {contextual := true, maxSteps := 1000000}) (disch := first | exact dA | fail) [go_sem, envOf, wrap_i64, int_lt, -Int.not_le, -Int.not_lt, Bool.decide_and, Bool.decide_or, and_assoc, Bool.and_assoc, Bool.or_assoc, Prod.exists, Prod.forall, e1, e2, e5, e6, gq, g0]
    have hT : ∀ A B, Keeps σ.n σ (((τ.kill q).push A).push B) := by
      intro A B j hj
      rw [push_get_lt (by simp; omega), push_get_lt (by simp; omega), kill_get_ne (by omega)]
      exact hk j hj
    refine Alt.mk ⟨fun hbk hul => ⟨fun hx hsl => ?_, fun hx => ?_⟩, fun hex => ?_⟩
    · have hL2 := hL' hbk
      rw [if_pos hsl, drop_at hu.1 (by omega)] at hL2
      simp only [ownedFrom, hx, if_true] at hL2
      exact ⟨l ++ [u], by simp, by omega, by omega, by simp, hb'.keeps (hT _ _) (by simp; omega), hk, by omega, by omega, by simp; omega, by rw [hL2]; simp⟩
    · have hL2 := hL' hbk
      refine ⟨l, rfl, by omega, hq.1, hq.2, rfl, hv', hk, by omega, by omega, by omega, ?_⟩
      rw [hL2, drop_at hu.1 (by omega)]
      by_cases hsl : 0 ≤ slot
      · rw [if_pos hsl, if_pos hsl]
        simp only [ownedFrom]
        rw [if_neg (fun h => hx h hsl)]
      · rw [if_neg hsl, if_neg hsl]
    · have hLl : L = l := by
        by_cases hbk : bookP b
        · rw [hL' hbk, drop_hi (hex hbk)]
          simp [ownedFrom]
        · rw [hn hbk, ← hL]
          unfold bookOf
          rw [if_neg (fun h => hbk h.1)]
      rw [hLl]
      exact ⟨hk, rfl, by omega, Nat.le_refl _, by rw [List.take_of_length_le (by simp)]⟩
  · exact ⟨by omega, by simp⟩
  · simp +arith [AHeap.push_get]
  · simp +arith [AHeap.push_get]
  · exact hb'.push.push
  · simp (config := {contextual := true, maxSteps := 1000000}) (disch := first | exact dA | fail) [go_sem, envOf, wrap_i64, int_lt, -Int.not_le, -Int.not_lt, Bool.decide_and, Bool.decide_or, and_assoc, Bool.and_assoc, Bool.or_assoc, Prod.exists, Prod.forall]
  · exact ⟨by omega, by omega⟩
  · simp
  · intro hbk
    rw [← hL]
    unfold bookOf
    by_cases hsl : 0 ≤ slot
    · rw [if_pos ⟨hbk, hsl⟩, if_pos hsl]; simp
    · rw [if_neg (fun h => hsl h.2), if_neg hsl]; simp
  · intro _; rfl
end AH
