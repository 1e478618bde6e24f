import Derived.Test.YtagihpbpblnnoaaGreatD47
import Derived.Test.YtagihpbpblnnoaaGreatQ48
import Derived.Test.YtagihpbpblnnoaaGreatQ16
set_option linter.all false
namespace AH
open Go Go.Proofs Ho
set_option maxRecDepth 20000
set_option maxHeartbeats 16000000
def worldP (ws : List Int) (gs : List Guest) : Prop := (check ws).2 = true ∧ gs.length ≤ 6 ∧ ∀ g ∈ gs, guestP (check ws).1 g
noncomputable instance (ws : List Int) (gs : List Guest) : Decidable (worldP ws gs) := Classical.propDecidable _
theorem zWOk_fn (σ : AHeap) (lo : Nat) (B : Int) (j : Nat) (v : AV) (gb : Nat) (ws : List Int) (gs : List (Guest × AV × AV)) (h : WAt σ lo B j v gb ws gs) :
    Fn Tryz.prog 37 [.agg [.sl j 0 ws.length 1, v]] σ fun x τ => x = .bool (decide (worldP ws (gs.map (·.1)))) ∧ τ = σ := by
  refine fn_pure ord37 mixed Tryz.func37 (by kernel_rfl) rfl (by kernel_rfl) (by rfl) ?_
  obtain ⟨hj, hw, lj, lg, W, len, l2, m6, hv, G, hB0⟩ := h
  have hvl := lsv_at hj hw rfl
  obtain ⟨⟨r1, r2⟩, ⟨r3, r4⟩, r5, r6⟩ := check_rng ws
  generalize hb : decide (worldP ws (gs.map (·.1))) = b
  by_cases hc : (check ws).2 = true
  · cases hv with
    | none =>
      have hbt : b = true := by rw [← hb]; exact decide_eq_true ⟨hc, by simp, by simp⟩
      subst hbt
      simp (config := {contextual := true, maxSteps := 1000000}) (disch := first | exact dB | fail) [go_sem, envOf, wrap_i64, int_lt, -Int.not_le, -Int.not_lt, Bool.decide_and, Bool.decide_or, and_assoc, Bool.and_assoc, Bool.or_assoc, Prod.exists, Prod.forall, -List.map_set, set_put, ord37, hc]
      (repeat refine Alt.mk ?_)
      refine ⟨1, ?_⟩
      simp (config := {contextual := true, maxSteps := 1000000}) (disch := first | exact dB | fail) [go_sem, envOf, wrap_i64, int_lt, -Int.not_le, -Int.not_lt, Bool.decide_and, Bool.decide_or, and_assoc, Bool.and_assoc, Bool.or_assoc, Prod.exists, Prod.forall, -List.map_set, set_put, ord37, aloop_s]
    | @some gb m gs h0 h1 h2 h3 h4 =>
      have hm6 : (m : Int) ≤ 6 := by omega
      have hbt : (∀ g ∈ gs.map (·.1), guestP (check ws).1 g) → b = true := fun hh => by rw [← hb]; exact decide_eq_true ⟨hc, by simp; omega, hh⟩
      have hbf : ∀ g ∈ gs.map (·.1), ¬ guestP (check ws).1 g → b = false := fun g hg hn => by rw [← hb]; exact decide_eq_false (fun h => hn (h.2.2 g hg))
      clear hb
      obtain ⟨C, hC⟩ : ∃ C, (check ws).1 = C := ⟨_, rfl⟩
      have hCk : (check ws).2 = true := hc
      rw [hC] at r1 r2 r3 r4 r5 r6 hbt hbf
      simp (config := {contextual := true, maxSteps := 1000000}) (disch := first | exact dB | fail) [go_sem, envOf, wrap_i64, int_lt, -Int.not_le, -Int.not_lt, Bool.decide_and, Bool.decide_or, and_assoc, Bool.and_assoc, Bool.or_assoc, Prod.exists, Prod.forall, -List.map_set, set_put, ord37, hc, hm6, hC]
      (repeat refine Alt.mk ?_)
      refine aloops_lt (fun R_ env τ => ∃ (u : Nat), env 1 = .ptr σ.n 0 ∧ env 3 = .ptr (σ.n + 1) 0 ∧ env 5 = .int .i64 u ∧ (σ.push ⟨[.sl j 0 ws.length 1, .sl gb 0 m 26], true⟩).push ⟨[.int .i64 C.slots, .int .i64 C.pages, .int .i64 C.lease], true⟩ = τ ∧ R_ (m - u) ∧ (u ≤ m ∧ (∀ k, k < u → ∀ x, gs[k]? = some x → guestP C x.1))) (by rintro R_ env τ ⟨u, e1, e3, e5, h_, hR_, hp⟩; exact ⟨_, hR_, u, e1, e3, e5, h_, rfl, hp⟩) ⟨0, by first | rfl | simp [put_get, *], by first | rfl | simp [put_get, *], by first | rfl | simp [put_get, *], rfl, trivial, ?_⟩ ?_
      rotate_left
      rintro m_ env τ ⟨u, e1, e3, e5, rfl, rfl, hp⟩
      · obtain ⟨um, hI⟩ := hp
        by_cases hu : u < m
        · have hu2 : ¬ m ≤ u := by omega
          obtain ⟨⟨g, sv, pv⟩, hx⟩ : ∃ x, gs[u]? = some x := ⟨gs[u]'(by omega), by simp⟩
          have hsub := gCells_sub hx
          have hlen : u * 26 + 26 ≤ (gCells gs).length := by rw [gCells_len]; omega
          have hGA := G _ (List.mem_of_getElem? hx)
          have l1 : LenIs sv g.snap.length := hGA.s.lenIs
          have l3 : LenIs pv g.plan.length := hGA.p.lenIs
          have hgm : g ∈ gs.map (·.1) := List.mem_map.2 ⟨_, List.mem_of_getElem? hx, rfl⟩
          by_cases hg : guestP C g
          · simp (config := {contextual := true, maxSteps := 1000000}) (disch := first | exact dB | fail) [go_sem, envOf, wrap_i64, int_lt, -Int.not_le, -Int.not_lt, Bool.decide_and, Bool.decide_or, and_assoc, Bool.and_assoc, Bool.or_assoc, Prod.exists, Prod.forall, -List.map_set, set_put, ord37, e1, e3, e5, h4, hsub, hlen, hu, hu2, hg]
            (repeat refine Alt.mk ?_)
            refine ⟨u + 1, by omega, by omega, by omega, ?_⟩
            intro k hk a sv' pv' hka
            rcases Nat.lt_or_ge k u with hk' | hk'
            · exact hI k hk' _ hka
            · have : k = u := by omega
              subst this
              rw [hx] at hka
              cases hka
              exact hg
          · have hbf' := hbf g hgm hg
            subst hbf'
            simp (config := {contextual := true, maxSteps := 1000000}) (disch := first | exact dB | fail) [go_sem, envOf, wrap_i64, int_lt, -Int.not_le, -Int.not_lt, Bool.decide_and, Bool.decide_or, and_assoc, Bool.and_assoc, Bool.or_assoc, Prod.exists, Prod.forall, -List.map_set, set_put, ord37, e1, e3, e5, h4, hsub, hlen, hu, hu2, hg]
        · have hu2 : m ≤ u := by omega
          have hbt' : b = true := by
            apply hbt
            intro g hg
            obtain ⟨x, hx, rfl⟩ := List.mem_map.1 hg
            obtain ⟨k, hk, hkx⟩ := List.mem_iff_getElem.1 hx
            exact hI k (by omega) x (by rw [List.getElem?_eq_getElem hk, hkx])
          subst hbt'
          simp (config := {contextual := true, maxSteps := 1000000}) (disch := first | exact dB | fail) [go_sem, envOf, wrap_i64, int_lt, -Int.not_le, -Int.not_lt, Bool.decide_and, Bool.decide_or, and_assoc, Bool.and_assoc, Bool.or_assoc, Prod.exists, Prod.forall, -List.map_set, set_put, ord37, e1, e3, e5, hu, hu2]
      · exact ⟨Nat.zero_le _, fun k hk => by omega⟩
  · have hbf : b = false := by rw [← hb]; exact decide_eq_false (fun h => hc h.1)
    have hc' : (check ws).2 = false := by simpa using hc
    subst hbf
    simp (config := {contextual := true, maxSteps := 1000000}) (disch := first | exact dB | fail) [go_sem, envOf, wrap_i64, int_lt, -Int.not_le, -Int.not_lt, Bool.decide_and, Bool.decide_or, and_assoc, Bool.and_assoc, Bool.or_assoc, Prod.exists, Prod.forall, -List.map_set, set_put, ord37, hc']
end AH
/- CONTRACTS OF THE REFERENCE: a world, and what comes of an event. -/
namespace AH
open Go Go.Proofs Ho
set_option maxRecDepth 20000
set_option maxHeartbeats 16000000
end AH
/- CONTRACTS OF THE REFERENCE: the book of a world. -/
namespace AH
open Go Go.Proofs Ho
set_option maxRecDepth 20000
set_option maxHeartbeats 16000000
noncomputable def wBook (ws : List Int) (gs : List Guest) : Bk × Bool := if worldP ws gs then censTrue ws else (Bk.zero, false)
theorem zWBook_fn (σ : AHeap) (lo : Nat) (B : Int) (j : Nat) (v : AV) (gb : Nat) (ws : List Int) (gs : List (Guest × AV × AV)) (h : WAt σ lo B j v gb ws gs) :
    Fn Tryz.prog 165 [.agg [.sl j 0 ws.length 1, v]] σ fun x τ => BkC σ τ (wBook ws (gs.map (·.1))) x := by
  generalize hG : (fun (x : AV) (τ : AHeap) => BkC σ τ (wBook ws (gs.map (·.1))) x) = GG
  have iv := h.isL
  refine fn_of ord0 mixed Tryz.func165 (by kernel_rfl) rfl (by kernel_rfl) ?_
  simp (config := {contextual := true, maxSteps := 1000000}) (disch := first | exact dB | fail) [go_sem, envOf, wrap_i64, int_lt, -Int.not_le, -Int.not_lt, Bool.decide_and, Bool.decide_or, and_assoc, Bool.and_assoc, Bool.or_assoc, Prod.exists, Prod.forall, -List.map_set, set_put]
  (repeat refine Alt.mk ?_)
  refine callP_gen (fun σ1 => σ.n + 1 < σ1.n ∧ (∀ y, y < σ.n → σ1.get y = σ.get y) ∧ σ1.get (σ.n + 1) = some ⟨[.int .i64 0, .nils, .nils, .nils, .nils, .nils, .nils, .nils, .nils], true⟩ ∧ σ1.get σ.n = some ⟨[.sl j 0 ws.length 1, v], true⟩) ?_ ?_
  · exact ⟨by simp only [push_n', set_n']; omega, by first | exact cKP | fail, by (first | exact cGT | fail), by (first | exact cGT | fail)⟩
  rintro σ1 ⟨x1, x2, x3, x4⟩
  have hn1 : σ.n ≤ σ1.n := by omega
  have h1 := h.frame hn1 x2
  have hvl := lsv_at h1.hj h1.hw rfl
  refine callP_use (zWOk_fn σ1 lo B j v gb ws gs h1) ?_
  rintro x τ hn ⟨rfl, rfl⟩
  by_cases hP : worldP ws (gs.map (·.1))
  · have hb : wBook ws (gs.map (·.1)) = censTrue ws := if_pos hP
    rw [decide_eq_true hP]
    simp (config := {contextual := true, maxSteps := 1000000}) (disch := first | exact dB | fail) [go_sem, envOf, wrap_i64, int_lt, -Int.not_le, -Int.not_lt, Bool.decide_and, Bool.decide_or, and_assoc, Bool.and_assoc, Bool.or_assoc, Prod.exists, Prod.forall, -List.map_set, set_put, x3, x4]
    (repeat refine Alt.mk ?_)
    refine callP_use (zCensTrue_fn τ (.sl j 0 ws.length 1) ws hvl h.W h.len) ?_
    rintro x τ2 hn2 ⟨pv, k0, k1, k2, k3, ov, iv', ev, rfl, y2, y3, y1, y4⟩
    have z3 := (y3 _ x1).trans x3
    have b1 := y2.p.isL
    have b2 := y2.h0.isL
    have b3 := y2.h1.isL
    have b4 := y2.h2.isL
    have b5 := y2.h3.isL
    have b6 := y2.o.isL
    have b7 := y2.i.isL
    have b8 := y2.e.isL
    simp (config := {contextual := true, maxSteps := 1000000}) (disch := first | exact dB | fail) [go_sem, envOf, wrap_i64, int_lt, -Int.not_le, -Int.not_lt, Bool.decide_and, Bool.decide_or, and_assoc, Bool.and_assoc, Bool.or_assoc, Prod.exists, Prod.forall, -List.map_set, set_put, z3]
    (repeat refine Alt.mk ?_)
    rw [← hG]
    show BkC _ _ _ _
    rw [hb]
    refine ⟨pv, k0, k1, k2, k3, ov, iv', ev, rfl, y2.set_ap (y4 _ x1), fun y yy => ?_, ?_, fun y yy => y4 y (by omega)⟩
    · rw [set_get_ne (by omega), y3 y (by omega), x2 y yy]
    · simp only [set_n']; omega
  · have hb : wBook ws (gs.map (·.1)) = (Bk.zero, false) := if_neg hP
    rw [decide_eq_false hP]
    simp (config := {contextual := true, maxSteps := 1000000}) (disch := first | exact dB | fail) [go_sem, envOf, wrap_i64, int_lt, -Int.not_le, -Int.not_lt, Bool.decide_and, Bool.decide_or, and_assoc, Bool.and_assoc, Bool.or_assoc, Prod.exists, Prod.forall, -List.map_set, set_put, x3, x4]
    (repeat refine Alt.mk ?_)
    rw [← hG]
    show BkC _ _ _ _
    refine BkC.zero hb (fun y yy => ?_) ?_
    · first
        | exact x2 y yy
        | (rw [set_get_ne (by omega)]; exact x2 y yy)
    · simp only [set_n']; omega
end AH
/- CONTRACTS OF THE REFERENCE: what an event drawn is. -/
namespace AH
open Go Go.Proofs Ho
set_option maxRecDepth 20000
set_option maxHeartbeats 16000000
/-- An event that was drawn: the reader has gone on, nothing else is changed. -/
def EvR (σ : AHeap) (i : Nat) (bv : AV) (bs : List Int) (p : Int) (x : AV) (τ : AHeap) : Prop :=
  ∃ e q, x = .agg (evV e) ∧ p ≤ q ∧ q ≤ p + 60 ∧ Rd τ i bv bs q ∧ σ.n ≤ τ.n ∧ ∀ y, y < σ.n → NE y i → τ.get y = σ.get y
theorem Rd.go {σ τ : AHeap} {i : Nat} {bv : AV} {bs : List Int} {p q : Int} (h : Rd σ i bv bs p) (hn : σ.n ≤ τ.n) (hg : τ.get i = some ⟨[bv, .int .i64 q], true⟩) (hf : ∀ y, y < σ.n → NE y i → τ.get y = σ.get y) (hq : 0 ≤ q ∧ q ≤ 1000000000) : Rd τ i bv bs q := by
  obtain ⟨a1, a2, a3, a4, a5, a6, a7⟩ := h
  refine ⟨by omega, hg, ?_, a4, a5, a6, hq⟩
  rcases a3.ex with ⟨rfl, rfl⟩ | ⟨y, k, rfl, hi, Bk, hb, hc⟩
  · exact .nil
  · rcases a4 with a4 | a4
    · simp only [bOf] at a4
      exact .mk' ⟨by omega, Bk, by rw [hf y hi a4]; exact hb, hc⟩
    · cases a4
theorem EvR.mk {σ τ : AHeap} {i : Nat} {bv : AV} {bs : List Int} {p : Int} (h : Rd σ i bv bs p) (hp : p ≤ 999999900) (k w n o a b q : Int) (h1 : p ≤ q) (h2 : q ≤ p + 60) (hn : σ.n ≤ τ.n) (hg : τ.get i = some ⟨[bv, .int .i64 q], true⟩) (hf : ∀ y, y < σ.n → NE y i → τ.get y = σ.get y) :
    EvR σ i bv bs p (.agg [.int .i64 k, .int .i64 w, .int .i64 n, .int .i64 o, .int .i64 a, .int .i64 b]) τ :=
  ⟨⟨k, w, n, o, a, b⟩, q, rfl, h1, h2, h.go hn hg hf (by have := h.hp; omega), hn, hf⟩
end AH
/- CONTRACTS OF THE REFERENCE: a world is where it was. -/
namespace AH
open Go Go.Proofs Ho
set_option maxRecDepth 20000
set_option maxHeartbeats 16000000
theorem LsV.aft {σ τ : AHeap} {lo z : Nat} {v : AV} {l : List Int} (h : LsV .u64 σ v l) (hn : σ.n ≤ τ.n) (a1 : ApV v z) (a2 : lo ≤ bOf v ∨ v = .nils) (hf : ∀ y, lo ≤ y → y < σ.n → NE y z → τ.get y = σ.get y) : LsV .u64 τ v l := by
  rcases h.ex with ⟨rfl, rfl⟩ | ⟨i, k, rfl, hi, Bk, hb, hc⟩
  · exact .nil
  · rcases a1 with a1 | a1
    · rcases a2 with a2 | a2
      · simp only [bOf] at a1 a2
        exact .mk' ⟨by omega, Bk, by rw [hf i a2 hi a1]; exact hb, hc⟩
      · cases a2
    · cases a1
theorem WAt.aft {σ τ : AHeap} {lo : Nat} {B : Int} {j : Nat} {v : AV} {gb : Nat} {ws : List Int} {gs : List (Guest × AV × AV)} (h : WAt σ lo B j v gb ws gs) {z : Nat} (hn : σ.n ≤ τ.n) (hz1 : NE j z) (hz2 : NE gb z) (ha : Apt z gs) (hf : ∀ y, lo ≤ y → y < σ.n → NE y z → τ.get y = σ.get y) : WAt τ lo B j v gb ws gs := by
  obtain ⟨a1, a2, a3, a4, a5, a6, l2, a7, a8, a9, a0⟩ := h
  refine ⟨by omega, (hf j a3 a1 hz1).trans a2, a3, a4, a5, a6, l2, a7, ?_, fun x hx => ?_, a0⟩
  · cases a8 with
    | none => exact .none
    | some h0 h1 h2 h3 h4 => exact .some h0 h1 (by omega) h3 ((hf gb a4 h2 hz2).trans h4)
  · obtain ⟨b1, b2⟩ := ha x hx
    have hg := a9 x hx
    exact ⟨hg.gi, hg.s.aft hn b1 hg.sl hf, hg.p.aft hn b2 hg.pl hf, hg.sj, hg.pj, hg.sg, hg.pg, hg.sl, hg.pl, hg.idl⟩
theorem WAt.low_apt {σ : AHeap} {lo : Nat} {B : Int} {j : Nat} {v : AV} {gb : Nat} {ws : List Int} {gs : List (Guest × AV × AV)} (h : WAt σ lo B j v gb ws gs) {z : Nat} (hz : z < lo) : Apt z gs := by
  intro x hx
  refine ⟨?_, ?_⟩
  · rcases (h.G x hx).sl with h | h
    · exact .inl (by omega)
    · exact .inr h
  · rcases (h.G x hx).pl with h | h
    · exact .inl (by omega)
    · exact .inr h
theorem WAt.past {σ τ : AHeap} {lo : Nat} {B : Int} {j : Nat} {v : AV} {gb : Nat} {ws : List Int} {gs : List (Guest × AV × AV)} (h : WAt σ lo B j v gb ws gs) {z : Nat} (hz : z < lo) (hn : σ.n ≤ τ.n) (hf : ∀ y, y < σ.n → NE y z → τ.get y = σ.get y) : WAt τ lo B j v gb ws gs := by
  have h1 := h.lj
  have h2 := h.lg
  exact h.aft (z := z) hn (by simp only [NE]; omega) (by simp only [NE]; omega) (h.low_apt hz) (fun y _ y2 y3 => hf y y2 y3)
end AH
/- CONTRACTS OF THE REFERENCE: a world that may be bent. -/
namespace AH
open Go Go.Proofs Ho
set_option maxRecDepth 20000
set_option maxHeartbeats 16000000
/-- What is true of a guest that was bent. -/
structure GW (B : Int) (g : Guest) : Prop where
  slot : 0 ≤ g.slot ∧ g.slot ≤ 10
  epoch : 0 ≤ g.epoch ∧ g.epoch ≤ 4095
  pc : 0 ≤ g.pc ∧ g.pc ≤ 26
  gk : 0 ≤ g.gk ∧ g.gk ≤ B
  gn : 0 ≤ g.gn ∧ g.gn ≤ 20
  seq : 0 ≤ g.seq ∧ g.seq ≤ 4294967295
  who : 0 ≤ g.who ∧ g.who ≤ 7
  whoE : 0 ≤ g.whoE ∧ g.whoE ≤ 4095
  time : 0 ≤ g.time ∧ g.time ≤ 1048575
  count : 0 ≤ g.count ∧ g.count ≤ B
  next : 0 ≤ g.next ∧ g.next ≤ 4095
  was : isW g.was
  door : isW g.door
  beat : isW g.beat
  entry : isW g.entry
  snapW : ∀ w ∈ g.snap, isW w
  planW : ∀ w ∈ g.plan, isW w
  snap : (g.snap.length : Int) ≤ B
  plan : (g.plan.length : Int) ≤ 20
  own : g.own = true → g.gn = g.plan.length
theorem GI.weak {B : Int} {g : Guest} (h : GI B g) : GW B g := by
  obtain ⟨h1, h2, h3, h4, h5, h6, h7, h8, h9, h10, h11, h12, h13, h14, h15, h16, h17, h18, h19, h20, h21, h22, h23, h24⟩ := h
  exact ⟨h1, h2, h3, h4, h5, h6, h7, h8, h9, h10, h11, h12, h13, h14, h15, h16, h17, h18, h19, fun h => (h24 h).2.2⟩
theorem GW.ok {B : Int} {g : Guest} {c : Cfg} (h : GW B g) (hg : guestP c g) : GI B g := by
  obtain ⟨h1, h2, h3, h4, h5, h6, h7, h8, h9, h10, h11, h12, h13, h14, h15, h16, h17, h18, h19, h20⟩ := h
  obtain ⟨⟨o1, o2, o3, o4, o5, o6⟩, p2, p3, p4, p5⟩ := hg
  have hh : house c = 7 + 2 * c.slots + 17 * c.pages := rfl
  unfold placeP at p5
  refine ⟨h1, h2, h3, h4, h5, h6, h7, h8, h9, h10, h11, h12, h13, h14, h15, h16, h17, h18, h19, ?_, ?_, ?_, ?_, ?_⟩
  · intro hb
    have := p2.1 hb
    omega
  · intro hp
    split at p5
    · exact p5.elim
    · first | exact p5.1 | (simp [hp] at p5; omega)
  · intro hp
    split at p5
    · exact p5.elim
    · first | omega | (simp [hp] at p5; omega)
  · intro hp
    split at p5
    · exact p5.elim
    · first | exact p5 | (rcases hp with hp | hp <;> (simp [hp] at p5; omega))
  · intro ho
    split at p5
    · exact p5.elim
    · rename_i hn
      have h20' := h20 ho
      refine ⟨?_, ?_, h20'⟩
      · exact Int.not_lt.1 fun hh => hn ⟨ho, .inl hh⟩
      · exact Int.not_lt.1 fun hh => hn ⟨ho, .inr hh⟩
/-- A guest of a world that may be bent. -/
structure GAb (τ : AHeap) (lo : Nat) (B : Int) (j gb : Nat) (x : Guest × AV × AV) : Prop where
  gi : GW B x.1
  s : LsV .u64 τ x.2.1 x.1.snap
  p : LsV .u64 τ x.2.2 x.1.plan
  sj : ApV x.2.1 j
  pj : ApV x.2.2 j
  sg : ApV x.2.1 gb
  pg : ApV x.2.2 gb
  sl : lo ≤ bOf x.2.1 ∨ x.2.1 = .nils
  pl : lo ≤ bOf x.2.2 ∨ x.2.2 = .nils
  idl : Idl x.1
/-- A world that may be bent, as it lies. -/
structure WBt (τ : AHeap) (lo : Nat) (B : Int) (j : Nat) (v : AV) (gb : Nat) (ws : List Int) (gs : List (Guest × AV × AV)) : Prop where
  hj : j < τ.n
  hw : τ.get j = some ⟨ws.map (.int .u64), true⟩
  lj : lo ≤ j
  lg : lo ≤ gb
  W : ∀ w ∈ ws, isW w
  len : (ws.length : Int) ≤ 1000000
  l2 : 2 ≤ ws.length
  m7 : gs.length ≤ 7
  hv : GB τ j v gb gs
  G : ∀ x ∈ gs, GAb τ lo B j gb x
  B : B ≤ 900000
theorem GA.weak {τ : AHeap} {lo : Nat} {B : Int} {j gb : Nat} {x : Guest × AV × AV} (h : GA τ lo B j gb x) : GAb τ lo B j gb x :=
  ⟨GI.weak h.gi, h.s, h.p, h.sj, h.pj, h.sg, h.pg, h.sl, h.pl, h.idl⟩
theorem WAt.weak {τ : AHeap} {lo : Nat} {B : Int} {j : Nat} {v : AV} {gb : Nat} {ws : List Int} {gs : List (Guest × AV × AV)} (h : WAt τ lo B j v gb ws gs) : WBt τ lo B j v gb ws gs :=
  ⟨h.hj, h.hw, h.lj, h.lg, h.W, h.len, h.l2, by have := h.m6; omega, h.hv, fun x hx => (h.G x hx).weak, h.B⟩
theorem WBt.ok {τ : AHeap} {lo : Nat} {B : Int} {j : Nat} {v : AV} {gb : Nat} {ws : List Int} {gs : List (Guest × AV × AV)} (h : WBt τ lo B j v gb ws gs) (hP : worldP ws (gs.map (·.1))) : WAt τ lo B j v gb ws gs := by
  obtain ⟨a1, a2, a3, a4, a5, a6, l2, a7, a8, a9, a0⟩ := h
  refine ⟨a1, a2, a3, a4, a5, a6, l2, by simpa using hP.2.1, a8, fun x hx => ?_, a0⟩
  obtain ⟨b1, b2, b3, b4, b5, b6, b7, b8, b9, b10⟩ := a9 x hx
  exact ⟨b1.ok (hP.2.2 x.1 (List.mem_map.2 ⟨x, hx, rfl⟩)), b2, b3, b4, b5, b6, b7, b8, b9, b10⟩
theorem GAb.frame {σ τ : AHeap} {lo : Nat} {B : Int} {j gb : Nat} {x : Guest × AV × AV} (h : GAb σ lo B j gb x) (hn : σ.n ≤ τ.n) (hf : ∀ y, y < σ.n → τ.get y = σ.get y) : GAb τ lo B j gb x :=
  ⟨h.gi, h.s.frame hn hf, h.p.frame hn hf, h.sj, h.pj, h.sg, h.pg, h.sl, h.pl, h.idl⟩
theorem WBt.frame {σ τ : AHeap} {lo : Nat} {B : Int} {j : Nat} {v : AV} {gb : Nat} {ws : List Int} {gs : List (Guest × AV × AV)} (h : WBt σ lo B j v gb ws gs) (hn : σ.n ≤ τ.n) (hf : ∀ y, y < σ.n → τ.get y = σ.get y) : WBt τ lo B j v gb ws gs := by
  obtain ⟨a1, a2, a3, a4, a5, a6, l2, a7, a8, a9, a0⟩ := h
  refine ⟨by omega, (hf j a1).trans a2, a3, a4, a5, a6, l2, a7, ?_, fun x hx => (a9 x hx).frame hn hf, a0⟩
  cases a8 with
  | none => exact .none
  | some h0 h1 h2 h3 h4 => exact .some h0 h1 (by omega) h3 ((hf gb h2).trans h4)
theorem WBt.isL {σ : AHeap} {lo : Nat} {B : Int} {j : Nat} {v : AV} {gb : Nat} {ws : List Int} {gs : List (Guest × AV × AV)} (h : WBt σ lo B j v gb ws gs) : IsL v := by
  cases h.hv with
  | none => exact isL_nils
  | some => exact isL_sl _ _ _ _
theorem WBt.past {σ τ : AHeap} {lo : Nat} {B : Int} {j : Nat} {v : AV} {gb : Nat} {ws : List Int} {gs : List (Guest × AV × AV)} (h : WBt σ lo B j v gb ws gs) {z : Nat} (hz : z < lo) (hn : σ.n ≤ τ.n) (hf : ∀ y, y < σ.n → NE y z → τ.get y = σ.get y) : WBt τ lo B j v gb ws gs := by
  obtain ⟨a1, a2, a3, a4, a5, a6, l2, a7, a8, a9, a0⟩ := h
  refine ⟨by omega, (hf j a1 (by simp only [NE]; omega)).trans a2, a3, a4, a5, a6, l2, a7, ?_, fun x hx => ?_, a0⟩
  · cases a8 with
    | none => exact .none
    | some h0 h1 h2 h3 h4 => exact .some h0 h1 (by omega) h3 ((hf gb h2 (by simp only [NE]; omega)).trans h4)
  · have hg := a9 x hx
    have hap : ∀ (w : AV), (lo ≤ bOf w ∨ w = .nils) → ApV w z := fun w hw => by
      rcases hw with h | h
      · exact .inl (by omega)
      · exact .inr h
    exact ⟨hg.gi, hg.s.aft (lo := lo) hn (hap _ hg.sl) hg.sl (fun y _ y2 y3 => hf y y2 y3), hg.p.aft (lo := lo) hn (hap _ hg.pl) hg.pl (fun y _ y2 y3 => hf y y2 y3), hg.sj, hg.pj, hg.sg, hg.pg, hg.sl, hg.pl, hg.idl⟩
theorem WBt.low {σ : AHeap} {lo lo' : Nat} {B : Int} {j : Nat} {v : AV} {gb : Nat} {ws : List Int} {gs : List (Guest × AV × AV)} (h : WBt σ lo B j v gb ws gs) (hl : lo' ≤ lo) : WBt σ lo' B j v gb ws gs := by
  obtain ⟨a1, a2, a3, a4, a5, a6, l2, a7, a8, a9, a0⟩ := h
  refine ⟨a1, a2, by omega, by omega, a5, a6, l2, a7, a8, fun x hx => ?_, a0⟩
  obtain ⟨b1, b2, b3, b4, b5, b6, b7, b8, b9, b10⟩ := a9 x hx
  refine ⟨b1, b2, b3, b4, b5, b6, b7, ?_, ?_, b10⟩
  · rcases b8 with h | h
    · exact .inl (by omega)
    · exact .inr h
  · rcases b9 with h | h
    · exact .inl (by omega)
    · exact .inr h
theorem zWOkB_fn (σ : AHeap) (lo : Nat) (B : Int) (j : Nat) (v : AV) (gb : Nat) (ws : List Int) (gs : List (Guest × AV × AV)) (h : WBt σ lo B j v gb ws gs) :
    Fn Tryz.prog 37 [.agg [.sl j 0 ws.length 1, v]] σ fun x τ => x = .bool (decide (worldP ws (gs.map (·.1)))) ∧ τ = σ := by
  refine fn_pure ord37 mixed Tryz.func37 (by kernel_rfl) rfl (by kernel_rfl) (by rfl) ?_
  obtain ⟨hj, hw, lj, lg, W, len, l2, m7, hv, G, hB0⟩ := h
  have hvl := lsv_at hj hw rfl
  obtain ⟨⟨r1, r2⟩, ⟨r3, r4⟩, r5, r6⟩ := check_rng ws
  generalize hb : decide (worldP ws (gs.map (·.1))) = b
  by_cases hc : (check ws).2 = true
  · cases hv with
    | none =>
      have hbt : b = true := by rw [← hb]; exact decide_eq_true ⟨hc, by simp, by simp⟩
      subst hbt
      simp (config := {contextual := true, maxSteps := 1000000}) (disch := first | exact dB | fail) [go_sem, envOf, wrap_i64, int_lt, -Int.not_le, -Int.not_lt, Bool.decide_and, Bool.decide_or, and_assoc, Bool.and_assoc, Bool.or_assoc, Prod.exists, Prod.forall, -List.map_set, set_put, ord37, hc]
      (repeat refine Alt.mk ?_)
      refine ⟨1, ?_⟩
      simp (config := {contextual := true, maxSteps := 1000000}) (disch := first | exact dB | fail) [go_sem, envOf, wrap_i64, int_lt, -Int.not_le, -Int.not_lt, Bool.decide_and, Bool.decide_or, and_assoc, Bool.and_assoc, Bool.or_assoc, Prod.exists, Prod.forall, -List.map_set, set_put, ord37, aloop_s]
    | @some gb m gs h0 h1 h2 h3 h4 =>
      by_cases hm6 : (m : Int) ≤ 6
      rotate_left
      · have hbf : b = false := by rw [← hb]; exact decide_eq_false (fun h => hm6 (by have := h.2.1; simp at this; omega))
        subst hbf
        simp (config := {contextual := true, maxSteps := 1000000}) (disch := first | exact dB | fail) [go_sem, envOf, wrap_i64, int_lt, -Int.not_le, -Int.not_lt, Bool.decide_and, Bool.decide_or, and_assoc, Bool.and_assoc, Bool.or_assoc, Prod.exists, Prod.forall, -List.map_set, set_put, ord37, hc, hm6]
      have hbt : (∀ g ∈ gs.map (·.1), guestP (check ws).1 g) → b = true := fun hh => by rw [← hb]; exact decide_eq_true ⟨hc, by simp; omega, hh⟩
      have hbf : ∀ g ∈ gs.map (·.1), ¬ guestP (check ws).1 g → b = false := fun g hg hn => by rw [← hb]; exact decide_eq_false (fun h => hn (h.2.2 g hg))
      clear hb
      obtain ⟨C, hC⟩ : ∃ C, (check ws).1 = C := ⟨_, rfl⟩
      have hCk : (check ws).2 = true := hc
      rw [hC] at r1 r2 r3 r4 r5 r6 hbt hbf
      simp (config := {contextual := true, maxSteps := 1000000}) (disch := first | exact dB | fail) [go_sem, envOf, wrap_i64, int_lt, -Int.not_le, -Int.not_lt, Bool.decide_and, Bool.decide_or, and_assoc, Bool.and_assoc, Bool.or_assoc, Prod.exists, Prod.forall, -List.map_set, set_put, ord37, hc, hm6, hC]
      (repeat refine Alt.mk ?_)
      refine aloops_lt (fun R_ env τ => ∃ (u : Nat), env 1 = .ptr σ.n 0 ∧ env 3 = .ptr (σ.n + 1) 0 ∧ env 5 = .int .i64 u ∧ (σ.push ⟨[.sl j 0 ws.length 1, .sl gb 0 m 26], true⟩).push ⟨[.int .i64 C.slots, .int .i64 C.pages, .int .i64 C.lease], true⟩ = τ ∧ R_ (m - u) ∧ (u ≤ m ∧ (∀ k, k < u → ∀ x, gs[k]? = some x → guestP C x.1))) (by rintro R_ env τ ⟨u, e1, e3, e5, h_, hR_, hp⟩; exact ⟨_, hR_, u, e1, e3, e5, h_, rfl, hp⟩) ⟨0, by first | rfl | simp [put_get, *], by first | rfl | simp [put_get, *], by first | rfl | simp [put_get, *], rfl, trivial, ?_⟩ ?_
      rotate_left
      rintro m_ env τ ⟨u, e1, e3, e5, rfl, rfl, hp⟩
      · obtain ⟨um, hI⟩ := hp
        by_cases hu : u < m
        · have hu2 : ¬ m ≤ u := by omega
          obtain ⟨⟨g, sv, pv⟩, hx⟩ : ∃ x, gs[u]? = some x := ⟨gs[u]'(by omega), by simp⟩
          have hsub := gCells_sub hx
          have hlen : u * 26 + 26 ≤ (gCells gs).length := by rw [gCells_len]; omega
          have hGA := G _ (List.mem_of_getElem? hx)
          have l1 : LenIs sv g.snap.length := hGA.s.lenIs
          have l3 : LenIs pv g.plan.length := hGA.p.lenIs
          have hgm : g ∈ gs.map (·.1) := List.mem_map.2 ⟨_, List.mem_of_getElem? hx, rfl⟩
          by_cases hg : guestP C g
          · simp (config := {contextual := true, maxSteps := 1000000}) (disch := first | exact dB | fail) [go_sem, envOf, wrap_i64, int_lt, -Int.not_le, -Int.not_lt, Bool.decide_and, Bool.decide_or, and_assoc, Bool.and_assoc, Bool.or_assoc, Prod.exists, Prod.forall, -List.map_set, set_put, ord37, e1, e3, e5, h4, hsub, hlen, hu, hu2, hg]
            (repeat refine Alt.mk ?_)
            refine ⟨u + 1, by omega, by omega, by omega, ?_⟩
            intro k hk a sv' pv' hka
            rcases Nat.lt_or_ge k u with hk' | hk'
            · exact hI k hk' _ hka
            · have : k = u := by omega
              subst this
              rw [hx] at hka
              cases hka
              exact hg
          · have hbf' := hbf g hgm hg
            subst hbf'
            simp (config := {contextual := true, maxSteps := 1000000}) (disch := first | exact dB | fail) [go_sem, envOf, wrap_i64, int_lt, -Int.not_le, -Int.not_lt, Bool.decide_and, Bool.decide_or, and_assoc, Bool.and_assoc, Bool.or_assoc, Prod.exists, Prod.forall, -List.map_set, set_put, ord37, e1, e3, e5, h4, hsub, hlen, hu, hu2, hg]
        · have hu2 : m ≤ u := by omega
          have hbt' : b = true := by
            apply hbt
            intro g hg
            obtain ⟨x, hx, rfl⟩ := List.mem_map.1 hg
            obtain ⟨k, hk, hkx⟩ := List.mem_iff_getElem.1 hx
            exact hI k (by omega) x (by rw [List.getElem?_eq_getElem hk, hkx])
          subst hbt'
          simp (config := {contextual := true, maxSteps := 1000000}) (disch := first | exact dB | fail) [go_sem, envOf, wrap_i64, int_lt, -Int.not_le, -Int.not_lt, Bool.decide_and, Bool.decide_or, and_assoc, Bool.and_assoc, Bool.or_assoc, Prod.exists, Prod.forall, -List.map_set, set_put, ord37, e1, e3, e5, hu, hu2]
      · exact ⟨Nat.zero_le _, fun k hk => by omega⟩
  · have hbf : b = false := by rw [← hb]; exact decide_eq_false (fun h => hc h.1)
    have hc' : (check ws).2 = false := by simpa using hc
    subst hbf
    simp (config := {contextual := true, maxSteps := 1000000}) (disch := first | exact dB | fail) [go_sem, envOf, wrap_i64, int_lt, -Int.not_le, -Int.not_lt, Bool.decide_and, Bool.decide_or, and_assoc, Bool.and_assoc, Bool.or_assoc, Prod.exists, Prod.forall, -List.map_set, set_put, ord37, hc']
end AH
