import Derived.Test.YtagihpbpblnnoaaGreatQ34
import Derived.Test.YtagihpbpblnnoaaGreatQ45
import Derived.Test.YtagihpbpblnnoaaGreatQ46
import Derived.Test.YtagihpbpblnnoaaGreatQ23
import Derived.Test.YtagihpbpblnnoaaGreatQ32
set_option linter.all false
namespace AH
open Go Go.Proofs Ho
set_option maxRecDepth 20000
set_option maxHeartbeats 16000000
/-- A guest of a world at j, gb: what is true of it, and where its lists lie. -/
structure GA (τ : AHeap) (lo : Nat) (B : Int) (j gb : Nat) (x : Guest × AV × AV) : Prop where
  gi : GI B x.1
  s : LsV .u64 τ x.2.1 x.1.snap
  p : LsV .u64 τ x.2.2 x.1.plan
  sj : ApV x.2.1 j
  pj : ApV x.2.2 j
  sg : ApV x.2.1 gb
  pg : ApV x.2.2 gb
  sl : lo ≤ bOf x.2.1 ∨ x.2.1 = .nils
  pl : lo ≤ bOf x.2.2 ∨ x.2.2 = .nils
  idl : Idl x.1
/-- A world's guests: none, or those of a block. -/
inductive GB (τ : AHeap) (j : Nat) : AV → Nat → List (Guest × AV × AV) → Prop where
  | none : GB τ j .nils j []
  | some {gb m : Nat} {gs : List (Guest × AV × AV)} (h0 : gs.length = m) (h1 : 1 ≤ m) (h2 : gb < τ.n) (h3 : NE gb j) (h4 : τ.get gb = some ⟨gCells gs, true⟩) : GB τ j (.sl gb 0 m 26) gb gs
/-- A world as it lies. -/
structure WAt (τ : AHeap) (lo : Nat) (B : Int) (j : Nat) (v : AV) (gb : Nat) (ws : List Int) (gs : List (Guest × AV × AV)) : Prop where
  hj : j < τ.n
  hw : τ.get j = some ⟨ws.map (.int .u64), true⟩
  lj : lo ≤ j
  lg : lo ≤ gb
  W : ∀ w ∈ ws, isW w
  len : (ws.length : Int) ≤ 1000000
  l2 : 2 ≤ ws.length
  m6 : gs.length ≤ 6
  hv : GB τ j v gb gs
  G : ∀ x ∈ gs, GA τ lo B j gb x
  B : B ≤ 900000
theorem GA.frame {σ τ : AHeap} {lo : Nat} {B : Int} {j gb : Nat} {x : Guest × AV × AV} (h : GA σ lo B j gb x) (hn : σ.n ≤ τ.n) (hf : ∀ y, y < σ.n → τ.get y = σ.get y) : GA τ lo B j gb x :=
  ⟨h.gi, h.s.frame hn hf, h.p.frame hn hf, h.sj, h.pj, h.sg, h.pg, h.sl, h.pl, h.idl⟩
theorem WAt.frame {σ τ : AHeap} {lo : Nat} {B : Int} {j : Nat} {v : AV} {gb : Nat} {ws : List Int} {gs : List (Guest × AV × AV)} (h : WAt σ lo B j v gb ws gs) (hn : σ.n ≤ τ.n) (hf : ∀ y, y < σ.n → τ.get y = σ.get y) : WAt τ lo B j v gb ws gs := by
  obtain ⟨a1, a2, a3, a4, a5, a6, l2, a7, a8, a9, a0⟩ := h
  refine ⟨by omega, (hf j a1).trans a2, a3, a4, a5, a6, l2, a7, ?_, fun x hx => (a9 x hx).frame hn hf, a0⟩
  cases a8 with
  | none => exact .none
  | some h0 h1 h2 h3 h4 => exact .some h0 h1 (by omega) h3 ((hf gb h2).trans h4)
theorem WAt.low {σ : AHeap} {lo lo' : Nat} {B : Int} {j : Nat} {v : AV} {gb : Nat} {ws : List Int} {gs : List (Guest × AV × AV)} (h : WAt σ lo B j v gb ws gs) (hl : lo' ≤ lo) : WAt σ lo' B j v gb ws gs := by
  obtain ⟨a1, a2, a3, a4, a5, a6, l2, a7, a8, a9, a0⟩ := h
  refine ⟨a1, a2, by omega, by omega, a5, a6, l2, a7, a8, fun x hx => ?_, a0⟩
  obtain ⟨b1, b2, b3, b4, b5, b6, b7, b8, b9, b10⟩ := a9 x hx
  refine ⟨b1, b2, b3, b4, b5, b6, b7, ?_, ?_, b10⟩
  · rcases b8 with h | h
    · exact .inl (by omega)
    · exact .inr h
  · rcases b9 with h | h
    · exact .inl (by omega)
    · exact .inr h
theorem WAt.isL {σ : AHeap} {lo : Nat} {B : Int} {j : Nat} {v : AV} {gb : Nat} {ws : List Int} {gs : List (Guest × AV × AV)} (h : WAt σ lo B j v gb ws gs) : IsL v := by
  cases h.hv with
  | none => exact isL_nils
  | some => exact isL_sl _ _ _ _
theorem Ls_ap {kk : IntKind} {σ : AHeap} {v : AV} {l : List Int} (h : LsV kk σ v l) {y : Nat} (hy : σ.n ≤ y) : ApV v y := by
  rcases h.ex with ⟨rfl, _⟩ | ⟨i, k, rfl, h1, _⟩
  · exact .inr rfl
  · exact .inl (by simp only [bOf]; omega)
/-- A copy half made: u guests are copied. -/
structure CopyL (σ : AHeap) (n1 j gb m : Nat) (ws : List Int) (gs : List (Guest × AV × AV)) (u : Nat) (v : AV) (l : List (Guest × AV × AV)) (τ : AHeap) : Prop where
  lu : l.length = u
  um : u ≤ m
  vv : (v = .nils ∧ l = []) ∨ (∃ q, v = .sl q 0 l.length 26 ∧ 1 ≤ l.length ∧ n1 ≤ q ∧ q < τ.n ∧ τ.get q = some ⟨gCells l, true⟩ ∧ (∀ x ∈ l, ApV x.2.1 q ∧ ApV x.2.2 q))
  gw : τ.get (σ.n + 1 + 1 + 1 + 1) = some ⟨[.sl (σ.n + 1 + 1 + 1) 0 ws.length 1, v], true⟩
  gq : τ.get (σ.n + 1 + 1 + 1) = some ⟨ws.map (.int .u64), true⟩
  gr : τ.get (σ.n + 1) = some ⟨[.nils, .nils], true⟩
  g0 : τ.get σ.n = some ⟨[.sl j 0 ws.length 1, .sl gb 0 m 26], true⟩
  hk : ∀ y, y < σ.n → τ.get y = σ.get y
  G : GLs τ n1 l
  mp : l.map (·.1) = (gs.take u).map (·.1)
  nn : n1 ≤ τ.n
theorem GLs.keep {σ τ : AHeap} {lo q : Nat} {gs : List (Guest × AV × AV)} (h : GLs σ lo gs) (hn : σ.n ≤ τ.n) (hq : ∀ x ∈ gs, ApV x.2.1 q ∧ ApV x.2.2 q) (hf : ∀ y, lo ≤ y → y < σ.n → y ≠ q → τ.get y = σ.get y) : GLs τ lo gs := by
  intro x hx
  obtain ⟨a1, a2, a3, a4, a5, a6⟩ := h x hx
  obtain ⟨b1, b2⟩ := hq x hx
  have go : ∀ (v : AV) (l : List Int), LsV .u64 σ v l → (lo ≤ bOf v ∨ v = .nils) → ApV v q → LsV .u64 τ v l := by
    intro v l hl h1 h2
    rcases hl.ex with ⟨rfl, rfl⟩ | ⟨i, k, rfl, hi, Bk, hb, hc⟩
    · exact .nil
    · rcases h1 with h1 | h1
      · rcases h2 with h2 | h2
        · simp only [bOf] at h1 h2
          exact .mk' ⟨by omega, Bk, by rw [hf i h1 hi h2]; exact hb, hc⟩
        · cases h2
      · cases h1
  exact ⟨go _ _ a1 a5 b1, go _ _ a2 a6 b2, a3, a4, a5, a6⟩
theorem CopyL.next {σ : AHeap} {n1 j gb m : Nat} {ws : List Int} {gs : List (Guest × AV × AV)} {u : Nat} {v : AV} {l : List (Guest × AV × AV)} {τ τ2 τ3 : AHeap} (h : CopyL σ n1 j gb m ws gs u v l τ) {g : Guest} {sv pv : AV} {a b q : Nat} (hu : u < m) (hx : gs[u]? = some (g, sv, pv)) (h4 : σ.n + 1 + 1 + 1 + 1 < n1)
    (c1 : τ.n ≤ τ2.n) (c2 : τ.n ≤ a) (c3 : a < τ2.n) (c4 : τ.n ≤ b) (c5 : b < τ2.n) (c7 : τ2.get a = some ⟨g.snap.map (.int .u64), true⟩) (c8 : τ2.get b = some ⟨g.plan.map (.int .u64), true⟩) (c9 : ∀ y, y < τ.n → τ2.get y = τ.get y)
    (s1 : (g.snap.length : Int) ≤ 1000000) (s2 : (g.plan.length : Int) ≤ 1000000) (hq0 : bOf v < τ.n) (hq1 : τ2.n < q) (hq2 : q < τ3.n) (d1 : τ3.get q = some ⟨gCells (l ++ [(g, .sl a 0 g.snap.length 1, .sl b 0 g.plan.length 1)]), true⟩)
    (d2 : τ3.get (σ.n + 1 + 1 + 1 + 1) = some ⟨[.sl (σ.n + 1 + 1 + 1) 0 ws.length 1, .sl q 0 (u + 1) 26], true⟩) (d3 : ∀ y, y < τ2.n → NE y (σ.n + 1 + 1 + 1 + 1) → (NE y (bOf v) ∨ v = .nils) → τ3.get y = τ2.get y) :
    CopyL σ n1 j gb m ws gs (u + 1) (.sl q 0 (u + 1) 26) (l ++ [(g, .sl a 0 g.snap.length 1, .sl b 0 g.plan.length 1)]) τ3 := by
  obtain ⟨lu, um, vv, gw, gq, gr, g0, hk, G, mp, nn⟩ := h
  have hv : ∀ y, y < n1 → (NE y (bOf v) ∨ v = .nils) := by
    intro y hy
    rcases vv with ⟨rfl, _⟩ | ⟨q', rfl, _, h1, _⟩
    · exact .inr rfl
    · exact .inl (by simp only [NE, bOf]; omega)
  have keep : ∀ y, y < n1 → NE y (σ.n + 1 + 1 + 1 + 1) → τ3.get y = τ.get y := fun y h1 h2 => by rw [d3 y (by omega) h2 (hv y h1), c9 y (by omega)]
  have hap : ∀ x ∈ l, ApV x.2.1 (bOf v) ∧ ApV x.2.2 (bOf v) := by
    rcases vv with ⟨rfl, rfl⟩ | ⟨q', rfl, _, _, _, _, h1⟩
    · intro x hx; cases hx
    · exact h1
  have hlt : ∀ x ∈ l, ∀ y, τ.n ≤ y → ApV x.2.1 y ∧ ApV x.2.2 y := fun x hx y hy => ⟨Ls_ap (G x hx).1 hy, Ls_ap (G x hx).2.1 hy⟩
  have mem : ∀ x ∈ l ++ [(g, .sl a 0 g.snap.length 1, .sl b 0 g.plan.length 1)], x ∈ l ∨ x = (g, .sl a 0 g.snap.length 1, .sl b 0 g.plan.length 1) := by
    intro x hx
    rcases List.mem_append.1 hx with h | h
    · exact .inl h
    · exact .inr (List.mem_singleton.1 h)
  have hnv : ∀ y, τ.n ≤ y → (NE y (bOf v) ∨ v = .nils) := fun y hy => .inl (by simp only [NE]; omega)
  refine ⟨by simp [lu], by omega, .inr ⟨q, by simp [lu], by simp, by omega, hq2, d1, ?_⟩, d2, ?_, ?_, ?_, ?_, ?_, ?_, by omega⟩
  · intro x hx
    rcases mem x hx with h | rfl
    · exact hlt x h q (by omega)
    · exact ⟨.inl (by simp only [bOf]; omega), .inl (by simp only [bOf]; omega)⟩
  · rw [keep _ (by omega) (by simp only [NE]; omega)]; exact gq
  · rw [keep _ (by omega) (by simp only [NE]; omega)]; exact gr
  · rw [keep _ (by omega) (by simp only [NE]; omega)]; exact g0
  · intro y hy
    rw [keep y (by omega) (by simp only [NE]; omega)]; exact hk y hy
  · refine GLs.snoc (GLs.keep G (by omega) hap ?_) ?_
    · intro y h1 h2 h3
      rw [d3 y (by omega) (by simp only [NE]; omega) (.inl h3), c9 y h2]
    · intro x hx
      obtain rfl := List.mem_singleton.1 hx
      refine ⟨LsV.own (by omega) (by rw [d3 a c3 (by simp only [NE]; omega) (hnv a c2)]; exact c7), LsV.own (by omega) (by rw [d3 b c5 (by simp only [NE]; omega) (hnv b c4)]; exact c8), s1, s2, .inl (by simp only [bOf]; omega), .inl (by simp only [bOf]; omega)⟩
  · rw [List.map_append, mp, List.take_add_one, hx]
    simp
end AH
/- CONTRACTS OF THE REFERENCE: one step of one guest of a world. -/
namespace AH
open Go Go.Proofs Ho
set_option maxRecDepth 20000
set_option maxHeartbeats 16000000
theorem check_rng (ws : List Int) : (0 ≤ (check ws).1.slots ∧ (check ws).1.slots ≤ 4) ∧ (0 ≤ (check ws).1.pages ∧ (check ws).1.pages ≤ 6) ∧ 0 ≤ (check ws).1.lease ∧ (check ws).1.lease ≤ 20 := by
  unfold check whole
  by_cases h0 : ws = []
  · rw [if_pos h0]; simp
  rw [if_neg h0]
  simp only
  split
  · rename_i h
    have hok := h.1
    unfold Cfg.ok at hok
    simp only at hok ⊢
    refine ⟨⟨?_, ?_⟩, ⟨?_, ?_⟩, ?_, ?_⟩ <;> omega
  · simp
noncomputable section
/-- One step of one guest. -/
def wOne (ws : List Int) (gs : List Guest) (i : Nat) : List Int × List Guest × Int :=
  let g := gs.getD i Guest.zero
  if g.up = false ∨ g.busy = false then (ws, gs, 0)
  else ((sStep (check ws).1 ws g).ws, gs.set i (sStep (check ws).1 ws g).g, (sStep (check ws).1 ws g).ev)
end
theorem LsV.keep2 {σ τ : AHeap} {v : AV} {l : List Int} {j gb : Nat} (h : LsV .u64 σ v l) (hn : σ.n ≤ τ.n) (a1 : ApV v j) (a2 : ApV v gb) (hf : ∀ y, y < σ.n → NE y j → NE y gb → τ.get y = σ.get y) : LsV .u64 τ v l := by
  rcases h.ex with ⟨rfl, rfl⟩ | ⟨i, k, rfl, hi, Bk, hb, hc⟩
  · exact .nil
  · rcases a1 with a1 | a1
    · rcases a2 with a2 | a2
      · simp only [bOf] at a1 a2
        exact .mk' ⟨by omega, Bk, by rw [hf i hi a1 a2]; exact hb, hc⟩
      · cases a2
    · cases a1
theorem GA.keep2 {σ τ : AHeap} {lo : Nat} {B : Int} {j gb : Nat} {x : Guest × AV × AV} (h : GA σ lo B j gb x) (hn : σ.n ≤ τ.n) (hf : ∀ y, y < σ.n → NE y j → NE y gb → τ.get y = σ.get y) {B' : Int} (hB : B ≤ B') : GA τ lo B' j gb x :=
  ⟨h.gi.le hB, h.s.keep2 hn h.sj h.sg hf, h.p.keep2 hn h.pj h.pg hf, h.sj, h.pj, h.sg, h.pg, h.sl, h.pl, h.idl⟩
theorem GA.nv {σ τ : AHeap} {lo : Nat} {B : Int} {j gb : Nat} {g g' : Guest} {sv pv sv' pv' : AV} (h : GA σ lo B j gb (g, sv, pv)) (hj : j < σ.n) (hgb : gb < σ.n) (hlo : lo ≤ j) (hn : σ.n ≤ τ.n) (hf : ∀ y, y < σ.n → NE y j → NE y gb → τ.get y = σ.get y) {B' : Int} (hg : GI B' g') (hi : Idl g')
    (h1 : NV σ.n τ sv sv' g.snap g'.snap) (h2 : NV σ.n τ pv pv' g.plan g'.plan) : GA τ lo B' j gb (g', sv', pv') := by
  have go : ∀ (v v' : AV) (l l' : List Int), LsV .u64 σ v l → ApV v j → ApV v gb → (lo ≤ bOf v ∨ v = .nils) → NV σ.n τ v v' l l' → LsV .u64 τ v' l' ∧ ApV v' j ∧ ApV v' gb ∧ (lo ≤ bOf v' ∨ v' = .nils) := by
    intro v v' l l' a1 a2 a3 a4 a5
    rcases a5 with ⟨rfl, rfl⟩ | ⟨b1, b2⟩
    · exact ⟨a1.keep2 hn a2 a3 hf, a2, a3, a4⟩
    · refine ⟨b1, ?_, ?_, ?_⟩
      · rcases b2 with b | b
        · exact .inl (by omega)
        · exact .inr b
      · rcases b2 with b | b
        · exact .inl (by omega)
        · exact .inr b
      · rcases b2 with b | b
        · exact .inl (by omega)
        · exact .inr b
  obtain ⟨k0, k1, k2, k3, k4, k5, k6, k7, k8, k9⟩ := h
  obtain ⟨x1, x2, x3, x4⟩ := go _ _ _ _ k1 k3 k5 k7 h1
  obtain ⟨y1, y2, y3, y4⟩ := go _ _ _ _ k2 k4 k6 k8 h2
  exact ⟨hg, x1, y1, x2, y2, x3, y3, x4, y4, hi⟩
theorem NV.fr {n : Nat} {τ τ' : AHeap} {v v' : AV} {l l' : List Int} (h : NV n τ v v' l l') (hn : τ.n ≤ τ'.n) (hf : ∀ y, n ≤ y → y < τ.n → τ'.get y = τ.get y) : NV n τ' v v' l l' := by
  rcases h with h | ⟨h1, h2⟩
  · exact .inl h
  · refine .inr ⟨?_, h2⟩
    rcases h1.ex with ⟨rfl, rfl⟩ | ⟨i, k, rfl, hi, Bk, hb, hc⟩
    · exact .nil
    · rcases h2 with h2 | h2
      · simp only [bOf] at h2
        exact .mk' ⟨by omega, Bk, by rw [hf i h2 hi]; exact hb, hc⟩
      · cases h2
/-- No list of these lies at z. -/
def Apt (z : Nat) (gs : List (Guest × AV × AV)) : Prop := ∀ x ∈ gs, ApV x.2.1 z ∧ ApV x.2.2 z
theorem NV.ap {n z : Nat} {τ : AHeap} {v v' : AV} {l l' : List Int} (h : NV n τ v v' l l') (hz : z < n) (hv : ApV v z) : ApV v' z := by
  rcases h with ⟨rfl, _⟩ | ⟨_, h⟩
  · exact hv
  · rcases h with h | h
    · exact .inl (by omega)
    · exact .inr h
theorem Apt.put {n z i : Nat} {τ : AHeap} {gs : List (Guest × AV × AV)} {g g' : Guest} {sv pv sv' pv' : AV} {l1 l2 l3 l4 : List Int} (ha : Apt z gs) (hx : gs[i]? = some (g, sv, pv)) (hz : z < n) (h1 : NV n τ sv sv' l1 l2) (h2 : NV n τ pv pv' l3 l4) : Apt z (gs.set i (g', sv', pv')) := by
  intro x hm
  rcases List.mem_or_eq_of_mem_set hm with h | rfl
  · exact ha x h
  · obtain ⟨b1, b2⟩ := ha _ (List.mem_of_getElem? hx)
    exact ⟨h1.ap hz b1, h2.ap hz b2⟩
theorem WAt.apt {σ : AHeap} {lo : Nat} {B : Int} {j : Nat} {v : AV} {gb : Nat} {ws : List Int} {gs : List (Guest × AV × AV)} (h : WAt σ lo B j v gb ws gs) {z : Nat} (hz : σ.n ≤ z) : Apt z gs :=
  fun x hx => ⟨Ls_ap (h.G x hx).s hz, Ls_ap (h.G x hx).p hz⟩
theorem WAt.outs {σ τ : AHeap} {lo : Nat} {B : Int} {j : Nat} {v : AV} {gb : Nat} {ws : List Int} {gs : List (Guest × AV × AV)} (h : WAt σ lo B j v gb ws gs) {z : Nat} (hn : σ.n ≤ τ.n) (hz1 : NE j z) (hz2 : NE gb z) (ha : Apt z gs) (hf : ∀ y, y < σ.n → NE y z → τ.get y = σ.get y) : WAt τ lo B j v gb ws gs := by
  obtain ⟨a1, a2, a3, a4, a5, a6, l2, a7, a8, a9, a0⟩ := h
  refine ⟨by omega, (hf j a1 hz1).trans a2, a3, a4, a5, a6, l2, a7, ?_, fun x hx => ?_, a0⟩
  · cases a8 with
    | none => exact .none
    | some h0 h1 h2 h3 h4 => exact .some h0 h1 (by omega) h3 ((hf gb h2 hz2).trans h4)
  · obtain ⟨b1, b2⟩ := ha x hx
    have hg := a9 x hx
    exact ⟨hg.gi, hg.s.keep2 hn b1 b1 (fun y y1 y2 _ => hf y y1 y2), hg.p.keep2 hn b2 b2 (fun y y1 y2 _ => hf y y1 y2), hg.sj, hg.pj, hg.sg, hg.pg, hg.sl, hg.pl, hg.idl⟩
theorem WAt.put {σ τ : AHeap} {lo : Nat} {B : Int} {j : Nat} {v : AV} {gb : Nat} {ws ws' : List Int} {gs : List (Guest × AV × AV)} (h : WAt σ lo B j v gb ws gs) {i : Nat} {x' : Guest × AV × AV} (hi : i < gs.length) (hn : σ.n ≤ τ.n)
    (hw : τ.get j = some ⟨ws'.map (.int .u64), true⟩) (hg : τ.get gb = some ⟨gCells (gs.set i x'), true⟩) (hf : ∀ y, y < σ.n → NE y j → NE y gb → τ.get y = σ.get y) (W : ∀ w ∈ ws', isW w) (hl : ws'.length = ws.length) {B' : Int} (hx : GA τ lo B' j gb x') (hB : B ≤ B') (hB' : B' ≤ 900000) :
    WAt τ lo B' j v gb ws' (gs.set i x') := by
  obtain ⟨a1, a2, a3, a4, a5, a6, l2, a7, a8, a9, a0⟩ := h
  refine ⟨by omega, hw, a3, a4, W, by omega, by omega, by simp only [List.length_set]; exact a7, ?_, ?_, hB'⟩
  · cases a8 with
    | none => simp at hi
    | some h0 h1 h2 h3 h4 => exact .some (by simp only [List.length_set]; exact h0) h1 (by omega) h3 hg
  · intro x hxm
    rcases List.mem_or_eq_of_mem_set hxm with h | rfl
    · exact (a9 x h).keep2 hn hf hB
    · exact hx
theorem zOne_fn (σ : AHeap) (lo : Nat) (B : Int) (j : Nat) (v : AV) (gb : Nat) (ws : List Int) (gs : List (Guest × AV × AV)) (h : WAt σ lo B j v gb ws gs) (i : Nat) (hi : i < gs.length) (hB : 1 ≤ B ∧ B + 2 ≤ 900000) :
    Fn Tryz.prog 84 [.agg [.sl j 0 ws.length 1, v], .int .i64 i] σ fun x τ => ∃ ws' gs', x = .tup [.agg [.sl j 0 ws'.length 1, v], .int .i64 (wOne ws (gs.map (·.1)) i).2.2] ∧ ws' = (wOne ws (gs.map (·.1)) i).1 ∧ gs'.map (·.1) = (wOne ws (gs.map (·.1)) i).2.1 ∧ WAt τ lo (B + 2) j v gb ws' gs' ∧ (∀ z, z < σ.n → Apt z gs → Apt z gs') ∧ (∀ y, y < σ.n → NE y j → NE y gb → τ.get y = σ.get y) := by
  have hh := h
  obtain ⟨hj, hw, lj, lg, W, len, l2, m6, hv, G, hB0⟩ := h
  cases hv with
  | none => simp at hi
  | @some gb m gs h0 h1 h2 h3 h4 =>
    refine fn_of ord0 mixed Tryz.func84 (by kernel_rfl) rfl (by kernel_rfl) ?_
    have hv := lsv_at hj hw rfl
    obtain ⟨⟨g, sv, pv⟩, hx⟩ : ∃ x, gs[i]? = some x := ⟨gs[i]'hi, by simp [hi]⟩
    have hg0 : (gs.map (·.1)).getD i Guest.zero = g := by simp [hx]
    have hGA := G _ (List.mem_of_getElem? hx)
    have hsub := gCells_sub hx
    have hlen : i * 26 + 26 ≤ (gCells gs).length := by rw [gCells_len]; omega
    obtain ⟨⟨r1, r2⟩, ⟨r3, r4⟩, r5, r6⟩ := check_rng ws
    have hGA0 := hGA
    obtain ⟨k0, k1, k2, k3, k4, k5, k6, k7, k8, k9⟩ := hGA
    have i1 := k1.isL
    have i2 := k2.isL
    have him : i < m := by omega
    by_cases hb : g.up = false ∨ g.busy = false
    · have ho : wOne ws (gs.map (·.1)) i = (ws, gs.map (·.1), 0) := by unfold wOne; simp only; rw [hg0, if_pos hb]
      rw [ho]
      generalize hG : (fun (x : AV) (τ : AHeap) => ∃ ws' gs', x = AV.tup [.agg [.sl j 0 ws'.length 1, .sl gb 0 m 26], .int .i64 (ws, gs.map (·.1), (0 : Int)).2.2] ∧ ws' = (ws, gs.map (·.1), (0 : Int)).1 ∧ gs'.map (·.1) = (ws, gs.map (·.1), (0 : Int)).2.1 ∧ WAt τ lo (B + 2) j (.sl gb 0 m 26) gb ws' gs' ∧ (∀ z, z < σ.n → Apt z gs → Apt z gs') ∧ (∀ y, y < σ.n → NE y j → NE y gb → τ.get y = σ.get y)) = GG
      have fin : ∀ τ : AHeap, σ.n ≤ τ.n → (∀ y, y < σ.n → τ.get y = σ.get y) → GG (.tup [.agg [.sl j 0 ws.length 1, .sl gb 0 m 26], .int .i64 0]) τ := by
        intro τ hn hf
        rw [← hG]
        have h1 := hh.frame hn hf
        exact ⟨ws, gs, rfl, rfl, rfl, ⟨h1.hj, h1.hw, h1.lj, h1.lg, h1.W, h1.len, h1.l2, h1.m6, h1.hv, fun x hx => (h1.G x hx).keep2 (Nat.le_refl _) (fun _ _ _ _ => rfl) (by omega), by omega⟩, fun _ _ h => h, fun y y1 _ _ => hf y y1⟩
      by_cases hu : g.up = false
      · simp (config := {contextual := true, maxSteps := 1000000}) (disch := first | exact dB | fail) [go_sem, envOf, wrap_i64, int_lt, -Int.not_le, -Int.not_lt, Bool.decide_and, Bool.decide_or, and_assoc, Bool.and_assoc, Bool.or_assoc, Prod.exists, Prod.forall, -List.map_set, set_put, h4, hsub, hlen, him, hu]
        (repeat refine Alt.mk ?_)
        refine fin _ ?_ ?_
        · simp only [push_n', set_n']; omega
        · (intro j_ hj_; simp (disch := first | exact NE.ne (by assumption) | exact NE.sym (by assumption) | omega | (simp only [push_n', set_n', kill_n', res_n]; omega)) only [push_get_lt, set_get_ne, kill_get_ne, res_lt])
      · have hu' : g.up = true := by simpa using hu
        have hb' : g.busy = false := by rcases hb with h | h; exact absurd h hu; exact h
        simp (config := {contextual := true, maxSteps := 1000000}) (disch := first | exact dB | fail) [go_sem, envOf, wrap_i64, int_lt, -Int.not_le, -Int.not_lt, Bool.decide_and, Bool.decide_or, and_assoc, Bool.and_assoc, Bool.or_assoc, Prod.exists, Prod.forall, -List.map_set, set_put, h4, hsub, hlen, him, hu', hb']
        (repeat refine Alt.mk ?_)
        refine fin _ ?_ ?_
        · simp only [push_n', set_n']; omega
        · (intro j_ hj_; simp (disch := first | exact NE.ne (by assumption) | exact NE.sym (by assumption) | omega | (simp only [push_n', set_n', kill_n', res_n]; omega)) only [push_get_lt, set_get_ne, kill_get_ne, res_lt])
    · have hu' : g.up = true := by cases hq : g.up with | true => rfl | false => exact absurd (.inl hq) hb
      have hb' : g.busy = true := by cases hq : g.busy with | true => rfl | false => exact absurd (.inr hq) hb
      obtain ⟨O, hO⟩ : ∃ O, sStep (check ws).1 ws g = O := ⟨_, rfl⟩
      have ho : wOne ws (gs.map (·.1)) i = (O.ws, (gs.map (·.1)).set i O.g, O.ev) := by unfold wOne; simp only; rw [hg0, if_neg hb, hO]
      rw [ho]
      have hSO := step_GI (B := B) (c := (check ws).1) hB.1 k0 W (by omega)
      rw [hO] at hSO
      generalize hG : (fun (x : AV) (τ : AHeap) => ∃ ws' gs', x = AV.tup [.agg [.sl j 0 ws'.length 1, .sl gb 0 m 26], .int .i64 (O.ws, (gs.map (·.1)).set i O.g, O.ev).2.2] ∧ ws' = (O.ws, (gs.map (·.1)).set i O.g, O.ev).1 ∧ gs'.map (·.1) = (O.ws, (gs.map (·.1)).set i O.g, O.ev).2.1 ∧ WAt τ lo (B + 2) j (.sl gb 0 m 26) gb ws' gs' ∧ (∀ z, z < σ.n → Apt z gs → Apt z gs') ∧ (∀ y, y < σ.n → NE y j → NE y gb → τ.get y = σ.get y)) = GG
      simp (config := {contextual := true, maxSteps := 1000000}) (disch := first | exact dB | fail) [go_sem, envOf, wrap_i64, int_lt, -Int.not_le, -Int.not_lt, Bool.decide_and, Bool.decide_or, and_assoc, Bool.and_assoc, Bool.or_assoc, Prod.exists, Prod.forall, -List.map_set, set_put, h4, hsub, hlen, him, hu', hb']
      (repeat refine Alt.mk ?_)
      refine callP_gen (fun σ1 => σ.n + 1 + 1 + 1 < σ1.n ∧ (∀ y, y < σ.n → σ1.get y = σ.get y) ∧ σ1.get σ.n = some ⟨[.sl j 0 ws.length 1, .sl gb 0 m 26], true⟩ ∧ σ1.get (σ.n + 1) = some ⟨[.nils, .nils], true⟩) ?_ ?_
      · exact ⟨by simp only [push_n', set_n']; omega, by first | exact cKP | fail, by (first | exact cGT | fail), by (first | exact cGT | fail)⟩
      rintro σ1 ⟨x1, x2, x3, x4⟩
      have hn1 : σ.n ≤ σ1.n := by omega
      have hW1 := hh.frame hn1 x2
      have hS := xStep_fn σ1 j (check ws).1 ws g sv pv B hB0 k0 hW1.hj hW1.hw W len (k1.frame hn1 x2) (k2.frame hn1 x2) k3 k4 (by omega) (k0.busy hb')
      simp only [gV, hu', hb', hO] at hS
      refine callP_use hS ?_
      rintro x τ hn ⟨sv', pv', rfl, y1, y2, y3, y4⟩
      have z1 := y3.isL i1
      have z2 := y4.isL i2
      have w0 : τ.get σ.n = some ⟨[.sl j 0 ws.length 1, .sl gb 0 m 26], true⟩ := by rw [y2 _ (by omega) (by simp only [NE]; omega)]; exact x3
      have w1 : τ.get (σ.n + 1) = some ⟨[.nils, .nils], true⟩ := by rw [y2 _ (by omega) (by simp only [NE]; omega)]; exact x4
      have w2 : τ.get gb = some ⟨gCells gs, true⟩ := by rw [y2 _ (by omega) h3, x2 _ h2]; exact h4
      have w3 : ¬ gb = τ.n := by omega
      simp (config := {contextual := true, maxSteps := 1000000}) (disch := first | exact dB | fail) [go_sem, envOf, wrap_i64, int_lt, -Int.not_le, -Int.not_lt, Bool.decide_and, Bool.decide_or, and_assoc, Bool.and_assoc, Bool.or_assoc, Prod.exists, Prod.forall, -List.map_set, set_put, w0, w1, w2, w3, hlen, him]
      (repeat refine Alt.mk ?_)
      have fin : ∀ τ' : AHeap, τ.n ≤ τ'.n → τ'.get gb = some ⟨gCells (gs.set i (O.g, sv', pv')), true⟩ → (∀ y, y < τ.n → NE y gb → NE y σ.n → NE y (σ.n + 1) → τ'.get y = τ.get y) → GG (.tup [.agg [.sl j 0 O.ws.length 1, .sl gb 0 m 26], .int .i64 O.ev]) τ' := by
        intro τ' q1 q2 q3
        rw [← hG]
        have f1 : ∀ y, y < σ.n → NE y j → NE y gb → τ'.get y = σ.get y := by
          intro y p1 p2 p3
          rw [q3 y (by omega) p3 (by simp only [NE]; omega) (by simp only [NE]; omega), y2 y (by omega) p2, x2 y p1]
        have e3 := (y3.fr q1 (fun y p1 p2 => q3 y p2 (by simp only [NE]; omega) (by simp only [NE]; omega) (by simp only [NE]; omega))).low hn1
        have e4 := (y4.fr q1 (fun y p1 p2 => q3 y p2 (by simp only [NE]; omega) (by simp only [NE]; omega) (by simp only [NE]; omega))).low hn1
        have e5 : τ'.get j = some ⟨O.ws.map (.int .u64), true⟩ := by rw [q3 j (by omega) h3.symm (by simp only [NE]; omega) (by simp only [NE]; omega)]; exact y1
        refine ⟨O.ws, gs.set i (O.g, sv', pv'), rfl, rfl, by simp [List.map_set], ?_, fun z hz ha => Apt.put (hx := hx) ha hz e3 e4, f1⟩
        exact hh.put hi (by omega) e5 q2 f1 hSO.W hSO.l (hGA0.nv hj h2 lj (by omega) f1 (hSO.g.le (by omega)) (hO ▸ step_idl _ _ _ hb') e3 e4) (by omega) hB.2
      refine fin _ ?_ ?_ ?_
      · simp only [push_n', set_n']; omega
      · rw [← gCells_put hi]
        (first | exact cGT | fail)
      · intro y p1 p2 p3 p4
        (first | exact cGT | fail)
end AH
/- CONTRACTS OF THE REFERENCE: one who comes to a world; what an event does to it. -/
namespace AH
open Go Go.Proofs Ho
set_option maxRecDepth 20000
set_option maxHeartbeats 16000000
theorem GI_base {B : Int} {g : Guest} (h : GI B g) (k s a b pc : Int) (bz : Bool) (hp : 0 ≤ pc ∧ pc ≤ 10) (hb : bz = true → 1 ≤ pc) : GI B { g with okind := k, oslot := s, oa := a, ob := b, busy := bz, pc := pc, own := false } := by
  obtain ⟨h1, h2, h3, h4, h5, h6, h7, h8, h9, h10, h11, h12, h13, h14, h15, h16, h17, h18, h19, h20, h21, h22, h23, h24⟩ := h
  refine ⟨h1, h2, ?_, h4, h5, h6, h7, h8, h9, h10, h11, h12, h13, h14, h15, h16, h17, h18, h19, hb, ?_, ?_, ?_, ?_⟩
  · simp only; omega
  · simp only; omega
  · simp only; omega
  · simp only; omega
  · simp
theorem asked_GI {B : Int} {g : Guest} (hB : 1 ≤ B) (h : GI B g) (hi : Idl g) (k a b : Int) : GI (B + 1) (Guest.asked g k a b) ∧ Idl (Guest.asked g k a b) := by
  unfold Guest.asked
  split
  · exact ⟨h.le (by omega), hi⟩
  · rename_i hh
    have hbz : g.busy = false := by cases hq : g.busy with | false => rfl | true => exact absurd (.inr (.inl hq)) hh
    have hc : ∀ cd v : Int, GI (B + 1) (Guest.complete { g with okind := k, oslot := g.slot, oa := a, ob := b } cd v) := fun cd v => GI.complete (GI_base h k g.slot a b 0 false (by omega) (by simp)) hB cd v
    simp only
    split
    · exact ⟨hc _ _, Idl.complete _ _ _⟩
    split
    · exact ⟨hc _ _, Idl.complete _ _ _⟩
    split
    · exact ⟨hc _ _, Idl.complete _ _ _⟩
    · refine ⟨?_, Idl.busy rfl⟩
      have := (GI_base h k g.slot a b (if k = 1 then 4 else 1) true (by split <;> omega) (by split <;> simp)).le (C := B + 1) (by omega)
      rw [← hi hbz] at this
      exact this
def wFresh (k : Int) : Guest := { Guest.zero with up := true, slot := k }
theorem fresh_GI {B : Int} {k : Int} (hB : 1 ≤ B) (hk : 0 ≤ k ∧ k ≤ 4) : GI B (wFresh k) := by
  refine ⟨?_, ?_, ?_, ?_, ?_, ?_, ?_, ?_, ?_, ?_, ?_, ?_, ?_, ?_, ?_, ?_, ?_, ?_, ?_, ?_, ?_, ?_, ?_, ?_⟩ <;> simp [wFresh, Guest.zero, isW] <;> omega
noncomputable section
/-- One who comes. -/
def wBorn (ws : List Int) (gs : List Guest) (k : Int) : List Guest :=
  if gs.length < 6 ∧ 0 ≤ k ∧ k < (check ws).1.slots then gs ++ [wFresh k] else gs
/-- n steps of one guest. -/
def wSteps (i : Nat) : Nat → List Int × List Guest → List Int × List Guest
  | 0, w => w
  | n + 1, w => wSteps i n ((wOne w.1 w.2 i).1, (wOne w.1 w.2 i).2.1)
/-- An event: its kind, its guest, a number, and an op. -/
structure Ev where
  kind : Int
  who : Int
  n : Int
  op : Int
  a : Int
  b : Int
def wDo (ws : List Int) (gs : List Guest) (e : Ev) : List Int × List Guest :=
  if e.kind = 1 then (ws, wBorn ws gs e.n)
  else if e.kind = 5 then (tickW ws e.n, gs)
  else if e.who < 0 ∨ (gs.length : Int) ≤ e.who then (ws, gs)
  else if e.kind = 2 then (ws, gs.set e.who.toNat { gs.getD e.who.toNat Guest.zero with up := false })
  else if e.kind = 3 then (ws, gs.set e.who.toNat (Guest.asked (gs.getD e.who.toNat Guest.zero) e.op e.a e.b))
  else if e.kind = 4 then wSteps e.who.toNat (min e.n 400).toNat (ws, gs)
  else (ws, gs)
end
theorem Apt.one (z : Nat) (k : Int) : Apt z [(wFresh k, .nils, .nils)] := by
  intro x hx
  obtain rfl := List.mem_singleton.1 hx
  exact ⟨.inr rfl, .inr rfl⟩
theorem Apt.snoc {z : Nat} {gs gs' : List (Guest × AV × AV)} (h : Apt z gs) (h' : Apt z gs') : Apt z (gs ++ gs') := by
  intro x hx
  rcases List.mem_append.1 hx with hx | hx
  · exact h x hx
  · exact h' x hx
theorem zBorn_fn (σ : AHeap) (lo : Nat) (B : Int) (j : Nat) (v : AV) (gb : Nat) (ws : List Int) (gs : List (Guest × AV × AV)) (h : WAt σ lo B j v gb ws gs) (k : Int) (hB : 1 ≤ B) :
    Fn Tryz.prog 145 [.agg [.sl j 0 ws.length 1, v], .int .i64 k] σ fun x τ => ∃ v' gb' gs', x = .agg [.sl j 0 ws.length 1, v'] ∧ gs'.map (·.1) = wBorn ws (gs.map (·.1)) k ∧ WAt τ lo B j v' gb' ws gs' ∧ (gb' = gb ∨ σ.n ≤ gb') ∧ (∀ z, z < σ.n → Apt z gs → Apt z gs') ∧ (∀ y, y < σ.n → NE y j → NE y gb → τ.get y = σ.get y) := by
  have hh := h
  obtain ⟨hj, hw, lj, lg, W, len, l2, m6, hv, G, hB0⟩ := h
  obtain ⟨⟨r1, r2⟩, ⟨r3, r4⟩, r5, r6⟩ := check_rng ws
  by_cases hc : gs.length < 6 ∧ 0 ≤ k ∧ k < (check ws).1.slots
  · have ho : wBorn ws (gs.map (·.1)) k = gs.map (·.1) ++ [wFresh k] := by unfold wBorn; rw [if_pos (by simpa using hc)]
    rw [ho]
    obtain ⟨c1, c2, c3⟩ := hc
    cases hv with
    | none =>
      refine (yBorn0_fn σ j ws.length k ws hw hj rfl W (by omega) ⟨c2, c3⟩ (by omega)).use ?_
      rintro x τ hn ⟨q, rfl, a1, a2, a3, a4⟩
      refine ⟨_, q, [(wFresh k, .nils, .nils)], rfl, rfl, ⟨by omega, (a4 j hj).trans hw, lj, by omega, W, len, l2, by simp, .some rfl (Nat.le_refl _) a3 (by simp only [NE]; omega) a1, ?_, hB0⟩, .inr a2, fun z _ _ => Apt.one z k, fun y y1 _ _ => a4 y y1⟩
      intro x hx
      obtain rfl := List.mem_singleton.1 hx
      exact ⟨fresh_GI hB (by omega), .nil, .nil, .inr rfl, .inr rfl, .inr rfl, .inr rfl, .inr rfl, .inr rfl, fun _ => rfl⟩
    | @some gb m gs h0 h1 h2 h3 h4 =>
      refine (yBorn_fn σ j ws.length gb m k ws gs hw hj rfl W (by omega) h2 h4 h0 (by omega) ⟨c2, c3⟩ (by omega)).use ?_
      rintro x τ hn ⟨q, rfl, a1, a2, a3, a4⟩
      have hf : ∀ y, y < σ.n → NE y j → NE y gb → τ.get y = σ.get y := fun y y1 _ y3 => a4 y y1 y3
      refine ⟨_, q, gs ++ [(wFresh k, .nils, .nils)], rfl, by simp, ⟨by omega, (a4 j hj h3.symm).trans hw, lj, by omega, W, len, l2, by simp; omega, .some (by simp [h0]) (by omega) a3 (by simp only [NE]; omega) a1, ?_, hB0⟩, .inr a2, fun z _ h => Apt.snoc h (Apt.one z k), hf⟩
      intro x hx
      rcases List.mem_append.1 hx with hx | hx
      · have hg := (G x hx).keep2 hn hf (Int.le_refl _)
        exact ⟨hg.gi, hg.s, hg.p, hg.sj, hg.pj, Ls_ap (G x hx).s a2, Ls_ap (G x hx).p a2, hg.sl, hg.pl, hg.idl⟩
      · obtain rfl := List.mem_singleton.1 hx
        exact ⟨fresh_GI hB (by omega), .nil, .nil, .inr rfl, .inr rfl, .inr rfl, .inr rfl, .inr rfl, .inr rfl, fun _ => rfl⟩
  · have ho : wBorn ws (gs.map (·.1)) k = gs.map (·.1) := by unfold wBorn; rw [if_neg (by simpa using hc)]
    rw [ho]
    generalize hG : (fun (x : AV) (τ : AHeap) => ∃ v' gb' gs', x = AV.agg [.sl j 0 ws.length 1, v'] ∧ gs'.map (·.1) = gs.map (·.1) ∧ WAt τ lo B j v' gb' ws gs' ∧ (gb' = gb ∨ σ.n ≤ gb') ∧ (∀ z, z < σ.n → Apt z gs → Apt z gs') ∧ (∀ y, y < σ.n → NE y j → NE y gb → τ.get y = σ.get y)) = GG
    have fin : ∀ τ : AHeap, σ.n ≤ τ.n → (∀ y, y < σ.n → τ.get y = σ.get y) → GG (.agg [.sl j 0 ws.length 1, v]) τ := by
      intro τ hn hf
      rw [← hG]
      exact ⟨v, gb, gs, rfl, rfl, hh.frame hn hf, .inl rfl, fun _ _ h => h, fun y y1 _ _ => hf y y1⟩
    have iv := hh.isL
    refine fn_of ord145 mixed Tryz.func145 (by kernel_rfl) rfl (by kernel_rfl) ?_
    have hvl := lsv_at hj hw rfl
    clear hG hh G
    cases hv with
    | none =>
      have hc' : ¬ 0 ≤ k ∨ (0 ≤ k ∧ (check ws).1.slots ≤ k) := by simp at hc; omega
      rcases hc' with e1 | ⟨e1, e2⟩
      · simp (config := {contextual := true, maxSteps := 1000000}) (disch := first | exact dB | fail) [go_sem, envOf, wrap_i64, int_lt, -Int.not_le, -Int.not_lt, Bool.decide_and, Bool.decide_or, and_assoc, Bool.and_assoc, Bool.or_assoc, Prod.exists, Prod.forall, -List.map_set, set_put, ord145, e1]
        (repeat refine Alt.mk ?_)
        exact fin _ (by simp only [push_n', set_n']; omega) (by first | exact cKP | fail)
      · simp (config := {contextual := true, maxSteps := 1000000}) (disch := first | exact dB | fail) [go_sem, envOf, wrap_i64, int_lt, -Int.not_le, -Int.not_lt, Bool.decide_and, Bool.decide_or, and_assoc, Bool.and_assoc, Bool.or_assoc, Prod.exists, Prod.forall, -List.map_set, set_put, ord145, e1, e2]
        (repeat refine Alt.mk ?_)
        exact fin _ (by simp only [push_n', set_n']; omega) (by first | exact cKP | fail)
    | @some gb m gs h0 h1 h2 h3 h4 =>
      have hc' : (6 : Int) ≤ (m : Int) ∨ (¬ (6 : Int) ≤ (m : Int) ∧ ¬ 0 ≤ k) ∨ (¬ (6 : Int) ≤ (m : Int) ∧ 0 ≤ k ∧ (check ws).1.slots ≤ k) := by omega
      rcases hc' with e1 | ⟨e1, e2⟩ | ⟨e1, e2, e3⟩
      · simp (config := {contextual := true, maxSteps := 1000000}) (disch := first | exact dB | fail) [go_sem, envOf, wrap_i64, int_lt, -Int.not_le, -Int.not_lt, Bool.decide_and, Bool.decide_or, and_assoc, Bool.and_assoc, Bool.or_assoc, Prod.exists, Prod.forall, -List.map_set, set_put, ord145, e1]
        (repeat refine Alt.mk ?_)
        exact fin _ (by simp only [push_n', set_n']; omega) (by first | exact cKP | fail)
      · simp (config := {contextual := true, maxSteps := 1000000}) (disch := first | exact dB | fail) [go_sem, envOf, wrap_i64, int_lt, -Int.not_le, -Int.not_lt, Bool.decide_and, Bool.decide_or, and_assoc, Bool.and_assoc, Bool.or_assoc, Prod.exists, Prod.forall, -List.map_set, set_put, ord145, e1, e2]
        (repeat refine Alt.mk ?_)
        exact fin _ (by simp only [push_n', set_n']; omega) (by first | exact cKP | fail)
      · simp (config := {contextual := true, maxSteps := 1000000}) (disch := first | exact dB | fail) [go_sem, envOf, wrap_i64, int_lt, -Int.not_le, -Int.not_lt, Bool.decide_and, Bool.decide_or, and_assoc, Bool.and_assoc, Bool.or_assoc, Prod.exists, Prod.forall, -List.map_set, set_put, ord145, e1, e2, e3]
        (repeat refine Alt.mk ?_)
        exact fin _ (by simp only [push_n', set_n']; omega) (by first | exact cKP | fail)
end AH
/- CONTRACTS OF THE REFERENCE: what an event does to a world. -/
namespace AH
open Go Go.Proofs Ho
set_option maxRecDepth 20000
set_option maxHeartbeats 16000000
abbrev evV (e : Ev) : List AV := [.int .i64 e.kind, .int .i64 e.who, .int .i64 e.n, .int .i64 e.op, .int .i64 e.a, .int .i64 e.b]
theorem WAt.le {τ : AHeap} {lo : Nat} {B B' : Int} {j : Nat} {v : AV} {gb : Nat} {ws : List Int} {gs : List (Guest × AV × AV)} (h : WAt τ lo B j v gb ws gs) (hB : B ≤ B') (hB' : B' ≤ 900000) : WAt τ lo B' j v gb ws gs :=
  ⟨h.hj, h.hw, h.lj, h.lg, h.W, h.len, h.l2, h.m6, h.hv, fun x hx => (h.G x hx).keep2 (Nat.le_refl _) (fun _ _ _ _ => rfl) hB, hB'⟩
theorem WAt.lt {τ : AHeap} {lo : Nat} {B : Int} {j : Nat} {v : AV} {gb : Nat} {ws : List Int} {gs : List (Guest × AV × AV)} (h : WAt τ lo B j v gb ws gs) : v.lt τ.n = true := by
  cases h.hv with
  | none => rfl
  | some h0 h1 h2 => simpa [AV.lt] using h2
theorem WAt.words {σ τ : AHeap} {lo : Nat} {B : Int} {j : Nat} {v : AV} {gb : Nat} {ws ws' : List Int} {gs : List (Guest × AV × AV)} (h : WAt σ lo B j v gb ws gs) (hn : σ.n ≤ τ.n) (hw : τ.get j = some ⟨ws'.map (.int .u64), true⟩) (hf : ∀ y, y < σ.n → NE y j → τ.get y = σ.get y) (W : ∀ w ∈ ws', isW w) (hl : ws'.length = ws.length) : WAt τ lo B j v gb ws' gs := by
  have h1 := h.hj
  refine ⟨by omega, hw, h.lj, h.lg, W, by rw [hl]; exact h.len, by rw [hl]; exact h.l2, h.m6, ?_, fun x hx => (h.G x hx).keep2 hn (fun y y1 y2 _ => hf y y1 y2) (Int.le_refl _), h.B⟩
  cases h.hv with
  | none => exact .none
  | some h0 h1 h2 h3 h4 => exact .some h0 h1 (by omega) h3 ((hf _ h2 h3).trans h4)
theorem tickW_isW {ws : List Int} (h : ∀ w ∈ ws, isW w) (n : Int) : ∀ w ∈ tickW ws n, isW w := by
  unfold tickW
  split
  · exact h
  · exact put_isW_ h (pack_isW _ _)
theorem tickW_len (ws : List Int) (n : Int) : (tickW ws n).length = ws.length := by
  unfold tickW
  split
  · rfl
  · exact put_len_ _ _ _
theorem splice_cell (l : List AV) (k f : Nat) (b : AV) (hk : k + 26 ≤ l.length) (hf : f < 26) : splice l (k + f) [b] = splice l k (((l.drop k).take 26).set f b) := by
  unfold splice
  have e1 : l.drop k = (l.drop k).take 26 ++ l.drop (k + 26) := by
    conv => lhs; rw [← List.take_append_drop 26 (l.drop k)]
    rw [List.drop_drop]
  obtain ⟨M, hM⟩ : ∃ M, (l.drop k).take 26 = M := ⟨_, rfl⟩
  have hl : M.length = 26 := by rw [← hM]; simp; omega
  rw [hM] at e1 ⊢
  have e2 : l.take (k + f) = l.take k ++ M.take f := by
    rw [List.take_add, e1, List.take_append_of_le_length (by omega)]
  have e3 : l.drop (k + f + 1) = M.drop (f + 1) ++ l.drop (k + 26) := by
    rw [show k + f + 1 = k + (f + 1) by omega, ← List.drop_drop, e1, List.drop_append_of_le_length (by omega)]
  have e4 : M.set f b = M.take f ++ [b] ++ M.drop (f + 1) := by
    rw [List.set_eq_take_append_cons_drop, if_pos (by omega)]
    simp
  rw [e2]
  simp only [List.length_singleton, List.length_set, hl]
  rw [e3, e4]
  simp [List.append_assoc]
theorem gCells_cell {gs : List (Guest × AV × AV)} {i f : Nat} {x : Guest × AV × AV} (h : gs[i]? = some x) (hf : f < 26) (b : AV) (g' : Guest) (he : (gV x.1 x.2.1 x.2.2).set f b = gV g' x.2.1 x.2.2) : splice (gCells gs) (i * 26 + f) [b] = gCells (gs.set i (g', x.2.1, x.2.2)) := by
  have hi : i < gs.length := by
    rcases Nat.lt_or_ge i gs.length with h' | h'
    · exact h'
    · rw [List.getElem?_eq_none h'] at h; cases h
  rw [splice_cell _ _ _ _ (by rw [gCells_len]; omega) hf, gCells_sub h, he, gCells_put hi]
theorem wOne_len (ws : List Int) (gs : List Guest) (i : Nat) : (wOne ws gs i).2.1.length = gs.length := by
  unfold wOne
  simp only
  split
  · rfl
  · simp
/-- A guest's steps, u of N done. -/
structure DoL (σ : AHeap) (lo : Nat) (B : Int) (j gb m N i : Nat) (e : Ev) (ws : List Int) (gs : List (Guest × AV × AV)) (u : Nat) (ws1 : List Int) (gs1 : List (Guest × AV × AV)) (τ : AHeap) : Prop where
  un : u ≤ N
  W : WAt τ lo (B + 2 * u) j (.sl gb 0 m 26) gb ws1 gs1
  len : gs1.length = gs.length
  st : wSteps i (N - u) (ws1, gs1.map (·.1)) = wSteps i N (ws, gs.map (·.1))
  g0 : τ.get σ.n = some ⟨[.sl j 0 ws1.length 1, .sl gb 0 m 26], true⟩
  g1 : τ.get (σ.n + 1) = some ⟨evV e, true⟩
  g2 : τ.get (σ.n + 1 + 1) = some ⟨[.nils, .nils], true⟩
  nn : σ.n + 1 + 1 < τ.n
  fr : ∀ y, y < σ.n → NE y j → NE y gb → τ.get y = σ.get y
  ap : ∀ z, Apt z gs → (z < σ.n + 1 + 1 + 1) → Apt z gs1
theorem zWDo_fn (σ : AHeap) (lo : Nat) (B : Int) (j : Nat) (v : AV) (gb : Nat) (ws : List Int) (gs : List (Guest × AV × AV)) (h : WAt σ lo B j v gb ws gs) (e : Ev) (hB : 1 ≤ B ∧ B + 801 ≤ 900000) :
    Fn Tryz.prog 82 [.agg [.sl j 0 ws.length 1, v], .agg (evV e)] σ fun x τ => ∃ v' gb' ws' gs', x = .agg [.sl j 0 ws'.length 1, v'] ∧ (ws', gs'.map (·.1)) = wDo ws (gs.map (·.1)) e ∧ WAt τ lo (B + 800) j v' gb' ws' gs' ∧ (gb' = gb ∨ σ.n ≤ gb') ∧ (∀ z, z < σ.n → Apt z gs → Apt z gs') ∧ (∀ y, y < σ.n → NE y j → NE y gb → τ.get y = σ.get y) := by
  have hh := h
  have iv := h.isL
  generalize hG : (fun (x : AV) (τ : AHeap) => ∃ v' gb' ws' gs', x = AV.agg [.sl j 0 ws'.length 1, v'] ∧ (ws', gs'.map (·.1)) = wDo ws (gs.map (·.1)) e ∧ WAt τ lo (B + 800) j v' gb' ws' gs' ∧ (gb' = gb ∨ σ.n ≤ gb') ∧ (∀ z, z < σ.n → Apt z gs → Apt z gs') ∧ (∀ y, y < σ.n → NE y j → NE y gb → τ.get y = σ.get y)) = GG
  have fin : ∀ (τ : AHeap) (v' : AV) (gb' : Nat) (ws' : List Int) (gs' : List (Guest × AV × AV)) (B' : Int), (ws', gs'.map (·.1)) = wDo ws (gs.map (·.1)) e → WAt τ lo B' j v' gb' ws' gs' → B' ≤ B + 800 → (gb' = gb ∨ σ.n ≤ gb') → (∀ z, z < σ.n → Apt z gs → Apt z gs') → (∀ y, y < σ.n → NE y j → NE y gb → τ.get y = σ.get y) → GG (.agg [.sl j 0 ws'.length 1, v']) τ := by
    intro τ v' gb' ws' gs' B' x1 x2 x3 x4 x5 x6
    rw [← hG]
    exact ⟨v', gb', ws', gs', rfl, x1, x2.le x3 (by omega), x4, x5, x6⟩
  clear hG
  refine fn_of ord82 mixed Tryz.func82 (by kernel_rfl) rfl (by kernel_rfl) ?_
  have fr : ∀ τ : AHeap, (∀ y, y < σ.n → τ.get y = σ.get y) → ∀ y, y < σ.n → NE y j → NE y gb → τ.get y = σ.get y := fun τ h y y1 _ _ => h y y1
  by_cases k1 : e.kind = 1
  · have ho : wDo ws (gs.map (·.1)) e = (ws, wBorn ws (gs.map (·.1)) e.n) := by unfold wDo; rw [if_pos k1]
    rw [ho] at fin
    simp (config := {contextual := true, maxSteps := 1000000}) (disch := first | exact dB | fail) [go_sem, envOf, wrap_i64, int_lt, -Int.not_le, -Int.not_lt, Bool.decide_and, Bool.decide_or, and_assoc, Bool.and_assoc, Bool.or_assoc, Prod.exists, Prod.forall, -List.map_set, set_put, ord82, k1]
    (repeat refine Alt.mk ?_)
    refine callP_gen (fun σ1 => σ.n + 1 + 1 < σ1.n ∧ (∀ y, y < σ.n → σ1.get y = σ.get y) ∧ σ1.get (σ.n + 1 + 1) = some ⟨[.nils, .nils], true⟩) ?_ ?_
    · exact ⟨by simp only [push_n', set_n']; omega, by first | exact cKP | fail, by (first | exact cGT | fail)⟩
    rintro σ1 ⟨x1, x2, x3⟩
    have hn1 : σ.n ≤ σ1.n := by omega
    refine callP_use (zBorn_fn σ1 lo B j v gb ws gs (hh.frame hn1 x2) e.n hB.1) ?_
    rintro x τ hn ⟨v', gb', gs', rfl, y1, y2, y3, y5, y4⟩
    have iv' := y2.isL
    have lj := h.hj
    have w0 : τ.get (σ.n + 1 + 1) = some ⟨[.nils, .nils], true⟩ := by
      rw [y4 _ (by omega) (by simp only [NE]; omega) ?_]; exact x3
      cases h.hv with
      | none => simp only [NE]; omega
      | some h0 h1 h2 => simp only [NE]; omega
    simp (config := {contextual := true, maxSteps := 1000000}) (disch := first | exact dB | fail) [go_sem, envOf, wrap_i64, int_lt, -Int.not_le, -Int.not_lt, Bool.decide_and, Bool.decide_or, and_assoc, Bool.and_assoc, Bool.or_assoc, Prod.exists, Prod.forall, -List.map_set, set_put, ord82, w0]
    (repeat refine Alt.mk ?_)
    have e1 : NE gb' (σ.n + 1 + 1) := by
      rcases y3 with rfl | y3
      · cases h.hv with
        | none => simp only [NE]; omega
        | some h0 h1 h2 => simp only [NE]; omega
      · simp only [NE]; omega
    refine fin _ v' gb' ws gs' B (by rw [y1]) (y2.outs (z := σ.n + 1 + 1) (by simp only [set_n']; omega) (by simp only [NE]; omega) e1 (y5 _ x1 (h.apt (by omega))) (fun y q1 q2 => by (first | exact cGT | fail))) (by omega) ?_ (fun z z1 z2 => y5 z (by omega) z2) ?_
    · rcases y3 with y3 | y3
      · exact .inl y3
      · exact .inr (by omega)
    · intro y q1 q2 q3
      rw [set_get_ne (by omega), y4 y (by omega) q2 q3, x2 y q1]
  by_cases k5 : e.kind = 5
  · have ho : wDo ws (gs.map (·.1)) e = (tickW ws e.n, gs.map (·.1)) := by unfold wDo; rw [if_neg k1, if_pos k5]
    rw [ho] at fin
    simp (config := {contextual := true, maxSteps := 1000000}) (disch := first | exact dB | fail) [go_sem, envOf, wrap_i64, int_lt, -Int.not_le, -Int.not_lt, Bool.decide_and, Bool.decide_or, and_assoc, Bool.and_assoc, Bool.or_assoc, Prod.exists, Prod.forall, -List.map_set, set_put, ord82, k1, k5]
    (repeat refine Alt.mk ?_)
    refine callP_gen (fun σ1 => σ.n + 1 + 1 < σ1.n ∧ (∀ y, y < σ.n → σ1.get y = σ.get y) ∧ σ1.get (σ.n + 1 + 1) = some ⟨[.nils, .nils], true⟩) ?_ ?_
    · exact ⟨by simp only [push_n', set_n']; omega, by first | exact cKP | fail, by (first | exact cGT | fail)⟩
    rintro σ1 ⟨x1, x2, x3⟩
    have hn1 : σ.n ≤ σ1.n := by omega
    have h1 := hh.frame hn1 x2
    have lj := h.hj
    have l2 := h.l2
    have len := h.len
    refine callP_use (zTick_fn σ1 j ws.length v e.n ws h1.hw h1.hj rfl h1.W (by omega) h1.lt iv) ?_
    rintro x τ hn ⟨rfl, rfl⟩
    have w0 : (σ1.set j ⟨(tickW ws e.n).map (.int .u64), true⟩).get (σ.n + 1 + 1) = some ⟨[.nils, .nils], true⟩ := by rw [set_get_ne (by omega)]; exact x3
    simp (config := {contextual := true, maxSteps := 1000000}) (disch := first | exact dB | fail) [go_sem, envOf, wrap_i64, int_lt, -Int.not_le, -Int.not_lt, Bool.decide_and, Bool.decide_or, and_assoc, Bool.and_assoc, Bool.or_assoc, Prod.exists, Prod.forall, -List.map_set, set_put, ord82, w0]
    (repeat refine Alt.mk ?_)
    have e1 : NE gb (σ.n + 1 + 1) := by
      cases h.hv with
      | none => simp only [NE]; omega
      | some h0 h1 h2 => simp only [NE]; omega
    have h2 := h1.words (τ := σ1.set j ⟨(tickW ws e.n).map (.int .u64), true⟩) (by simp only [set_n']; omega) (get_set_same _ _) (fun y y1 y2 => set_get_ne y2.ne) (tickW_isW h.W _) (tickW_len _ _)
    have fin' := fun τ h => fin τ v gb (tickW ws e.n) gs B rfl h (by omega) (.inl rfl) (fun _ _ h => h)
    rw [tickW_len] at fin'
    refine fin' _ (h2.outs (z := σ.n + 1 + 1) (by simp only [set_n']; omega) (by simp only [NE]; omega) e1 (h.apt (by omega)) (fun y q1 q2 => by (first | exact cGT | fail))) ?_
    intro y q1 q2 q3
    rw [set_get_ne (by omega), set_get_ne q2.ne, x2 y q1]
  by_cases hw : e.who < 0 ∨ (gs.length : Int) ≤ e.who
  · have ho : wDo ws (gs.map (·.1)) e = (ws, gs.map (·.1)) := by unfold wDo; rw [if_neg k1, if_neg k5, if_pos (by simpa using hw)]
    rw [ho] at fin
    have f1 : ∀ τ : AHeap, σ.n ≤ τ.n → (∀ y, y < σ.n → τ.get y = σ.get y) → GG (.agg [.sl j 0 ws.length 1, v]) τ := fun τ hn hf => fin τ v gb ws gs B rfl (hh.frame hn hf) (by omega) (.inl rfl) (fun _ _ h => h) (fr τ hf)
    clear fin hh
    by_cases hw1 : e.who < 0
    · have hw1' : ¬ 0 ≤ e.who := by omega
      simp (config := {contextual := true, maxSteps := 1000000}) (disch := first | exact dB | fail) [go_sem, envOf, wrap_i64, int_lt, -Int.not_le, -Int.not_lt, Bool.decide_and, Bool.decide_or, and_assoc, Bool.and_assoc, Bool.or_assoc, Prod.exists, Prod.forall, -List.map_set, set_put, ord82, k1, k5, hw1']
      (repeat refine Alt.mk ?_)
      exact f1 _ (by simp only [push_n', set_n']; omega) (by first | exact cKP | fail)
    · have hw1' : 0 ≤ e.who := by omega
      cases h.hv with
      | none =>
        have hw2 : (0 : Int) ≤ e.who := by omega
        simp (config := {contextual := true, maxSteps := 1000000}) (disch := first | exact dB | fail) [go_sem, envOf, wrap_i64, int_lt, -Int.not_le, -Int.not_lt, Bool.decide_and, Bool.decide_or, and_assoc, Bool.and_assoc, Bool.or_assoc, Prod.exists, Prod.forall, -List.map_set, set_put, ord82, k1, k5, hw1']
        (repeat refine Alt.mk ?_)
        exact f1 _ (by simp only [push_n', set_n']; omega) (by first | exact cKP | fail)
      | @some gb m gs h0 h1 h2 h3 h4 =>
        have hw2 : (m : Int) ≤ e.who := by omega
        simp (config := {contextual := true, maxSteps := 1000000}) (disch := first | exact dB | fail) [go_sem, envOf, wrap_i64, int_lt, -Int.not_le, -Int.not_lt, Bool.decide_and, Bool.decide_or, and_assoc, Bool.and_assoc, Bool.or_assoc, Prod.exists, Prod.forall, -List.map_set, set_put, ord82, k1, k5, hw1', hw2]
        (repeat refine Alt.mk ?_)
        exact f1 _ (by simp only [push_n', set_n']; omega) (by first | exact cKP | fail)
  obtain ⟨i, hi⟩ : ∃ i : Nat, e.who = i := ⟨e.who.toNat, by omega⟩
  have hil : i < gs.length := by omega
  have hv := h.hv
  cases hv with
  | none => simp at hil
  | @some gb m gs h0 h1 h2 h3 h4 =>
    obtain ⟨⟨g, sv, pv⟩, hx⟩ : ∃ x, gs[i]? = some x := ⟨gs[i]'hil, by simp [hil]⟩
    have hg0 : (gs.map (·.1)).getD i Guest.zero = g := by simp [hx]
    have hsub := gCells_sub hx
    have hlen : i * 26 + 26 ≤ (gCells gs).length := by rw [gCells_len]; omega
    have hGA := h.G _ (List.mem_of_getElem? hx)
    have hGA0 := hGA
    obtain ⟨q0, q1, q2, q3, q4, q5, q6, q7, q8, q9⟩ := hGA
    have i1 := q1.isL
    have i2 := q2.isL
    have him : i < m := by omega
    have him' : ¬ m ≤ i := by omega
    have n1 : ¬ gb = σ.n := by omega
    have n2 : ¬ gb = σ.n + 1 := by omega
    have n3 : ¬ gb = σ.n + 1 + 1 := by omega
    have hj := h.hj
    have lj := h.lj
    have w3 : ¬ e.who < 0 := by omega
    have w4 : ¬ (gs.length : Int) ≤ e.who := hw ∘ .inr
    have w5 : ¬ (e.who < 0 ∨ (((gs.map (·.1)).length : Nat) : Int) ≤ e.who) := by simpa using hw
    have hit : e.who.toNat = i := by omega
    by_cases k2 : e.kind = 2
    · have ho : wDo ws (gs.map (·.1)) e = (ws, (gs.map (·.1)).set i { g with up := false }) := by unfold wDo; rw [if_neg k1, if_neg k5, if_neg w5, if_pos k2, hit, hg0]
      rw [ho] at fin
      simp (config := {contextual := true, maxSteps := 1000000}) (disch := first | exact dB | fail) [go_sem, envOf, wrap_i64, int_lt, -Int.not_le, -Int.not_lt, Bool.decide_and, Bool.decide_or, and_assoc, Bool.and_assoc, Bool.or_assoc, Prod.exists, Prod.forall, -List.map_set, set_put, ord82, k1, k5, k2, hi, him, him', n1, n2, n3, h4, hlen, hsub]
      (repeat refine Alt.mk ?_)
      have hc := gCells_cell (f := 0) hx (by omega) (.bool false) { g with up := false } rfl
      simp only [Nat.add_zero] at hc
      rw [hc]
      have hf : ∀ τ : AHeap, (∀ y, y < σ.n → NE y gb → τ.get y = σ.get y) → ∀ y, y < σ.n → NE y j → NE y gb → τ.get y = σ.get y := fun τ h y y1 _ y3 => h y y1 y3
      have go : ∀ τ : AHeap, σ.n ≤ τ.n → τ.get gb = some ⟨gCells (gs.set i ({ g with up := false }, sv, pv)), true⟩ → (∀ y, y < σ.n → NE y gb → τ.get y = σ.get y) → GG (.agg [.sl j 0 ws.length 1, .sl gb 0 m 26]) τ := by
        intro τ a1 a2 a3
        refine fin τ _ gb ws (gs.set i ({ g with up := false }, sv, pv)) B (by simp [List.map_set]) (hh.put hil a1 ((a3 j hj h3.symm).trans h.hw) a2 (hf τ a3) h.W rfl ?_ (Int.le_refl _) h.B) (by omega) (.inl rfl) (fun z _ hz => ?_) (hf τ a3)
        · refine GA.nv hGA0 hj h2 lj a1 (hf τ a3) (g' := { g with up := false }) ?_ hGA0.idl (.inl ⟨rfl, rfl⟩) (.inl ⟨rfl, rfl⟩)
          obtain ⟨d1, d2, d3, d4, d5, d6, d7, d8, d9, d10, d11, d12, d13, d14, d15, d16, d17, d18, d19, d20, d21, d22, d23, d24⟩ := q0
          exact ⟨d1, d2, d3, d4, d5, d6, d7, d8, d9, d10, d11, d12, d13, d14, d15, d16, d17, d18, d19, d20, d21, d22, d23, d24⟩
        · exact Apt.put (n := z + 1) (τ := τ) (l1 := []) (l2 := []) (l3 := []) (l4 := []) hz hx (by omega) (.inl ⟨rfl, rfl⟩) (.inl ⟨rfl, rfl⟩)
      refine go _ ?_ ?_ ?_
      · simp only [push_n', set_n']; omega
      · (first | exact cGT | fail)
      · intro y y1 y2
        (first | exact cGT | fail)
    by_cases k3 : e.kind = 3
    · have ho : wDo ws (gs.map (·.1)) e = (ws, (gs.map (·.1)).set i (Guest.asked g e.op e.a e.b)) := by unfold wDo; rw [if_neg k1, if_neg k5, if_neg w5, if_neg k2, if_pos k3, hit, hg0]
      rw [ho] at fin
      have s0 : (g.snap.length : Int) ≤ B := q0.snap
      have s0' : (g.plan.length : Int) ≤ 20 := q0.plan
      have s1 : (g.snap.length : Int) ≤ 1000000 := by omega
      have s2 : (g.plan.length : Int) ≤ 1000000 := by omega
      have s3 : 0 ≤ g.count ∧ g.count ≤ B := q0.count
      have s4 : g.count ≤ 10000000 := by omega
      simp (config := {contextual := true, maxSteps := 1000000}) (disch := first | exact dB | fail) [go_sem, envOf, wrap_i64, int_lt, -Int.not_le, -Int.not_lt, Bool.decide_and, Bool.decide_or, and_assoc, Bool.and_assoc, Bool.or_assoc, Prod.exists, Prod.forall, -List.map_set, set_put, ord82, k1, k5, k2, k3, hi, him, him', n1, n2, n3, h4, hlen, hsub]
      (repeat refine Alt.mk ?_)
      intro τ sv' pv' a1 a2 a3 a4 a5 a6 a7
      have z1 := a2.isL
      have z2 := a3.isL
      have o1 := one_isL z1
      have o2 := one_isL z2
      unfold AV.one at o1 o2
      rw [if_pos ⟨o1, o2⟩]
      have c0 : τ.get σ.n = some ⟨[.sl j 0 ws.length 1, .sl gb 0 m 26], true⟩ := by rw [a4 _ (by omega)]; simp +arith
      have c2 : τ.get (σ.n + 1 + 1) = some ⟨[.nils, .nils], true⟩ := by rw [a4 _ (by omega)]; simp +arith
      have c1 : τ.get (σ.n + 1) = some ⟨evV e, true⟩ := by rw [a4 _ (by omega)]; simp +arith
      obtain ⟨A1, A2⟩ := asked_GI (k := e.op) (a := e.a) (b := e.b) hB.1 q0 q9
      generalize Guest.asked g e.op e.a e.b = G at *
      have go : ∀ τ' : AHeap, τ.n ≤ τ'.n → τ'.get gb = some ⟨gCells (gs.set i (G, sv', pv')), true⟩ → (∀ y, y < τ.n → NE y gb → NE y (σ.n + 1 + 1) → τ'.get y = τ.get y) → GG (.agg [.sl j 0 ws.length 1, .sl gb 0 m 26]) τ' := by
        intro τ' b1 b2 b3
        have b4 : ∀ y, y < σ.n → NE y gb → τ'.get y = σ.get y := by
          intro y y1 y2
          rw [b3 y (by omega) y2 (by simp only [NE]; omega), a4 y (by omega)]
          simp only [show ¬ y = σ.n + 1 + 1 by omega, show ¬ y = σ.n + 1 by omega, show ¬ y = σ.n by omega, if_false]
        have e3 : NV (σ.n + 1 + 1 + 1) τ sv sv' g.snap G.snap := .inr ⟨a2, a5⟩
        have e4 : NV (σ.n + 1 + 1 + 1) τ pv pv' g.plan G.plan := .inr ⟨a3, a6⟩
        have e5 := (e3.fr b1 (fun y p1 p2 => b3 y p2 (by simp only [NE]; omega) (by simp only [NE]; omega))).low (n := σ.n) (by omega)
        have e6 := (e4.fr b1 (fun y p1 p2 => b3 y p2 (by simp only [NE]; omega) (by simp only [NE]; omega))).low (n := σ.n) (by omega)
        refine fin τ' _ gb ws (gs.set i (G, sv', pv')) (B + 1) (by simp [List.map_set]) (hh.put hil (by omega) ((b4 j hj h3.symm).trans h.hw) b2 (fun y y1 _ y3 => b4 y y1 y3) h.W rfl ?_ (by omega) (by omega)) (by omega) (.inl rfl) (fun z hz ha => Apt.put ha hx hz e5 e6) (fun y y1 _ y3 => b4 y y1 y3)
        exact GA.nv hGA0 hj h2 lj (by omega) (fun y y1 _ y3 => b4 y y1 y3) A1 A2 e5 e6
      simp (config := {contextual := true, maxSteps := 1000000}) (disch := first | exact dB | fail) [go_sem, envOf, wrap_i64, int_lt, -Int.not_le, -Int.not_lt, Bool.decide_and, Bool.decide_or, and_assoc, Bool.and_assoc, Bool.or_assoc, Prod.exists, Prod.forall, -List.map_set, set_put, ord82, hlen, c0, c1, c2, n1, n2, n3]
      (repeat refine Alt.mk ?_)
      rw [gCells_put hil]
      refine go _ ?_ ?_ ?_
      · simp only [push_n', set_n']; omega
      · (first | exact cGT | fail)
      · intro y y1 y2 y3
        (first | exact cGT | fail)
    by_cases k4 : e.kind = 4
    · obtain ⟨N, hN⟩ : ∃ N : Nat, (min e.n 400).toNat = N := ⟨_, rfl⟩
      have hN4 : N ≤ 400 := by omega
      have ho : wDo ws (gs.map (·.1)) e = wSteps i N (ws, gs.map (·.1)) := by unfold wDo; rw [if_neg k1, if_neg k5, if_neg w5, if_neg k2, if_neg k3, if_pos k4, hit, hN]
      rw [ho] at fin
      simp (config := {contextual := true, maxSteps := 1000000}) (disch := first | exact dB | fail) [go_sem, envOf, wrap_i64, int_lt, -Int.not_le, -Int.not_lt, Bool.decide_and, Bool.decide_or, and_assoc, Bool.and_assoc, Bool.or_assoc, Prod.exists, Prod.forall, -List.map_set, set_put, ord82, k1, k5, k2, k3, k4, hi, him, him']
      (repeat refine Alt.mk ?_)
      refine aloops_gen (fun σ1 => σ.n + 1 + 1 < σ1.n ∧ (∀ y, y < σ.n → σ1.get y = σ.get y) ∧ σ1.get σ.n = some ⟨[.sl j 0 ws.length 1, .sl gb 0 m 26], true⟩ ∧ σ1.get (σ.n + 1) = some ⟨evV e, true⟩ ∧ σ1.get (σ.n + 1 + 1) = some ⟨[.nils, .nils], true⟩) ?_ ?_
      · exact ⟨by simp only [push_n', set_n']; omega, by first | exact cKP | fail, by (first | exact cGT | fail), by (first | exact cGT | fail), by (first | exact cGT | fail)⟩
      rintro σ1 ⟨x1, x2, x3, x4, x5⟩
      refine aloops_lt (fun R_ env τ => ∃ (u : Nat), ∃ (ws1 : List Int), ∃ (gs1 : List (Guest × AV × AV)), env 2 = .ptr σ.n 0 ∧ env 3 = .ptr (σ.n + 1) 0 ∧ env 4 = .ptr (σ.n + 1 + 1) 0 ∧ env 5 = .int .i64 u ∧ R_ (N - u) ∧ (DoL σ lo B j gb m N i e ws gs u ws1 gs1 τ)) (by rintro R_ env τ ⟨u, ws1, gs1, e2, e3, e4, e5, hR_, hD⟩; exact ⟨_, hR_, u, ws1, gs1, e2, e3, e4, e5, rfl, hD⟩) ⟨0, ws, gs, by first | rfl | simp [put_get, *], by first | rfl | simp [put_get, *], by first | rfl | simp [put_get, *], by first | rfl | simp [put_get, *], trivial, ?_⟩ ?_
      rotate_left 1
      rintro m_ env τ ⟨u, ws1, gs1, e2, e3, e4, e5, rfl, hD⟩
      · have hD0 := hD
        obtain ⟨un, DW, Dl, st, d0, d1, d2, nn, dfr, dap⟩ := hD
        by_cases hu : u < N
        · have u1 : ¬ e.n ≤ (u : Int) := by omega
          have u2 : ¬ (400 : Int) ≤ (u : Int) := by omega
          simp (config := {contextual := true, maxSteps := 1000000}) (disch := first | exact dB | fail) [go_sem, envOf, wrap_i64, int_lt, -Int.not_le, -Int.not_lt, Bool.decide_and, Bool.decide_or, and_assoc, Bool.and_assoc, Bool.or_assoc, Prod.exists, Prod.forall, -List.map_set, set_put, ord82, e2, e3, e4, e5, d0, d1, d2, u1, u2, hi]
          (repeat refine Alt.mk ?_)
          refine callP_use (zOne_fn τ lo (B + 2 * u) j _ gb ws1 gs1 DW i (by omega) (by omega)) ?_
          rintro x τ2 hn2 ⟨ws2, gs2, rfl, f1, f2, f3, f4, f5⟩
          have t0 : τ2.get σ.n = some ⟨[.sl j 0 ws1.length 1, .sl gb 0 m 26], true⟩ := (f5 _ (by omega) (by simp only [NE]; omega) (by simp only [NE]; omega)).trans d0
          have t1 : τ2.get (σ.n + 1) = some ⟨evV e, true⟩ := (f5 _ (by omega) (by simp only [NE]; omega) (by simp only [NE]; omega)).trans d1
          have t2 : τ2.get (σ.n + 1 + 1) = some ⟨[.nils, .nils], true⟩ := (f5 _ (by omega) (by simp only [NE]; omega) (by simp only [NE]; omega)).trans d2
          simp (config := {contextual := true, maxSteps := 1000000}) (disch := first | exact dB | fail) [go_sem, envOf, wrap_i64, int_lt, -Int.not_le, -Int.not_lt, Bool.decide_and, Bool.decide_or, and_assoc, Bool.and_assoc, Bool.or_assoc, Prod.exists, Prod.forall, -List.map_set, set_put, ord82, e2, e3, e4, e5, t0, t1, t2]
          (repeat refine Alt.mk ?_)
          have l2 : gs2.length = gs1.length := by
            have := congrArg List.length f2
            rw [wOne_len] at this
            simpa using this
          refine ⟨u + 1, by omega, by omega, ws2, gs2, ⟨by omega, ?_, by omega, ?_, get_set_same _ _, by rw [set_get_ne (by omega)]; exact t1, by rw [set_get_ne (by omega)]; exact t2, by simp only [set_n']; omega, ?_, fun z z1 z2 => f4 z (by omega) (dap z z1 z2)⟩⟩
          · refine ((f3.outs (z := σ.n) (by simp only [set_n']; omega) (by simp only [NE]; omega) (by simp only [NE]; omega) (f4 _ (by omega) (dap _ (h.apt (Nat.le_refl _)) (by omega))) (fun y q1 q2 => by (first | exact cGT | fail))).le ?_ ?_) <;> omega
          · rw [← st, show N - u = (N - (u + 1)) + 1 by omega, wSteps, ← f1, ← f2]
          · intro y y1 y2 y3
            rw [set_get_ne (by omega), f5 y (by omega) y2 y3, dfr y y1 y2 y3]
        · have hu' : u = N := by omega
          have hst : (ws1, gs1.map (·.1)) = wSteps i N (ws, gs.map (·.1)) := by rw [← st, hu', Nat.sub_self]; rfl
          have done : GG (.agg [.sl j 0 ws1.length 1, .sl gb 0 m 26]) (τ.set (σ.n + 1 + 1) ⟨[.sl j 0 ws1.length 1, .sl gb 0 m 26], true⟩) := by
            refine fin _ _ gb ws1 gs1 (B + 2 * u) hst (DW.outs (z := σ.n + 1 + 1) (by simp only [set_n']; omega) (by simp only [NE]; omega) (by simp only [NE]; omega) (dap _ (h.apt (by omega)) (by omega)) (fun y q1 q2 => by (first | exact cGT | fail))) (by omega) (.inl rfl) (fun z hz ha => dap z ha (by omega)) ?_
            intro y y1 y2 y3
            rw [set_get_ne (by omega), dfr y y1 y2 y3]
          have u1 : e.n ≤ (u : Int) ∨ (¬ e.n ≤ (u : Int) ∧ (400 : Int) ≤ (u : Int)) := by omega
          rcases u1 with u1 | ⟨u1, u2⟩
          · simp (config := {contextual := true, maxSteps := 1000000}) (disch := first | exact dB | fail) [go_sem, envOf, wrap_i64, int_lt, -Int.not_le, -Int.not_lt, Bool.decide_and, Bool.decide_or, and_assoc, Bool.and_assoc, Bool.or_assoc, Prod.exists, Prod.forall, -List.map_set, set_put, ord82, e2, e3, e4, e5, d0, d1, d2, u1]
            (repeat refine Alt.mk ?_)
            exact done
          · simp (config := {contextual := true, maxSteps := 1000000}) (disch := first | exact dB | fail) [go_sem, envOf, wrap_i64, int_lt, -Int.not_le, -Int.not_lt, Bool.decide_and, Bool.decide_or, and_assoc, Bool.and_assoc, Bool.or_assoc, Prod.exists, Prod.forall, -List.map_set, set_put, ord82, e2, e3, e4, e5, d0, d1, d2, u1, u2]
            (repeat refine Alt.mk ?_)
            exact done
      · exact ⟨Nat.zero_le _, by simpa using hh.frame (by omega) x2, rfl, rfl, x3, x4, x5, x1, fun y y1 _ _ => x2 y y1, fun z hz _ => hz⟩
    · have ho : wDo ws (gs.map (·.1)) e = (ws, gs.map (·.1)) := by unfold wDo; rw [if_neg k1, if_neg k5, if_neg w5, if_neg k2, if_neg k3, if_neg k4]
      rw [ho] at fin
      have f1 : ∀ τ : AHeap, σ.n ≤ τ.n → (∀ y, y < σ.n → τ.get y = σ.get y) → GG (.agg [.sl j 0 ws.length 1, .sl gb 0 m 26]) τ := fun τ hn hf => fin τ _ gb ws gs B rfl (hh.frame hn hf) (by omega) (.inl rfl) (fun _ _ h => h) (fr τ hf)
      clear fin hh
      simp (config := {contextual := true, maxSteps := 1000000}) (disch := first | exact dB | fail) [go_sem, envOf, wrap_i64, int_lt, -Int.not_le, -Int.not_lt, Bool.decide_and, Bool.decide_or, and_assoc, Bool.and_assoc, Bool.or_assoc, Prod.exists, Prod.forall, -List.map_set, set_put, ord82, k1, k5, k2, k3, k4, hi, him, him']
      (repeat refine Alt.mk ?_)
      exact f1 _ (by simp only [push_n', set_n']; omega) (by first | exact cKP | fail)
end AH
/- THE PLAIN MODEL: what is always true of a world that is played. -/
namespace AH
open Go Go.Proofs Ho
set_option maxHeartbeats 4000000
structure PI (B : Int) (n : Nat) (w : List Int × List Guest) : Prop where
  len : w.1.length = n
  W : ∀ x ∈ w.1, isW x
  G : ∀ g ∈ w.2, GI B g ∧ Idl g
theorem PI.le {B C : Int} {n : Nat} {w : List Int × List Guest} (h : PI B n w) (hB : B ≤ C) : PI C n w := ⟨h.len, h.W, fun g hg => ⟨(h.G g hg).1.le hB, (h.G g hg).2⟩⟩
theorem mem_getD {gs : List Guest} {i : Nat} (h : (gs.getD i Guest.zero).up = true) : gs.getD i Guest.zero ∈ gs := by
  rw [List.getD_eq_getElem?_getD] at h ⊢
  cases hi : gs[i]? with
  | none => rw [hi] at h; cases h
  | some g => exact List.mem_of_getElem? hi
theorem PI.set {B : Int} {n : Nat} {ws ws' : List Int} {gs : List Guest} (h : PI B n (ws, gs)) (hl : ws'.length = ws.length) (hW : ∀ x ∈ ws', isW x) {g : Guest} (hg : GI B g ∧ Idl g) (i : Nat) : PI B n (ws', gs.set i g) := by
  refine ⟨hl.trans h.len, hW, fun x hx => ?_⟩
  rcases List.mem_or_eq_of_mem_set hx with hx | rfl
  · exact h.G x hx
  · exact hg
theorem PI.one {B : Int} {n : Nat} {ws : List Int} {gs : List Guest} (hB : 1 ≤ B) (h : PI B n (ws, gs)) (i : Nat) : PI (B + 2) n ((wOne ws gs i).1, (wOne ws gs i).2.1) := by
  unfold wOne
  simp only
  split
  · exact h.le (by omega)
  · rename_i hn
    have hu : (gs.getD i Guest.zero).up = true := by
      cases hq : (gs.getD i Guest.zero).up with
      | true => rfl
      | false => exact absurd (.inl hq) hn
    have hb : (gs.getD i Guest.zero).busy = true := by
      cases hq : (gs.getD i Guest.zero).busy with
      | true => rfl
      | false => exact absurd (.inr hq) hn
    obtain ⟨⟨r1, r2⟩, ⟨r3, r4⟩, r5, r6⟩ := check_rng ws
    have hs := step_GI (c := (check ws).1) (ws := ws) hB (h.G _ (mem_getD hu)).1 h.W (by omega)
    have h2 : (B + 1 + 1 : Int) = B + 2 := by omega
    exact (h.le (C := B + 2) (by omega)).set hs.l hs.W ⟨h2 ▸ hs.g, step_idl _ _ _ hb⟩ i
theorem PI.steps {n : Nat} (i : Nat) : ∀ (k : Nat) (B : Int) (w : List Int × List Guest), 1 ≤ B → PI B n w → PI (B + 2 * k) n (wSteps i k w) := by
  intro k
  induction k with
  | zero => intro B w _ h; simpa [wSteps] using h
  | succ k ih =>
    intro B w hB h
    have := ih (B + 2) _ (by omega) (PI.one (ws := w.1) (gs := w.2) hB h i)
    unfold wSteps
    exact this.le (by omega)
theorem PI.do {B : Int} {n : Nat} {ws : List Int} {gs : List Guest} (hB : 1 ≤ B) (h : PI B n (ws, gs)) (e : Ev) : PI (B + 800) n (wDo ws gs e) := by
  unfold wDo
  split
  · unfold wBorn
    split
    · rename_i hh
      obtain ⟨⟨r1, r2⟩, _⟩ := check_rng ws
      refine ⟨h.len, h.W, fun g hg => ?_⟩
      rcases List.mem_append.1 hg with hg | hg
      · exact ⟨(h.G g hg).1.le (by omega), (h.G g hg).2⟩
      · obtain rfl := List.mem_singleton.1 hg
        exact ⟨fresh_GI (by omega) (by omega), fun _ => rfl⟩
    · exact h.le (by omega)
  split
  · exact ⟨(tickW_len ws e.n).trans h.len, tickW_isW h.W _, fun g hg => ⟨(h.G g hg).1.le (by omega), (h.G g hg).2⟩⟩
  split
  · exact h.le (by omega)
  rename_i hw
  have hm : gs.getD e.who.toNat Guest.zero ∈ gs := by
    have : e.who.toNat < gs.length := by omega
    rw [List.getD_eq_getElem?_getD, List.getElem?_eq_getElem this]
    exact List.getElem_mem _
  have hg := h.G _ hm
  split
  · refine PI.set (g := { gs.getD e.who.toNat Guest.zero with up := false }) (h.le (C := B + 800) (by omega)) rfl h.W ⟨?_, hg.2⟩ _
    obtain ⟨d1, d2, d3, d4, d5, d6, d7, d8, d9, d10, d11, d12, d13, d14, d15, d16, d17, d18, d19, d20, d21, d22, d23, d24⟩ := hg.1.le (show B ≤ B + 800 by omega)
    exact ⟨d1, d2, d3, d4, d5, d6, d7, d8, d9, d10, d11, d12, d13, d14, d15, d16, d17, d18, d19, d20, d21, d22, d23, d24⟩
  split
  · have ha := asked_GI hB hg.1 hg.2 e.op e.a e.b
    exact (h.le (C := B + 800) (by omega)).set rfl h.W ⟨ha.1.le (by omega), ha.2⟩ _
  split
  · exact (PI.steps _ _ B _ hB h).le (by omega)
  · exact h.le (by omega)
end AH
