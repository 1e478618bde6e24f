import Derived.Test.YtagihpbpblnnoaaGreatD51
import Derived.Test.YtagihpbpblnnoaaGreatD52
import Derived.Test.YtagihpbpblnnoaaGreatD49
import Derived.Test.YtagihpbpblnnoaaGreatD47
set_option linter.all false
namespace AH
open Go Go.Proofs
def ord54 : Nat → DOrd
  | 3 => ⟨[0, 0, 0, 4, 12, 28, 62, 126, 127, 511], [(0, 6)], []⟩
  | _ => ⟨[], [], []⟩
end AH
namespace AH
open Go Go.Proofs Ho
set_option maxRecDepth 20000
set_option maxHeartbeats 16000000
def eCells (evs : List Ev) : List AV := evs.flatMap evV
theorem eCells_len (evs : List Ev) : (eCells evs).length = evs.length * 6 := by
  induction evs with
  | nil => rfl
  | cons e l ih => simp only [eCells, List.flatMap_cons, List.length_append] at ih ⊢; rw [ih]; simp; omega
theorem eCells_snoc (l : List Ev) (e : Ev) : eCells (l ++ [e]) = eCells l ++ evV e := by simp [eCells]
/-- Events, one behind the other. -/
noncomputable def wPlay (w : List Int × List Guest) (evs : List Ev) : List Int × List Guest := evs.foldl (fun x e => wDo x.1 x.2 e) w
theorem wPlay_snoc (w : List Int × List Guest) (evs : List Ev) (e : Ev) : wPlay w (evs ++ [e]) = wDo (wPlay w evs).1 (wPlay w evs).2 e := by simp [wPlay]
def appER (s : Option (Nat × Nat × List AV)) (v : AV × AHeap) [a : Kt (Option (AV × AHeap))] : Option (AV × AHeap) :=
  match s with
  | some (6, 48, _) => some v
  | _ => a.val
theorem appER_some (z : List AV) (v : AV × AHeap) (a : Option (AV × AHeap)) : @appER (some (6, 48, z)) v ⟨a⟩ = some v := _root_.id rfl
theorem app_e {P : Program} {t : TypeId} {τ : AHeap} {q j n : Nat} {vs : List AV} {evs : List Ev} (hj : τ.get j = some ⟨vs, true⟩) (hq : τ.get q = some ⟨eCells evs, true⟩) (hv : vs.length = 6) (ho : vs.all AV.one = true) (hn : evs.length = n) (hb : n ≤ 100000) :
    aappend P t (.sl q 0 n 6) (.sl j 0 1 6) τ = @appER (tySlice P t) (.sl τ.n 0 (n + 1) 6, (τ.kill q).push ⟨eCells evs ++ vs, true⟩) ⟨aappend P t (.sl q 0 n 6) (.sl j 0 1 6) τ⟩ := by
  unfold appER
  split
  · rename_i h
    have e1 : aelems 6 (.sl j 0 1 6) τ = some vs := by
      have e2 : List.take 6 vs = vs := List.take_of_length_le (by omega)
      simp [aelems, hj, hv, e2, ho]
    simp only [aappend, h, e1, alen, hq]
    rw [if_pos ⟨trivial, trivial, by rw [eCells_len, hn]; omega, by omega, by omega⟩]
    simp
  · rfl
attribute [go_sem] app_e appER_some
theorem eCells_at (evs : List Ev) (a b c d e f : AV) : ((eCells evs ++ [a, b, c, d, e, f]).drop (evs.length * 6)).take 6 = [a, b, c, d, e, f] := by
  rw [← eCells_len, List.drop_left]; rfl
/-- A play half done. -/
structure PlayL (σ : AHeap) (i : Nat) (bv : AV) (bs : List Int) (c1 c2 c3 : Int) (z7 : Nat) (B : Int) (j eb : Nat) (evs : List Ev) (p : Int) (v : AV) (gb : Nat) (ws : List Int) (gs : List (Guest × AV × AV)) (τ : AHeap) : Prop where
  W : WAt τ (σ.n + 1 + 1) B j v gb ws gs
  n7 : σ.n + 1 < z7 ∧ z7 < τ.n
  ne : σ.n + 1 < eb ∧ eb < τ.n
  d1 : NE j z7
  d2 : NE j eb
  d3 : NE gb z7
  d4 : NE gb eb
  d5 : NE z7 eb
  a7 : Apt z7 gs
  ae : Apt eb gs
  g4 : τ.get σ.n = some ⟨[.nils, .nils], true⟩
  g6 : τ.get (σ.n + 1) = some ⟨[.int .i64 c1, .int .i64 c2, .int .i64 c3], true⟩
  g7 : τ.get z7 = some ⟨[.sl j 0 ws.length 1, v], true⟩
  ge : τ.get eb = some ⟨eCells evs, true⟩
  rd : Rd τ i bv bs p
  fr : ∀ y, y < σ.n → NE y i → τ.get y = σ.get y
theorem WAt.gbn {σ : AHeap} {lo : Nat} {B : Int} {j : Nat} {v : AV} {gb : Nat} {ws : List Int} {gs : List (Guest × AV × AV)} (h : WAt σ lo B j v gb ws gs) : gb < σ.n := by
  have := h.hj
  cases h.hv with
  | none => exact this
  | some h0 h1 h2 h3 h4 => exact h2
theorem PlayL.app {σ : AHeap} {i : Nat} {bv : AV} {bs : List Int} {c1 c2 c3 : Int} {z7 : Nat} {B : Int} {j eb : Nat} {evs : List Ev} {p : Int} {v : AV} {gb : Nat} {ws : List Int} {gs : List (Guest × AV × AV)} {τ : AHeap} (h : PlayL σ i bv bs c1 c2 c3 z7 B j eb evs p v gb ws gs τ) {τ1 : AHeap} {eb' : Nat} {evs' : List Ev} {q : Int}
    (hi : i < σ.n) (hn : τ.n ≤ τ1.n) (h1 : τ.n ≤ eb' ∧ eb' < τ1.n) (hg : τ1.get eb' = some ⟨eCells evs', true⟩) (hr : τ1.get i = some ⟨[bv, .int .i64 q], true⟩) (hq : 0 ≤ q ∧ q ≤ 1000000000) (hb : ApV bv eb) (hf : ∀ y, y < τ.n → NE y i → NE y eb → τ1.get y = τ.get y) :
    PlayL σ i bv bs c1 c2 c3 z7 B j eb' evs' q v gb ws gs τ1 := by
  obtain ⟨W, n7, ne, d1, d2, d3, d4, d5, a7, ae, g4, g6, g7, ge, rd, fr⟩ := h
  have hj := W.hj
  have hgb := W.gbn
  have hlg := W.lg
  have hlj := W.lj
  refine ⟨W.aft hn d2 d4 ae (fun y y1 y2 y3 => hf y y2 (by simp only [NE]; omega) y3), by omega, by omega, d1, by simp only [NE]; omega, d3, by simp only [NE]; omega, by simp only [NE]; omega, a7, W.apt h1.1, ?_, ?_, ?_, hg, ?_, fun y y1 y2 => ?_⟩
  · rw [hf _ (by omega) (by simp only [NE]; omega) (by simp only [NE]; omega)]; exact g4
  · rw [hf _ (by omega) (by simp only [NE]; omega) (by simp only [NE]; omega)]; exact g6
  · rw [hf _ (by omega) (by simp only [NE]; omega) d5]; exact g7
  · obtain ⟨b1, b2, b3, b4, b5, b6, b7⟩ := rd
    refine ⟨by omega, hr, ?_, b4, b5, b6, hq⟩
    rcases b3.ex with ⟨rfl, rfl⟩ | ⟨y, k, rfl, hy, Bk, hb', hc⟩
    · exact .nil
    · rcases b4 with b4 | b4
      · rcases hb with hb | hb
        · simp only [bOf] at b4 hb
          exact .mk' ⟨by omega, Bk, by rw [hf y hy b4 hb]; exact hb', hc⟩
        · cases hb
      · cases b4
  · rw [hf y (by omega) y2 (by simp only [NE]; omega)]; exact fr y y1 y2
theorem PlayL.rdr {σ : AHeap} {i : Nat} {bv : AV} {bs : List Int} {c1 c2 c3 : Int} {z7 : Nat} {B : Int} {j eb : Nat} {evs : List Ev} {p : Int} {v : AV} {gb : Nat} {ws : List Int} {gs : List (Guest × AV × AV)} {τ : AHeap} (h : PlayL σ i bv bs c1 c2 c3 z7 B j eb evs p v gb ws gs τ) {τ1 : AHeap} {q : Int}
    (hi : i < σ.n) (hn : τ.n ≤ τ1.n) (hr : Rd τ1 i bv bs q) (hf : ∀ y, y < τ.n → NE y i → τ1.get y = τ.get y) : PlayL σ i bv bs c1 c2 c3 z7 B j eb evs q v gb ws gs τ1 := by
  obtain ⟨W, n7, ne, d1, d2, d3, d4, d5, a7, ae, g4, g6, g7, ge, rd, fr⟩ := h
  refine ⟨W.past (z := i) (by omega) hn hf, by omega, by omega, d1, d2, d3, d4, d5, a7, ae, ?_, ?_, ?_, ?_, hr, fun y y1 y2 => ?_⟩
  · rw [hf _ (by omega) (by simp only [NE]; omega)]; exact g4
  · rw [hf _ (by omega) (by simp only [NE]; omega)]; exact g6
  · rw [hf _ (by omega) (by simp only [NE]; omega)]; exact g7
  · rw [hf _ (by omega) (by simp only [NE]; omega)]; exact ge
  · rw [hf y (by omega) y2]; exact fr y y1 y2
theorem PlayL.did {σ : AHeap} {i : Nat} {bv : AV} {bs : List Int} {c1 c2 c3 : Int} {z7 : Nat} {B : Int} {j eb : Nat} {evs : List Ev} {p : Int} {v : AV} {gb : Nat} {ws : List Int} {gs : List (Guest × AV × AV)} {τ : AHeap} (h : PlayL σ i bv bs c1 c2 c3 z7 B j eb evs p v gb ws gs τ) {τ1 τ2 : AHeap} {B' : Int} {v' : AV} {gb' : Nat} {ws' : List Int} {gs' : List (Guest × AV × AV)}
    (hi : i < σ.n) (hb : ∀ y, y < σ.n ∨ ApV bv y) (hn : τ.n ≤ τ1.n) (hn2 : τ1.n ≤ τ2.n) (W' : WAt τ1 (σ.n + 1 + 1) B' j v' gb' ws' gs') (hgb : gb' = gb ∨ τ.n ≤ gb') (ha : ∀ z, z < τ.n → Apt z gs → Apt z gs') (hf : ∀ y, y < τ.n → NE y j → NE y gb → τ1.get y = τ.get y)
    (h7 : τ2.get z7 = some ⟨[.sl j 0 ws'.length 1, v'], true⟩) (hf2 : ∀ y, y < τ1.n → NE y z7 → τ2.get y = τ1.get y) : PlayL σ i bv bs c1 c2 c3 z7 B' j eb evs p v' gb' ws' gs' τ2 := by
  obtain ⟨W, n7, ne, d1, d2, d3, d4, d5, a7, ae, g4, g6, g7, ge, rd, fr⟩ := h
  have hj := W.hj
  have hlg := W.lg
  have hlj := W.lj
  have e1 : NE gb' z7 := by
    rcases hgb with rfl | hgb
    · exact d3
    · simp only [NE]; omega
  have e2 : NE gb' eb := by
    rcases hgb with rfl | hgb
    · exact d4
    · simp only [NE]; omega
  have low : ∀ y, y < σ.n + 1 + 1 → τ2.get y = τ.get y := fun y hy => by
    rw [hf2 y (by omega) (by simp only [NE]; omega), hf y (by omega) (by simp only [NE]; omega) (by simp only [NE]; omega)]
  refine ⟨W'.aft hn2 d1 e1 (ha z7 n7.2 a7) (fun y _ y2 y3 => hf2 y y2 y3), by omega, by omega, d1, d2, e1, e2, d5, ha z7 n7.2 a7, ha eb ne.2 ae, ?_, ?_, h7, ?_, ?_, fun y y1 y2 => ?_⟩
  · rw [low _ (by omega)]; exact g4
  · rw [low _ (by omega)]; exact g6
  · rw [hf2 _ (by omega) (NE.sw d5), hf _ (by omega) (NE.sw d2) (NE.sw d4)]; exact ge
  · obtain ⟨b1, b2, b3, b4, b5, b6, b7⟩ := rd
    refine ⟨by omega, by rw [low _ (by omega)]; exact b2, ?_, b4, b5, b6, b7⟩
    rcases b3.ex with ⟨rfl, rfl⟩ | ⟨y, k, rfl, hy, Bk, hb', hc⟩
    · exact .nil
    · rcases hb y with hb | hb
      · exact .mk' ⟨by omega, Bk, by rw [low y (by omega)]; exact hb', hc⟩
      · rcases hb with hb | hb
        · simp only [bOf] at hb; omega
        · cases hb
  · rw [low y (by omega)]; exact fr y y1 y2
theorem format_len (c : Cfg) : (format c).length = c.size.toNat := by unfold format; rw [put_len', put_len', List.length_replicate]
theorem format_isW (c : Cfg) : ∀ w ∈ format c, isW w := by
  unfold format
  refine put_isW_ (put_isW_ ?_ (pack_isW _ _)) (pack_isW _ _)
  intro w hw
  obtain ⟨_, rfl⟩ := List.mem_replicate.1 hw
  exact isW0
theorem zPlay_fn (σ : AHeap) (i : Nat) (bv : AV) (bs : List Int) (p : Int) (hr : Rd σ i bv bs p) (hp : p ≤ 900000000) (n : Int) (hn : 0 ≤ n ∧ n ≤ 60) :
    Fn Tryz.prog 108 [.ptr i 0, .int .i64 n] σ fun x τ => ∃ (c : Cfg) (j : Nat) (v : AV) (gb : Nat) (ws : List Int) (gs : List (Guest × AV × AV)) (eb : Nat) (evs : List Ev) (q : Int), x = .tup [.agg [.sl j 0 ws.length 1, v], .sl eb 0 evs.length 6] ∧
      c.ok ∧ (ws, gs.map (·.1)) = wPlay (format c, []) evs ∧ (evs.length : Int) ≤ 63 ∧ WAt τ (σ.n + 1 + 1) 60000 j v gb ws gs ∧ Rd τ i bv bs q ∧ p ≤ q ∧ q ≤ p + 10000 ∧ (∀ y, y < σ.n → NE y i → τ.get y = σ.get y) ∧ τ.get eb = some ⟨eCells evs, true⟩ ∧ eb < τ.n := by
  generalize hG : (fun (x : AV) (τ : AHeap) => ∃ (c : Cfg) (j : Nat) (v : AV) (gb : Nat) (ws : List Int) (gs : List (Guest × AV × AV)) (eb : Nat) (evs : List Ev) (q : Int), x = AV.tup [.agg [.sl j 0 ws.length 1, v], .sl eb 0 evs.length 6] ∧
      c.ok ∧ (ws, gs.map (·.1)) = wPlay (format c, []) evs ∧ (evs.length : Int) ≤ 63 ∧ WAt τ (σ.n + 1 + 1) 60000 j v gb ws gs ∧ Rd τ i bv bs q ∧ p ≤ q ∧ q ≤ p + 10000 ∧ (∀ y, y < σ.n → NE y i → τ.get y = σ.get y) ∧ τ.get eb = some ⟨eCells evs, true⟩ ∧ eb < τ.n) = GG
  have hi := hr.hi
  have hp0 := hr.hp
  have q0 := pick_rng (bs := bs) (k := p) (n := 3) (by omega)
  have q1 := pick_rng (bs := bs) (k := p + 1) (n := 3) (by omega)
  have q2 := pick_rng (bs := bs) (k := p + 2) (n := 3) (by omega)
  generalize hs0 : pickV bs p 3 = s0 at q0
  generalize hs1 : pickV bs (p + 1) 3 = s1 at q1
  generalize hs2 : pickV bs (p + 2) 3 = s2 at q2
  have hok : Cfg.ok ⟨1 + s0, 1 + s1, 1 + s2⟩ := by unfold Cfg.ok; simp only; omega
  refine fn_of ord108 mixed Tryz.func108 (by kernel_rfl) rfl (by kernel_rfl) ?_
  simp (config := {contextual := true, maxSteps := 1000000}) (disch := first | exact dB | fail) [go_sem, envOf, wrap_i64, int_lt, -Int.not_le, -Int.not_lt, Bool.decide_and, Bool.decide_or, and_assoc, Bool.and_assoc, Bool.or_assoc, Prod.exists, Prod.forall, -List.map_set, set_put, ord108, hs0, hs1, hs2]
  (repeat refine Alt.mk ?_)
  intro τ j hn1 hw hj1 hj2 hf
  obtain ⟨C, hC⟩ : ∃ C : Cfg, Cfg.mk (1 + s0) (1 + s1) (1 + s2) = C := ⟨_, rfl⟩
  rw [hC] at hok hw ⊢
  have hsz : C.size = 7 + 23 * C.slots + 17 * C.pages := rfl
  have hcs : C.slots = 1 + s0 := by rw [← hC]
  have hcp : C.pages = 1 + s1 := by rw [← hC]
  have hfl := format_len C
  have hfr0 : ∀ y, y < σ.n → NE y i → τ.get y = σ.get y := fun y y1 y2 => (hf y (by omega)).trans (by
    have y3 := y2.ne
    repeat' split
    all_goals first | rfl | (exfalso; omega))
  have hf4 : τ.get σ.n = some ⟨[.nils, .nils], true⟩ := (hf _ (by omega)).trans (by
    have e1 : ¬ i = σ.n := by omega
    have e2 : ¬ i = σ.n + 1 := by omega
    simp [e1, e2])
  have hf6 : τ.get (σ.n + 1) = some ⟨[.int .i64 (1 + s0), .int .i64 (1 + s1), .int .i64 (1 + s2)], true⟩ := (hf _ (by omega)).trans (by
    have e1 : ¬ i = σ.n := by omega
    have e2 : ¬ i = σ.n + 1 := by omega
    simp [e1, e2])
  have hfi : τ.get i = some ⟨[bv, .int .i64 (p + 3)], true⟩ := (hf _ (by omega)).trans (by
    have e1 : ¬ i = σ.n := by omega
    have e2 : ¬ i = σ.n + 1 := by omega
    simp [e1, e2])
  have hP0 : PlayL σ i bv bs (1 + s0) (1 + s1) (1 + s2) τ.n 1 j (τ.n + 1) [] (p + 3) .nils j (format C) [] ((τ.push ⟨[.sl j 0 (format C).length 1, .nils], true⟩).push ⟨[], true⟩) := by
    refine ⟨⟨by simp only [push_n']; omega, ?_, hj1, hj1, format_isW C, by omega, by omega, by simp, .none, by simp, by omega⟩, ⟨by omega, by simp only [push_n']; omega⟩, ⟨by omega, by simp only [push_n']; omega⟩, by simp only [NE]; omega, by simp only [NE]; omega, by simp only [NE]; omega, by simp only [NE]; omega, by simp only [NE]; omega, (by intro x hx; cases hx), (by intro x hx; cases hx), ?_, ?_, ?_, ?_, ?_, ?_⟩
    · (first | exact cGT | fail)
    · rw [push_get_lt (by simp only [push_n']; omega), push_get_lt (by omega)]; exact hf4
    · rw [push_get_lt (by simp only [push_n']; omega), push_get_lt (by omega)]; exact hf6
    · (first | exact cGT | fail)
    · (first | exact cGT | fail)
    · refine hr.go (by simp only [push_n']; omega) ?_ ?_ (by omega)
      · rw [push_get_lt (by simp only [push_n']; omega), push_get_lt (by omega)]; exact hfi
      · intro y y1 y2
        rw [push_get_lt (by simp only [push_n']; omega), push_get_lt (by omega)]; exact hfr0 y y1 y2
    · intro y y1 y2
      rw [push_get_lt (by simp only [push_n']; omega), push_get_lt (by omega)]; exact hfr0 y y1 y2
  generalize hz7 : τ.n = z7 at hP0 ⊢
  generalize ((τ.push ⟨[.sl j 0 (format C).length 1, .nils], true⟩).push ⟨[], true⟩) = τ0 at hP0 ⊢
  clear hf hw hfr0 hn1 hf4 hf6 hfi
  refine aloops_lt (fun R_ env τ => ∃ (u : Nat), ∃ (eb : Nat), ∃ (evs : List Ev), ∃ (v : AV), ∃ (gb : Nat), ∃ (ws : List Int), ∃ (gs : List (Guest × AV × AV)), env 0 = .ptr i 0 ∧ env 1 = .int .i64 n ∧ env 4 = .ptr σ.n 0 ∧ env 6 = .ptr (σ.n + 1) 0 ∧ env 7 = .ptr z7 0 ∧ env 8 = .sl eb 0 u 6 ∧ env 9 = .int .i64 u ∧ R_ ((1 + s0).toNat - u) ∧ (PlayL σ i bv bs (1 + s0) (1 + s1) (1 + s2) z7 (1 + 800 * u) j eb evs (p + 3) v gb ws gs τ) ∧ (evs.length = u ∧ (u : Int) ≤ 1 + s0) ∧ ((ws, gs.map (·.1)) = wPlay (format C, []) evs)) (by rintro R_ env τ ⟨u, eb, evs, v, gb, ws, gs, e0, e1, e4, e6, e7, e8, e9, hR_, hP, hl, hh⟩; exact ⟨_, hR_, u, eb, evs, v, gb, ws, gs, e0, e1, e4, e6, e7, e8, e9, rfl, hP, hl, hh⟩) ⟨0, z7 + 1, [], .nils, j, format C, [], by first | rfl | simp [put_get, *], by first | rfl | simp [put_get, *], by first | rfl | simp [put_get, *], by first | rfl | simp [put_get, *], by first | rfl | simp [put_get, *], by first | rfl | simp [put_get, *], by first | rfl | simp [put_get, *], trivial, ?_, ?_, ?_⟩ ?_
  rotate_left 3
  rintro m_ env τ ⟨u, eb, evs, v, gb, ws, gs, e0, e1, e4, e6, e7, e8, e9, rfl, hP, hl, hh⟩
  · obtain ⟨hl, hl2⟩ := hl
    have hP1 := hP
    obtain ⟨W, n7, ne, d1, d2, d3, d4, d5, a7, ae, g4, g6, g7, ge, rd, fr⟩ := hP
    have iv := W.isL
    by_cases hu : (u : Int) < 1 + s0
    · have hat := eCells_at evs
      have hlen : (eCells evs).length = u * 6 := by rw [eCells_len, hl]
      rw [hl] at hat
      have hub : u ≤ 100000 := by omega
      simp (config := {contextual := true, maxSteps := 1000000}) (disch := first | exact dB | fail) [go_sem, envOf, wrap_i64, int_lt, -Int.not_le, -Int.not_lt, Bool.decide_and, Bool.decide_or, and_assoc, Bool.and_assoc, Bool.or_assoc, Prod.exists, Prod.forall, -List.map_set, set_put, ord108, e0, e1, e4, e6, e7, e8, e9, g6, g7, ge, hu, hat, hlen]
      (repeat refine Alt.mk ?_)
      have hbe : ApV bv eb := Ls_ap hr.hb (by omega)
      have hba : ∀ y, y < σ.n ∨ ApV bv y := fun y => by
        rcases Nat.lt_or_ge y σ.n with h | h
        · exact .inl h
        · exact .inr (Ls_ap hr.hb h)
      have rg := rd.hg
      have rn := rd.hi
      refine callP_gen (fun σ1 => PlayL σ i bv bs (1 + s0) (1 + s1) (1 + s2) z7 (1 + 800 * u) j (τ.n + 1) (evs ++ [⟨1, 0, u, 0, 0, 0⟩]) (p + 3) v gb ws gs σ1) ?_ ?_
      · refine hP1.app hi (by simp only [push_n', kill_n']; omega) ⟨by omega, by simp only [push_n', kill_n']; omega⟩ ?_ ?_ (by omega) hbe ?_
        · rw [eCells_snoc]
          (first | exact cGT | fail)
        · rw [push_get_lt (by simp only [push_n', kill_n']; omega), push_get_lt (by simp only [kill_n']; omega), kill_get_ne (by omega)]
          exact rg
        · intro y y1 y2 y3
          (first | exact cGT | fail)
      generalize τ.n + 1 = eb1
      intro σ1 hQ1
      refine callP_use (zWDo_fn σ1 _ _ j v gb ws gs hQ1.W ⟨1, 0, u, 0, 0, 0⟩ ⟨by omega, by omega⟩) ?_
      rintro x τ2 hn2 ⟨v', gb', ws', gs', rfl, w1, w2, w3, w4, w5⟩
      have h7 : τ2.get z7 = _ := (w5 z7 hQ1.n7.2 (NE.sw d1) (NE.sw d3)).trans hQ1.g7
      have iv' := w2.isL
      have hn7 := hQ1.n7.2
      simp (config := {contextual := true, maxSteps := 1000000}) (disch := first | exact dB | fail) [go_sem, envOf, wrap_i64, int_lt, -Int.not_le, -Int.not_lt, Bool.decide_and, Bool.decide_or, and_assoc, Bool.and_assoc, Bool.or_assoc, Prod.exists, Prod.forall, -List.map_set, set_put, ord108, e0, e1, e4, e6, e7, e8, e9, h7]
      (repeat refine Alt.mk ?_)
      refine ⟨by omega, evs ++ [⟨1, 0, u, 0, 0, 0⟩], v', gb', ws', gs', ?_, by simp [hl], by omega, ?_⟩
      · rw [show (1 : Int) + 800 * ((u : Int) + 1) = 1 + 800 * u + 800 by omega]
        exact hQ1.did hi hba hn2 (by simp only [set_n']; omega) w2 w3 w4 w5 (get_set_same _ _) (fun y y1 y2 => set_get_ne y2.ne)
      · rw [wPlay_snoc, ← hh]; exact w1
    · have hS := pick_rng (bs := bs) (k := p + 3) (n := 12) (by omega)
      generalize hSk : pickV bs (p + 3) 12 = S at hS
      have rg := rd.hg
      have hP2 : PlayL σ i bv bs (1 + s0) (1 + s1) (1 + s2) z7 3000 j eb evs (p + 4) v gb ws gs (τ.set i ⟨[bv, .int .i64 (p + 4)], true⟩) := by
        have h0 := hP1.rdr (τ1 := τ.set i ⟨[bv, .int .i64 (p + 4)], true⟩) (q := p + 4) hi (by simp only [set_n']; omega) (rd.upd (by omega)) (fun y y1 y2 => set_get_ne y2.ne)
        obtain ⟨W', r⟩ := h0
        exact ⟨W'.le (by omega) (by omega), by assumption, by assumption, by assumption, by assumption, by assumption, by assumption, by assumption, by assumption, by assumption, by assumption, by assumption, by assumption, by assumption, by assumption, by assumption⟩
      have hl3 : evs.length ≤ 3 := by omega
      have hu9 : ¬ (u : Int) < 1 + s0 := hu
      clear hP1 W n7 ne d1 d2 d3 d4 d5 a7 ae g4 g7 ge fr hP0
      simp (config := {contextual := true, maxSteps := 1000000}) (disch := first | exact dB | fail) [go_sem, envOf, wrap_i64, int_lt, -Int.not_le, -Int.not_lt, Bool.decide_and, Bool.decide_or, and_assoc, Bool.and_assoc, Bool.or_assoc, Prod.exists, Prod.forall, -List.map_set, set_put, ord108, e0, e1, e4, e6, e7, e8, e9, hu9, hSk, g6]
      (repeat refine Alt.mk ?_)
      generalize τ.set i ⟨[bv, .int .i64 (p + 4)], true⟩ = τb at hP2 ⊢
      clear rg g6 rd iv
      subst hl
      refine aloops_lt (fun R_ env τ => ∃ (k : Nat), ∃ (eb : Nat), ∃ (evs : List Ev), ∃ (pp : Int), ∃ (v : AV), ∃ (gb : Nat), ∃ (ws : List Int), ∃ (gs : List (Guest × AV × AV)), env 0 = .ptr i 0 ∧ env 1 = .int .i64 n ∧ env 4 = .ptr σ.n 0 ∧ env 6 = .ptr (σ.n + 1) 0 ∧ env 7 = .ptr z7 0 ∧ env 8 = .sl eb 0 evs.length 6 ∧ env 10 = .int .i64 S ∧ env 11 = .int .i64 k ∧ R_ ((n - k).toNat) ∧ (PlayL σ i bv bs (1 + s0) (1 + s1) (1 + s2) z7 (3000 + 800 * k) j eb evs pp v gb ws gs τ) ∧ ((k : Int) ≤ n) ∧ (p + 4 ≤ pp ∧ pp ≤ p + 4 + 150 * k) ∧ (evs.length ≤ 3 + k) ∧ ((ws, gs.map (·.1)) = wPlay (format C, []) evs)) (by rintro R_ env τ ⟨k, eb, evs, pp, v, gb, ws, gs, e0, e1, e4, e6, e7, e8, e10, e11, hR_, hP, hk, hpp, hl, hh⟩; exact ⟨_, hR_, k, eb, evs, pp, v, gb, ws, gs, e0, e1, e4, e6, e7, e8, e10, e11, rfl, hP, hk, hpp, hl, hh⟩) ⟨0, eb, evs, p + 4, v, gb, ws, gs, by first | rfl | simp [put_get, *], by first | rfl | simp [put_get, *], by first | rfl | simp [put_get, *], by first | rfl | simp [put_get, *], by first | rfl | simp [put_get, *], by first | rfl | simp [put_get, *], by first | rfl | simp [put_get, *], by first | rfl | simp [put_get, *], trivial, ?_, ?_, ?_, ?_, ?_⟩ ?_
      rotate_left 5
      rintro m_ env τ ⟨k, eb, evs, pp, v, gb, ws, gs, e0, e1, e4, e6, e7, e8, e10, e11, rfl, hP, hk, hpp, hl, hh⟩
      · have hP1 := hP
        obtain ⟨W, n7, ne, d1, d2, d3, d4, d5, a7, ae, g4, g6, g7, ge, rd, fr⟩ := hP
        have iv := W.isL
        have hbe : ApV bv eb := Ls_ap hr.hb (by omega)
        have hba : ∀ y, y < σ.n ∨ ApV bv y := fun y => by
          rcases Nat.lt_or_ge y σ.n with h | h
          · exact .inl h
          · exact .inr (Ls_ap hr.hb h)
        by_cases hkn : (k : Int) < n
        · have hkn2 : (k : Int) ≤ 59 := by omega
          simp (config := {contextual := true, maxSteps := 1000000}) (disch := first | exact dB | fail) [go_sem, envOf, wrap_i64, int_lt, -Int.not_le, -Int.not_lt, Bool.decide_and, Bool.decide_or, and_assoc, Bool.and_assoc, Bool.or_assoc, Prod.exists, Prod.forall, -List.map_set, set_put, ord108, e0, e1, e4, e6, e7, e8, e10, e11, g7, hkn]
          (repeat refine Alt.mk ?_)
          refine callP_use (zEvent_fn τ _ _ j v gb ws gs W i bv bs pp rd (by omega) (by omega)) ?_
          rintro x τ1 hn1 ⟨ev0, q, rfl, b1, b2, r1, hn1', f1⟩
          have hQ := hP1.rdr hi hn1 r1 f1
          have rg1 := r1.hg
          have rn1 := r1.hi
          obtain ⟨W1, n71, ne1, x1, x2, x3, x4, x5, x6, x7, g41, g61, g71, ge1, rd1, fr1⟩ := id hQ
          have hlb : evs.length ≤ 100000 := by omega
          have hlen : (eCells evs).length = evs.length * 6 := eCells_len evs
          clear W fr hP1 x6 x7 hP2 g4 g6 g7 ge f1
          by_cases hs1 : S < 4
          rotate_left
          · simp (config := {contextual := true, maxSteps := 1000000}) (disch := first | exact dB | fail) [go_sem, envOf, wrap_i64, int_lt, -Int.not_le, -Int.not_lt, Bool.decide_and, Bool.decide_or, and_assoc, Bool.and_assoc, Bool.or_assoc, Prod.exists, Prod.forall, -List.map_set, set_put, ord108, e0, e1, e4, e6, e7, e8, e10, e11, g61, g71, ge1, hs1, hlb, hlen]
            (repeat refine Alt.mk ?_)
            refine callP_gen (fun σ1 => PlayL σ i bv bs (1 + s0) (1 + s1) (1 + s2) z7 (3000 + 800 * k) j (τ1.n + 1 + 1) (evs ++ [ev0]) (q) v gb ws gs σ1) ?_ ?_
            · refine hQ.app hi (by simp only [push_n', kill_n', set_n']; omega) ⟨by omega, by simp only [push_n', kill_n', set_n']; omega⟩ ?_ ?_ (by omega) hbe ?_
              · rw [eCells_snoc]
                (first | exact cGT | fail)
              · first | (first | exact cGT | fail) | (simp (disch := first | omega | (simp only [push_n', kill_n', set_n']; omega)) only [push_get_lt, kill_get_ne, set_get_ne]; exact rg1)
              · intro y y1 y2 y3
                first | (first | exact cGT | fail) | (simp (disch := first | exact NE.ne (by assumption) | omega | (simp only [push_n', kill_n', set_n']; omega)) only [push_get_lt, kill_get_ne, set_get_ne]; exact f13 y y1 y2)
            generalize τ1.n + 1 + 1 = eb1
            intro σ1 hQ1
            refine callP_use (zWDo_fn σ1 _ _ j v gb ws gs hQ1.W ev0 ⟨by omega, by omega⟩) ?_
            rintro x τ2 hn2 ⟨v', gb', ws', gs', rfl, w1, w2, w3, w4, w5⟩
            have h7 : τ2.get z7 = _ := (w5 z7 hQ1.n7.2 (NE.sw d1) (NE.sw d3)).trans hQ1.g7
            have iv' := w2.isL
            have hn7 := hQ1.n7.2
            simp (config := {contextual := true, maxSteps := 1000000}) (disch := first | exact dB | fail) [go_sem, envOf, wrap_i64, int_lt, -Int.not_le, -Int.not_lt, Bool.decide_and, Bool.decide_or, and_assoc, Bool.and_assoc, Bool.or_assoc, Prod.exists, Prod.forall, -List.map_set, set_put, ord108, e0, e1, e4, e6, e7, e8, e10, e11, h7]
            (repeat refine Alt.mk ?_)
            refine ⟨k + 1, evs ++ [ev0], by simp, by omega, by omega, q, v', gb', ws', gs', ?_, by omega, by omega, by omega, by simp; omega, ?_⟩
            · rw [show (3000 : Int) + 800 * ((k + 1 : Nat) : Int) = 3000 + 800 * k + 800 by omega]
              exact hQ1.did hi hba hn2 (by simp only [set_n']; omega) w2 w3 w4 w5 (get_set_same _ _) (fun y y1 y2 => set_get_ne y2.ne)
            · rw [wPlay_snoc, ← hh]; exact w1
          by_cases hs2 : S < 1 + s0 + 1
          rotate_left
          · simp (config := {contextual := true, maxSteps := 1000000}) (disch := first | exact dB | fail) [go_sem, envOf, wrap_i64, int_lt, -Int.not_le, -Int.not_lt, Bool.decide_and, Bool.decide_or, and_assoc, Bool.and_assoc, Bool.or_assoc, Prod.exists, Prod.forall, -List.map_set, set_put, ord108, e0, e1, e4, e6, e7, e8, e10, e11, g61, g71, ge1, hs1, hs2, hlb, hlen]
            (repeat refine Alt.mk ?_)
            refine callP_gen (fun σ1 => PlayL σ i bv bs (1 + s0) (1 + s1) (1 + s2) z7 (3000 + 800 * k) j (τ1.n + 1 + 1) (evs ++ [ev0]) (q) v gb ws gs σ1) ?_ ?_
            · refine hQ.app hi (by simp only [push_n', kill_n', set_n']; omega) ⟨by omega, by simp only [push_n', kill_n', set_n']; omega⟩ ?_ ?_ (by omega) hbe ?_
              · rw [eCells_snoc]
                (first | exact cGT | fail)
              · first | (first | exact cGT | fail) | (simp (disch := first | omega | (simp only [push_n', kill_n', set_n']; omega)) only [push_get_lt, kill_get_ne, set_get_ne]; exact rg1)
              · intro y y1 y2 y3
                first | (first | exact cGT | fail) | (simp (disch := first | exact NE.ne (by assumption) | omega | (simp only [push_n', kill_n', set_n']; omega)) only [push_get_lt, kill_get_ne, set_get_ne]; exact f13 y y1 y2)
            generalize τ1.n + 1 + 1 = eb1
            intro σ1 hQ1
            refine callP_use (zWDo_fn σ1 _ _ j v gb ws gs hQ1.W ev0 ⟨by omega, by omega⟩) ?_
            rintro x τ2 hn2 ⟨v', gb', ws', gs', rfl, w1, w2, w3, w4, w5⟩
            have h7 : τ2.get z7 = _ := (w5 z7 hQ1.n7.2 (NE.sw d1) (NE.sw d3)).trans hQ1.g7
            have iv' := w2.isL
            have hn7 := hQ1.n7.2
            simp (config := {contextual := true, maxSteps := 1000000}) (disch := first | exact dB | fail) [go_sem, envOf, wrap_i64, int_lt, -Int.not_le, -Int.not_lt, Bool.decide_and, Bool.decide_or, and_assoc, Bool.and_assoc, Bool.or_assoc, Prod.exists, Prod.forall, -List.map_set, set_put, ord108, e0, e1, e4, e6, e7, e8, e10, e11, h7]
            (repeat refine Alt.mk ?_)
            refine ⟨k + 1, evs ++ [ev0], by simp, by omega, by omega, q, v', gb', ws', gs', ?_, by omega, by omega, by omega, by simp; omega, ?_⟩
            · rw [show (3000 : Int) + 800 * ((k + 1 : Nat) : Int) = 3000 + 800 * k + 800 by omega]
              exact hQ1.did hi hba hn2 (by simp only [set_n']; omega) w2 w3 w4 w5 (get_set_same _ _) (fun y y1 y2 => set_get_ne y2.ne)
            · rw [wPlay_snoc, ← hh]; exact w1
          by_cases hp8 : pickV bs q 8 ≤ 0
          · simp (config := {contextual := true, maxSteps := 1000000}) (disch := first | exact dB | fail) [go_sem, envOf, wrap_i64, int_lt, -Int.not_le, -Int.not_lt, Bool.decide_and, Bool.decide_or, and_assoc, Bool.and_assoc, Bool.or_assoc, Prod.exists, Prod.forall, -List.map_set, set_put, ord108, e0, e1, e4, e6, e7, e8, e10, e11, g61, g71, ge1, hs1, hs2, hp8, hlb, hlen]
            (repeat refine Alt.mk ?_)
            refine callP_gen (fun σ1 => PlayL σ i bv bs (1 + s0) (1 + s1) (1 + s2) z7 (3000 + 800 * k) j (τ1.n + 1 + 1) (evs ++ [ev0]) (q + 1) v gb ws gs σ1) ?_ ?_
            · refine hQ.app hi (by simp only [push_n', kill_n', set_n']; omega) ⟨by omega, by simp only [push_n', kill_n', set_n']; omega⟩ ?_ ?_ (by omega) hbe ?_
              · rw [eCells_snoc]
                (first | exact cGT | fail)
              · first | (first | exact cGT | fail) | (simp (disch := first | omega | (simp only [push_n', kill_n', set_n']; omega)) only [push_get_lt, kill_get_ne, set_get_ne]; exact rg1)
              · intro y y1 y2 y3
                first | (first | exact cGT | fail) | (simp (disch := first | exact NE.ne (by assumption) | omega | (simp only [push_n', kill_n', set_n']; omega)) only [push_get_lt, kill_get_ne, set_get_ne]; exact f13 y y1 y2)
            generalize τ1.n + 1 + 1 = eb1
            intro σ1 hQ1
            refine callP_use (zWDo_fn σ1 _ _ j v gb ws gs hQ1.W ev0 ⟨by omega, by omega⟩) ?_
            rintro x τ2 hn2 ⟨v', gb', ws', gs', rfl, w1, w2, w3, w4, w5⟩
            have h7 : τ2.get z7 = _ := (w5 z7 hQ1.n7.2 (NE.sw d1) (NE.sw d3)).trans hQ1.g7
            have iv' := w2.isL
            have hn7 := hQ1.n7.2
            simp (config := {contextual := true, maxSteps := 1000000}) (disch := first | exact dB | fail) [go_sem, envOf, wrap_i64, int_lt, -Int.not_le, -Int.not_lt, Bool.decide_and, Bool.decide_or, and_assoc, Bool.and_assoc, Bool.or_assoc, Prod.exists, Prod.forall, -List.map_set, set_put, ord108, e0, e1, e4, e6, e7, e8, e10, e11, h7]
            (repeat refine Alt.mk ?_)
            refine ⟨k + 1, evs ++ [ev0], by simp, by omega, by omega, q + 1, v', gb', ws', gs', ?_, by omega, by omega, by omega, by simp; omega, ?_⟩
            · rw [show (3000 : Int) + 800 * ((k + 1 : Nat) : Int) = 3000 + 800 * k + 800 by omega]
              exact hQ1.did hi hba hn2 (by simp only [set_n']; omega) w2 w3 w4 w5 (get_set_same _ _) (fun y y1 y2 => set_get_ne y2.ne)
            · rw [wPlay_snoc, ← hh]; exact w1
          simp (config := {contextual := true, maxSteps := 1000000}) (disch := first | exact dB | fail) [go_sem, envOf, wrap_i64, int_lt, -Int.not_le, -Int.not_lt, Bool.decide_and, Bool.decide_or, and_assoc, Bool.and_assoc, Bool.or_assoc, Prod.exists, Prod.forall, -List.map_set, set_put, ord108, e0, e1, e4, e6, e7, e8, e10, e11, g61, g71, ge1, hs1, hs2, hp8, hlb, hlen]
          (repeat refine Alt.mk ?_)
          refine callP_gen (fun σm => σm.n = τ1.n + 1 ∧ (∀ y, y < τ1.n → NE y i → σm.get y = τ1.get y) ∧ σm.get τ1.n = some ⟨evV ev0, true⟩ ∧ σm.get i = some ⟨[bv, .int .i64 (q + 1)], true⟩) ?_ ?_
          · exact ⟨by simp only [push_n', set_n'], by intro y y1 y2; (first | exact cGT | fail), by (first | exact cGT | fail), by (first | exact cGT | fail)⟩
          rintro σm ⟨m1, m2, m3, m4⟩
          have rm := r1.go (q := q + 1) (by omega) m4 m2 (by omega)
          refine callP_use (zSleepy_fn σm _ _ j v gb ws gs (W1.past (by omega) (by omega) m2) i bv bs (q + 1) rm (by omega) (by omega) S (by omega)) ?_
          rintro x τ3 hn3 ⟨e2, q2, rfl, c1, c2, r3, hn3', f3⟩
          have f13 : ∀ y, y < τ1.n → NE y i → τ3.get y = τ1.get y := fun y y1 y2 => (f3 y (by omega) y2).trans (m2 y y1 y2)
          have z3 : τ3.get τ1.n = some ⟨evV ev0, true⟩ := (f3 _ (by omega) (by simp only [NE]; omega)).trans m3
          have ge3 : τ3.get eb = _ := (f13 _ ne1.2 (by simp only [NE]; omega)).trans ge1
          have g73 : τ3.get z7 = _ := (f13 _ n71.2 (by simp only [NE]; omega)).trans g71
          have rg3 := r3.hg
          have nb : ¬ eb = τ1.n := by omega
          have nb2 : ¬ z7 = τ1.n := by omega
          have nb3 : τ1.n < τ3.n := by omega
          simp (config := {contextual := true, maxSteps := 1000000}) (disch := first | exact dB | fail) [go_sem, envOf, wrap_i64, int_lt, -Int.not_le, -Int.not_lt, Bool.decide_and, Bool.decide_or, and_assoc, Bool.and_assoc, Bool.or_assoc, Prod.exists, Prod.forall, -List.map_set, set_put, ord108, e0, e1, e4, e6, e7, e8, e10, e11, z3, g73, ge3, hlb, hlen, nb, nb2]
          (repeat refine Alt.mk ?_)
          refine callP_gen (fun σ1 => PlayL σ i bv bs (1 + s0) (1 + s1) (1 + s2) z7 (3000 + 800 * k) j (τ3.n + 1) (evs ++ [e2]) (q2) v gb ws gs σ1) ?_ ?_
          · refine hQ.app hi (by simp only [push_n', kill_n', set_n']; omega) ⟨by omega, by simp only [push_n', kill_n', set_n']; omega⟩ ?_ ?_ (by omega) hbe ?_
            · rw [eCells_snoc]
              (first | exact cGT | fail)
            · first | (first | exact cGT | fail) | (simp (disch := first | omega | (simp only [push_n', kill_n', set_n']; omega)) only [push_get_lt, kill_get_ne, set_get_ne]; exact rg3)
            · intro y y1 y2 y3
              first | (first | exact cGT | fail) | (simp (disch := first | exact NE.ne (by assumption) | omega | (simp only [push_n', kill_n', set_n']; omega)) only [push_get_lt, kill_get_ne, set_get_ne]; exact f13 y y1 y2)
          generalize τ3.n + 1 = eb1
          intro σ1 hQ1
          refine callP_use (zWDo_fn σ1 _ _ j v gb ws gs hQ1.W e2 ⟨by omega, by omega⟩) ?_
          rintro x τ2 hn2 ⟨v', gb', ws', gs', rfl, w1, w2, w3, w4, w5⟩
          have h7 : τ2.get z7 = _ := (w5 z7 hQ1.n7.2 (NE.sw d1) (NE.sw d3)).trans hQ1.g7
          have iv' := w2.isL
          have hn7 := hQ1.n7.2
          simp (config := {contextual := true, maxSteps := 1000000}) (disch := first | exact dB | fail) [go_sem, envOf, wrap_i64, int_lt, -Int.not_le, -Int.not_lt, Bool.decide_and, Bool.decide_or, and_assoc, Bool.and_assoc, Bool.or_assoc, Prod.exists, Prod.forall, -List.map_set, set_put, ord108, e0, e1, e4, e6, e7, e8, e10, e11, h7]
          (repeat refine Alt.mk ?_)
          refine ⟨k + 1, evs ++ [e2], by simp, by omega, by omega, q2, v', gb', ws', gs', ?_, by omega, by omega, by omega, by simp; omega, ?_⟩
          · rw [show (3000 : Int) + 800 * ((k + 1 : Nat) : Int) = 3000 + 800 * k + 800 by omega]
            exact hQ1.did hi hba hn2 (by simp only [set_n']; omega) w2 w3 w4 w5 (get_set_same _ _) (fun y y1 y2 => set_get_ne y2.ne)
          · rw [wPlay_snoc, ← hh]; exact w1
        · have hkn2 : ¬ (k : Int) < n := hkn
          simp (config := {contextual := true, maxSteps := 1000000}) (disch := first | exact dB | fail) [go_sem, envOf, wrap_i64, int_lt, -Int.not_le, -Int.not_lt, Bool.decide_and, Bool.decide_or, and_assoc, Bool.and_assoc, Bool.or_assoc, Prod.exists, Prod.forall, -List.map_set, set_put, ord108, e0, e1, e4, e6, e7, e8, e10, e11, g7, g4, hkn2]
          (repeat refine Alt.mk ?_)
          rw [← hG]
          have hfz : ∀ y, y < τ.n → NE y σ.n → (τ.set σ.n ⟨[.sl j 0 ws.length 1, v], true⟩).get y = τ.get y := fun y y1 y2 => set_get_ne y2.ne
          refine ⟨C, j, v, gb, ws, gs, eb, evs, pp, rfl, hok, hh, by omega, (W.past (z := σ.n) (by omega) (by simp only [set_n']; omega) hfz).le (by omega) (by omega), rd.set (by omega) ?_, by omega, by omega, ?_, ?_, by simp only [set_n']; omega⟩
          · exact Ls_ap hr.hb (Nat.le_refl _)
          · intro y y1 y2
            rw [set_get_ne (by omega)]; exact fr y y1 y2
          · rw [set_get_ne (by omega)]; exact ge
      · simpa using hP2
      · omega
      · omega
      · omega
      · exact hh
  · simpa using hP0
  · exact ⟨rfl, by omega⟩
  · rfl
end AH
/- CONTRACTS OF THE REFERENCE: a world drawn. -/
namespace AH
open Go Go.Proofs Ho
set_option maxRecDepth 20000
set_option maxHeartbeats 16000000
theorem at_rng {l : List Int} {a b : Int} (h : ∀ x ∈ l, a ≤ x ∧ x ≤ b) {j : Int} (hj : 0 ≤ j ∧ j < l.length) : a ≤ at_ l j ∧ at_ l j ≤ b := h _ (at_mem hj)
theorem zWorld_fn (σ : AHeap) (i : Nat) (bv : AV) (bs : List Int) (p : Int) (hr : Rd σ i bv bs p) (hp : p ≤ 800000000) :
    Fn Tryz.prog 78 [.ptr i 0] σ fun x τ => ∃ (c : Cfg) (j : Nat) (v : AV) (gb : Nat) (ws : List Int) (gs : List (Guest × AV × AV)) (evs : List Ev) (q : Int), x = .agg [.sl j 0 ws.length 1, v] ∧
      c.ok ∧ (ws, gs.map (·.1)) = wPlay (format c, []) evs ∧ (evs.length : Int) ≤ 63 ∧ WAt τ (σ.n + 1) 60000 j v gb ws gs ∧ Rd τ i bv bs q ∧ p ≤ q ∧ q ≤ p + 10001 ∧ (∀ y, y < σ.n → NE y i → τ.get y = σ.get y) := by
  generalize hG : (fun (x : AV) (τ : AHeap) => ∃ (c : Cfg) (j : Nat) (v : AV) (gb : Nat) (ws : List Int) (gs : List (Guest × AV × AV)) (evs : List Ev) (q : Int), x = AV.agg [.sl j 0 ws.length 1, v] ∧
      c.ok ∧ (ws, gs.map (·.1)) = wPlay (format c, []) evs ∧ (evs.length : Int) ≤ 63 ∧ WAt τ (σ.n + 1) 60000 j v gb ws gs ∧ Rd τ i bv bs q ∧ p ≤ q ∧ q ≤ p + 10001 ∧ (∀ y, y < σ.n → NE y i → τ.get y = σ.get y)) = GG
  have hi := hr.hi
  have hp0 := hr.hp
  have hn := at_rng (l := [0, 4, 10, 20, 35, 50, 60]) (a := 0) (b := 60) (by simp) (pick_rng (bs := bs) (k := p) (n := 7) (by omega))
  refine fn_of ord0 mixed Tryz.func78 (by kernel_rfl) rfl (by kernel_rfl) ?_
  simp (config := {contextual := true, maxSteps := 1000000}) (disch := first | exact dB | fail) [go_sem, envOf, wrap_i64, int_lt, -Int.not_le, -Int.not_lt, Bool.decide_and, Bool.decide_or, and_assoc, Bool.and_assoc, Bool.or_assoc, Prod.exists, Prod.forall, -List.map_set, set_put]
  (repeat refine Alt.mk ?_)
  generalize at_ [0, 4, 10, 20, 35, 50, 60] (pickV bs p 7) = m at hn ⊢
  refine callP_gen (fun σ1 => σ1.n = σ.n + 1 + 1 ∧ (∀ y, y < σ.n → NE y i → σ1.get y = σ.get y) ∧ σ1.get i = some ⟨[bv, .int .i64 (p + 1)], true⟩ ∧ σ1.get σ.n = some ⟨[.nils, .nils], true⟩) ?_ ?_
  · exact ⟨by simp only [push_n', set_n'], by intro y y1 y2; (first | exact cGT | fail), by (first | exact cGT | fail), by (first | exact cGT | fail)⟩
  rintro σ1 ⟨x1, x2, x3, x4⟩
  have hr1 := hr.go (q := p + 1) (by omega) x3 x2 (by omega)
  refine callP_use (zPlay_fn σ1 i bv bs (p + 1) hr1 (by omega) m hn) ?_
  rintro x τ hn1 ⟨c, j, v, gb, ws, gs, eb, evs, q, rfl, y1, y2, y3, y4, y5, y6, y7, y8, y9, y10⟩
  have iv := y4.isL
  have z4 : τ.get σ.n = _ := (y8 _ (by omega) (by simp only [NE]; omega)).trans x4
  have hnn : σ.n < τ.n := by omega
  simp (config := {contextual := true, maxSteps := 1000000}) (disch := first | exact dB | fail) [go_sem, envOf, wrap_i64, int_lt, -Int.not_le, -Int.not_lt, Bool.decide_and, Bool.decide_or, and_assoc, Bool.and_assoc, Bool.or_assoc, Prod.exists, Prod.forall, -List.map_set, set_put, z4]
  (repeat refine Alt.mk ?_)
  rw [← hG]
  have hfz : ∀ (X Y : ABlk) (y : Nat), y < τ.n → NE y σ.n → ((τ.push X).set σ.n Y).get y = τ.get y := fun X Y y q1 q2 => by rw [set_get_ne q2.ne, push_get_lt q1]
  have hfz2 : ∀ (X Y : ABlk) (y : Nat), y < τ.n → NE y σ.n → ((τ.set σ.n Y).push X).get y = τ.get y := fun X Y y q1 q2 => by rw [push_get_lt (by simp only [set_n']; exact q1), set_get_ne q2.ne]
  have hbn : bOf bv ≠ σ.n ∨ bv = .nils := Ls_ap hr.hb (Nat.le_refl _)
  first
    | exact ⟨c, j, v, gb, ws, gs, evs, q, rfl, y1, y2, y3, (y4.past (z := σ.n) (by omega) (by simp only [set_n', push_n']; omega) (hfz _ _)).low (by omega), (y5.push).set (by omega) hbn, by omega, by omega, fun y q1 q2 => by rw [hfz _ _ y (by omega) (by simp only [NE]; omega), y8 y (by omega) q2, x2 y q1 q2]⟩
    | exact ⟨c, j, v, gb, ws, gs, evs, q, rfl, y1, y2, y3, (y4.past (z := σ.n) (by omega) (by simp only [set_n', push_n']; omega) (hfz2 _ _)).low (by omega), (y5.set (by omega) hbn).push, by omega, by omega, fun y q1 q2 => by rw [hfz2 _ _ y (by omega) (by simp only [NE]; omega), y8 y (by omega) q2, x2 y q1 q2]⟩
theorem PI.play {c : Cfg} (hc : c.ok) : ∀ (evs : List Ev) (w : List Int × List Guest) (B : Int), 1 ≤ B → PI B (format c).length w → PI (B + 800 * evs.length) (format c).length (wPlay w evs) := by
  intro evs
  induction evs with
  | nil => intro w B _ h; simpa [wPlay] using h
  | cons e l ih =>
    intro w B hB h
    have := ih _ (B + 800) (by omega) (PI.do hB h e)
    simp only [wPlay, List.foldl_cons, List.length_cons] at this ⊢
    exact this.le (by omega)
theorem play_len {c : Cfg} (hc : c.ok) {evs : List Ev} {ws : List Int} {gs : List Guest} (h : (ws, gs) = wPlay (format c, []) evs) : (ws.length : Int) ≤ 300 := by
  have h1 : PI (1 + 800 * evs.length) (format c).length (ws, gs) := h ▸ PI.play hc evs (format c, []) 1 (by omega) ⟨rfl, format_isW c, fun g hg => (by cases hg)⟩
  have h2 := h1.len
  rw [format_len] at h2
  unfold Cfg.ok at hc
  unfold Cfg.size at h2
  simp only at h2
  omega
theorem GW.zero5 {B : Int} (hB : 0 ≤ B) : GW B { Guest.zero with slot := 5 } := by
  refine ⟨?_, ?_, ?_, ?_, ?_, ?_, ?_, ?_, ?_, ?_, ?_, isW0, isW0, isW0, isW0, ?_, ?_, ?_, ?_, ?_⟩ <;> simp [Guest.zero] <;> omega
theorem GA.weakF {σ τ : AHeap} {lo z : Nat} {B : Int} {j gb j' gb' : Nat} {x : Guest × AV × AV} (h : GA σ lo B j gb x) (hn : σ.n ≤ τ.n) (hz : ApV x.2.1 z ∧ ApV x.2.2 z) (hf : ∀ y, lo ≤ y → y < σ.n → NE y z → τ.get y = σ.get y) (hj : j' = j ∨ σ.n ≤ j') (hg : gb' = gb ∨ gb' = j ∨ σ.n ≤ gb') : GAb τ lo B j' gb' x := by
  have a1 : ApV x.2.1 j' := by
    rcases hj with rfl | hj
    · exact h.sj
    · exact Ls_ap h.s hj
  have a2 : ApV x.2.2 j' := by
    rcases hj with rfl | hj
    · exact h.pj
    · exact Ls_ap h.p hj
  have a3 : ApV x.2.1 gb' := by
    rcases hg with rfl | rfl | hg
    · exact h.sg
    · exact h.sj
    · exact Ls_ap h.s hg
  have a4 : ApV x.2.2 gb' := by
    rcases hg with rfl | rfl | hg
    · exact h.pg
    · exact h.pj
    · exact Ls_ap h.p hg
  exact ⟨GI.weak h.gi, h.s.aft hn hz.1 h.sl hf, h.p.aft hn hz.2 h.pl hf, a1, a2, a3, a4, h.sl, h.pl, h.idl⟩
theorem WAt.newW {σ τ : AHeap} {lo : Nat} {B : Int} {j : Nat} {v : AV} {gb : Nat} {ws ws' : List Int} {gs : List (Guest × AV × AV)} (h : WAt σ lo B j v gb ws gs) {j' : Nat} (hn : σ.n ≤ τ.n) (hj : σ.n ≤ j' ∧ j' < τ.n) (hw : τ.get j' = some ⟨ws'.map (.int .u64), true⟩) (W : ∀ w ∈ ws', isW w) (hl : (ws'.length : Int) ≤ 1000000) (h2 : 2 ≤ ws'.length)
    (hf : ∀ y, lo ≤ y → y < σ.n → NE y j → τ.get y = σ.get y) : ∃ gb', WBt τ lo B j' v gb' ws' gs := by
  obtain ⟨a1, a2, a3, a4, a5, a6, l2, a7, a8, a9, a0⟩ := h
  cases a8 with
  | none => exact ⟨j', hj.2, hw, by omega, by omega, W, hl, h2, by omega, .none, fun x hx => (by cases hx), a0⟩
  | @some gb m gs h0 h1 h2' h3 h4 =>
    refine ⟨gb, hj.2, hw, by omega, a4, W, hl, h2, by omega, .some h0 h1 (by omega) (by simp only [NE]; omega) ((hf gb a4 h2' h3).trans h4), fun x hx => ?_, a0⟩
    have hx' := a9 x hx
    exact hx'.weakF hn ⟨hx'.sj, hx'.pj⟩ hf (.inr hj.1) (.inl rfl)
theorem WAt.wordsL {σ τ : AHeap} {lo : Nat} {B : Int} {j : Nat} {v : AV} {gb : Nat} {ws ws' : List Int} {gs : List (Guest × AV × AV)} (h : WAt σ lo B j v gb ws gs) (hn : σ.n ≤ τ.n) (hw : τ.get j = some ⟨ws'.map (.int .u64), true⟩) (hf : ∀ y, lo ≤ y → y < σ.n → NE y j → τ.get y = σ.get y) (W : ∀ w ∈ ws', isW w) (hl : ws'.length = ws.length) : WBt τ lo B j v gb ws' gs := by
  obtain ⟨a1, a2, a3, a4, a5, a6, l2, a7, a8, a9, a0⟩ := h
  refine ⟨by omega, hw, a3, a4, W, by omega, by omega, by omega, ?_, fun x hx => ?_, a0⟩
  · cases a8 with
    | none => exact .none
    | some h0 h1 h2 h3 h4 => exact .some h0 h1 (by omega) h3 ((hf _ a4 h2 h3).trans h4)
  · have hx' := a9 x hx
    exact hx'.weakF hn ⟨hx'.sj, hx'.pj⟩ hf (.inl rfl) (.inl rfl)
theorem WAt.newG {σ τ : AHeap} {lo : Nat} {B : Int} {j : Nat} {v : AV} {gb : Nat} {ws : List Int} {gs : List (Guest × AV × AV)} (h : WAt σ lo B j v gb ws gs) {gb' z : Nat} {g' : Guest} (hn : σ.n ≤ τ.n) (hb : σ.n ≤ gb' ∧ gb' < τ.n) (hg : τ.get gb' = some ⟨gCells (gs ++ [(g', .nils, .nils)]), true⟩) (hW : GW B g') (hI : Idl g') (hs : g'.snap = []) (hp : g'.plan = [])
    (hz : NE j z) (ha : Apt z gs) (hf : ∀ y, lo ≤ y → y < σ.n → NE y z → τ.get y = σ.get y) : WBt τ lo B j (.sl gb' 0 (gs.length + 1) 26) gb' ws (gs ++ [(g', .nils, .nils)]) := by
  obtain ⟨a1, a2, a3, a4, a5, a6, l2, a7, a8, a9, a0⟩ := h
  refine ⟨by omega, (hf j a3 a1 hz).trans a2, a3, by omega, a5, a6, l2, by simp; omega, .some (by simp) (by omega) hb.2 (by simp only [NE]; omega) hg, fun x hx => ?_, a0⟩
  rcases List.mem_append.1 hx with hx | hx
  · exact (a9 x hx).weakF hn (ha x hx) hf (.inl rfl) (.inr (.inr hb.1))
  · obtain rfl := List.mem_singleton.1 hx
    exact ⟨hW, by simp only [hs]; exact .nil, by simp only [hp]; exact .nil, .inr rfl, .inr rfl, .inr rfl, .inr rfl, .inr rfl, .inr rfl, hI⟩
theorem WAt.bend {σ τ : AHeap} {lo : Nat} {B : Int} {j : Nat} {gb m : Nat} {ws : List Int} {gs : List (Guest × AV × AV)} (h : WAt σ lo B j (.sl gb 0 m 26) gb ws gs) {g g' : Guest} {sv pv : AV} (hm : gs.length = m) (h0 : 1 ≤ m) (hgb : gb < σ.n) (hx : gs[0]? = some (g, sv, pv)) (h3 : NE gb j) (hn : σ.n ≤ τ.n) (hg : τ.get gb = some ⟨gCells (gs.set 0 (g', sv, pv)), true⟩) (hW : GW B g') (hI : Idl g') (hs : g'.snap = g.snap) (hp : g'.plan = g.plan)
    (hf : ∀ y, lo ≤ y → y < σ.n → NE y gb → τ.get y = σ.get y) : WBt τ lo B j (.sl gb 0 m 26) gb ws (gs.set 0 (g', sv, pv)) := by
  obtain ⟨a1, a2, a3, a4, a5, a6, l2, a7, a8, a9, a0⟩ := h
  refine ⟨by omega, (hf j a3 a1 (NE.sw h3)).trans a2, a3, a4, a5, a6, l2, by simp; omega, .some (by simp [hm]) h0 (by omega) h3 hg, fun x hx' => ?_, a0⟩
  rcases List.mem_or_eq_of_mem_set hx' with hx' | rfl
  · have hh := a9 x hx'
    exact hh.weakF hn ⟨hh.sg, hh.pg⟩ hf (.inl rfl) (.inl rfl)
  · have hh := (a9 _ (List.mem_of_getElem? hx)).weakF hn ⟨(a9 _ (List.mem_of_getElem? hx)).sg, (a9 _ (List.mem_of_getElem? hx)).pg⟩ hf (.inl rfl) (.inl rfl)
    exact ⟨hW, by simp only [hs]; exact hh.s, by simp only [hp]; exact hh.p, hh.sj, hh.pj, hh.sg, hh.pg, hh.sl, hh.pl, hI⟩
theorem zBent_fn (σ : AHeap) (i : Nat) (bv : AV) (bs : List Int) (p : Int) (hr : Rd σ i bv bs p) (hp : p ≤ 700000000) :
    Fn Tryz.prog 99 [.ptr i 0] σ fun x τ => ∃ (j : Nat) (v : AV) (gb : Nat) (ws : List Int) (gs : List (Guest × AV × AV)) (q : Int), x = .agg [.sl j 0 ws.length 1, v] ∧
      WBt τ (σ.n + 1) 60000 j v gb ws gs ∧ Rd τ i bv bs q ∧ p ≤ q ∧ q ≤ p + 10010 ∧ (∀ y, y < σ.n → NE y i → τ.get y = σ.get y) := by
  generalize hG : (fun (x : AV) (τ : AHeap) => ∃ (j : Nat) (v : AV) (gb : Nat) (ws : List Int) (gs : List (Guest × AV × AV)) (q : Int), x = AV.agg [.sl j 0 ws.length 1, v] ∧
      WBt τ (σ.n + 1) 60000 j v gb ws gs ∧ Rd τ i bv bs q ∧ p ≤ q ∧ q ≤ p + 10010 ∧ (∀ y, y < σ.n → NE y i → τ.get y = σ.get y)) = GG
  have hi := hr.hi
  have hp0 := hr.hp
  refine fn_of ord99 mixed Tryz.func99 (by kernel_rfl) rfl (by kernel_rfl) ?_
  simp (config := {contextual := true, maxSteps := 1000000}) (disch := first | exact dB | fail) [go_sem, envOf, wrap_i64, int_lt, -Int.not_le, -Int.not_lt, Bool.decide_and, Bool.decide_or, and_assoc, Bool.and_assoc, Bool.or_assoc, Prod.exists, Prod.forall, -List.map_set, set_put, ord99]
  (repeat refine Alt.mk ?_)
  refine callP_gen (fun σ1 => σ1.n = σ.n + 1 ∧ (∀ y, y < σ.n → NE y i → σ1.get y = σ.get y) ∧ σ1.get i = some ⟨[bv, .int .i64 p], true⟩ ∧ σ1.get σ.n = some ⟨[.nils, .nils], true⟩) ?_ ?_
  · exact ⟨by simp only [push_n', set_n'], by intro y y1 y2; (first | exact cGT | fail), by first | (first | exact cGT | fail) | (rw [push_get_lt hi]; exact hr.hg), by (first | exact cGT | fail)⟩
  rintro σ1 ⟨x1, x2, x3, x4⟩
  have hr1 := hr.go (q := p) (by omega) x3 x2 (by omega)
  refine callP_use (zWorld_fn σ1 i bv bs p hr1 (by omega)) ?_
  rintro x τ hn1 ⟨c, j, v, gb, ws, gs, evs, q, rfl, y1, y2, y3, W, y5, y6, y7, y8⟩
  have iv := W.isL
  have z4 : τ.get σ.n = some ⟨[.nils, .nils], true⟩ := (y8 _ (by omega) (by simp only [NE]; omega)).trans x4
  have hnn : σ.n < τ.n := by omega
  have hfr : ∀ y, y < σ.n → NE y i → τ.get y = σ.get y := fun y q1 q2 => (y8 y (by omega) q2).trans (x2 y q1 q2)
  have pk := fun (k n : Int) (hn : 1 ≤ n) => pick_rng (bs := bs) (k := k) (n := n) hn
  have fin : ∀ (τ' : AHeap) (j' : Nat) (v' : AV) (gb' : Nat) (ws' : List Int) (gs' : List (Guest × AV × AV)) (Q : Int), WBt τ' (σ1.n + 1) 60000 j' v' gb' ws' gs' → τ'.get i = some ⟨[bv, .int .i64 Q], true⟩ → p ≤ Q ∧ Q ≤ p + 10010 → (∀ y, y < σ.n → NE y i → τ'.get y = σ.get y) → GG (.agg [.sl j' 0 ws'.length 1, v']) τ' := by
    intro τ' j' v' gb' ws' gs' Q z1 z2 z3 z5
    rw [← hG]
    have hn' : σ.n ≤ τ'.n := by have := z1.hj; have := z1.lj; omega
    exact ⟨j', v', gb', ws', gs', Q, rfl, z1.low (by omega), hr.go hn' z2 z5 (by omega), by omega, by omega, z5⟩
  clear hG
  generalize hK : pickV bs q 40 = K
  have hj := W.hj
  have hw := W.hw
  have lj := W.lj
  have lg := W.lg
  have len := play_len y1 y2
  have l2 := W.l2
  have m6 := W.m6
  have ljn : ¬ j = i := by omega
  have ljn2 : ¬ j = σ.n := by omega
  have lgi : ¬ gb = i := by omega
  have lgn : ¬ gb = σ.n := by omega
  have hWw := W.W
  have rg := y5.hg
  have hbn2 := W.gbn
  have hs1 : σ.n + 1 ≤ σ1.n := by omega
  have low : ∀ y, σ1.n + 1 ≤ y → ¬ y = i ∧ ¬ y = σ.n := fun y hy => by omega
  have dflt : ∀ (τ' : AHeap) (Q : Int), τ.n ≤ τ'.n → (∀ y, σ1.n + 1 ≤ y → y < τ.n → τ'.get y = τ.get y) → τ'.get i = some ⟨[bv, .int .i64 Q], true⟩ → p ≤ Q ∧ Q ≤ p + 10010 → (∀ y, y < σ.n → NE y i → τ'.get y = τ.get y) → GG (.agg [.sl j 0 ws.length 1, v]) τ' := by
    intro τ' Q z1 z2 z3 z5 z6
    exact fin τ' j v gb ws gs Q (WAt.weak (W.aft (z := i) z1 (by simp only [NE]; omega) (by simp only [NE]; omega) (W.low_apt (by omega)) (fun y q1 q2 _ => z2 y q1 q2))) z3 z5 (fun y q1 q2 => (z6 y q1 q2).trans (hfr y q1 q2))
  by_cases k0 : K = 0
  · have len' : ws.length ≤ 1000000 := by omega
    simp (config := {contextual := true, maxSteps := 1000000}) (disch := first | exact dB | fail) [go_sem, envOf, wrap_i64, int_lt, -Int.not_le, -Int.not_lt, Bool.decide_and, Bool.decide_or, and_assoc, Bool.and_assoc, Bool.or_assoc, Prod.exists, Prod.forall, -List.map_set, set_put, ord99, z4, hK, k0]
    (repeat refine Alt.mk ?_)
    obtain ⟨gb', hB⟩ := W.newW (ws' := ws ++ [0]) (j' := τ.n + 1 + 1) (τ := ((((((τ.set i ⟨[bv, .int .i64 (q + 1)], true⟩).kill j).set σ.n ⟨[.sl (τ.n + 1 + 1) 0 (ws.length + 1) 1, v], true⟩).push ⟨[.sl (τ.n + 1 + 1) 0 (ws.length + 1) 1, v], true⟩).push ⟨[.int .u64 0], true⟩).push ⟨ws.map (.int .u64) ++ [.int .u64 0], true⟩)) (by simp only [push_n', set_n', kill_n']; omega) ⟨by omega, by simp only [push_n', set_n', kill_n']; omega⟩ (by rw [List.map_append]; (first | exact cGT | fail)) (by
      intro w hw'
      rcases List.mem_append.1 hw' with h | h
      · exact hWw w h
      · obtain rfl := List.mem_singleton.1 h; exact isW0) (by simp; omega) (by simp; omega) (fun y z1 z2 z3 => by have := low y z1; (first | exact cGT | fail))
    have fin' := fin _ _ _ _ _ _ (q + 1) hB (by (first | exact cGT | fail)) (by omega) (fun y z1 z2 => (by (first | exact cGT | fail) : _ = τ.get y).trans (hfr y z1 z2))
    simp only [List.length_append, List.length_singleton] at fin'
    exact fin'
  by_cases k1 : K = 1
  · obtain ⟨R, hR⟩ : ∃ R : Nat, pickV bs (q + 1) ws.length = R := ⟨(pickV bs (q + 1) ws.length).toNat, by have := pk (q + 1) ws.length (by omega); omega⟩
    have hRm : R < ws.length := by have := pk (q + 1) ws.length (by omega); omega
    simp (config := {contextual := true, maxSteps := 1000000}) (disch := first | exact dB | fail) [go_sem, envOf, wrap_i64, int_lt, -Int.not_le, -Int.not_lt, Bool.decide_and, Bool.decide_or, and_assoc, Bool.and_assoc, Bool.or_assoc, Prod.exists, Prod.forall, -List.map_set, set_put, ord99, z4, hK, k0, k1, hR, hRm, hw]
    (repeat refine Alt.mk ?_)
    have hsp := map_put (kk := .u64) (ws := ws) (a := R) (x := pack (pickV bs (q + 2) 9) (pickV bs (q + 3) 9)) (by omega) (by omega)
    simp only [Int.toNat_natCast] at hsp
    rw [hsp]
    have fin' := fun τ' => fin τ' j v gb (put ws R (pack (pickV bs (q + 2) 9) (pickV bs (q + 3) 9))) gs (q + 4)
    rw [put_len'] at fin'
    refine fin' _ (W.wordsL (by simp only [push_n', set_n']; omega) (by (first | exact cGT | fail)) (fun y z1 z2 z3 => ?_) (put_isW_ hWw (pack_isW _ _)) (put_len' _ _ _)) ?_ ?_ (fun y z1 z2 => ?_)
    · have := low y z1
      (first | exact cGT | fail)
    · (first | exact cGT | fail)
    · omega
    · exact (by (first | exact cGT | fail) : _ = τ.get y).trans (hfr y z1 z2)
  have hv := W.hv
  by_cases k2 : K = 2
  · cases hv with
    | none =>
      simp (config := {contextual := true, maxSteps := 1000000}) (disch := first | exact dB | fail) [go_sem, envOf, wrap_i64, int_lt, -Int.not_le, -Int.not_lt, Bool.decide_and, Bool.decide_or, and_assoc, Bool.and_assoc, Bool.or_assoc, Prod.exists, Prod.forall, -List.map_set, set_put, ord99, z4, hK, k0, k1, k2]
      (repeat refine Alt.mk ?_)
      refine fin _ j _ (τ.n + 1 + 1) ws ([] ++ [({ Guest.zero with slot := 5 } , .nils, .nils)]) (q + 1) (W.newG (z := i) (gb' := τ.n + 1 + 1) (g' := { Guest.zero with slot := 5 }) (by simp only [push_n', set_n']; omega) ⟨by omega, by simp only [push_n', set_n']; omega⟩ ?_ (GW.zero5 (by omega)) (fun _ => rfl) rfl rfl (by simp only [NE]; omega) (W.low_apt (by omega)) (fun y z1 z2 z3 => ?_)) ?_ ?_ (fun y z1 z2 => ?_)
      · show _ = some (ABlk.mk (gV { Guest.zero with slot := 5 } .nils .nils ++ []) true)
        simp only [List.append_nil]
        (first | exact cGT | fail)
      · have := low y z1
        (first | exact cGT | fail)
      · (first | exact cGT | fail)
      · omega
      · exact (by (first | exact cGT | fail) : _ = τ.get y).trans (hfr y z1 z2)
    | @some gb m gs h0 h1 h2 h3 h4 =>
      have hm : m ≤ 1000 := by omega
      simp (config := {contextual := true, maxSteps := 1000000}) (disch := first | exact dB | fail) [go_sem, envOf, wrap_i64, int_lt, -Int.not_le, -Int.not_lt, Bool.decide_and, Bool.decide_or, and_assoc, Bool.and_assoc, Bool.or_assoc, Prod.exists, Prod.forall, -List.map_set, set_put, ord99, z4, hK, k0, k1, k2, h4]
      (repeat refine Alt.mk ?_)
      have hA : Apt gb gs := by
        intro x hx
        exact ⟨(W.G x hx).sg, (W.G x hx).pg⟩
      subst h0
      refine fin _ j _ (τ.n + 1 + 1) ws (gs ++ [({ Guest.zero with slot := 5 }, .nils, .nils)]) (q + 1) (W.newG (z := gb) (gb' := τ.n + 1 + 1) (g' := { Guest.zero with slot := 5 }) (by simp only [push_n', set_n', kill_n']; omega) ⟨by omega, by simp only [push_n', set_n', kill_n']; omega⟩ ?_ (GW.zero5 (by omega)) (fun _ => rfl) rfl rfl (NE.sw h3) hA (fun y z1 z2 z3 => ?_)) ?_ ?_ (fun y z1 z2 => ?_)
      · rw [← gCells_snoc]
        (first | exact cGT | fail)
      · have := low y z1
        (first | exact cGT | fail)
      · (first | exact cGT | fail)
      · omega
      · exact (by (first | exact cGT | fail) : _ = τ.get y).trans (hfr y z1 z2)
  by_cases k3 : K = 3
  · cases hv with
    | none =>
      simp (config := {contextual := true, maxSteps := 1000000}) (disch := first | exact dB | fail) [go_sem, envOf, wrap_i64, int_lt, -Int.not_le, -Int.not_lt, Bool.decide_and, Bool.decide_or, and_assoc, Bool.and_assoc, Bool.or_assoc, Prod.exists, Prod.forall, -List.map_set, set_put, ord99, z4, hK, k0, k1, k2, k3]
      (repeat refine Alt.mk ?_)
      refine dflt _ (q + 1) (by simp only [push_n', set_n', kill_n']; omega) (fun y z1 z2 => ?_) ?_ ?_ (fun y z1 z2 => ?_)
      · have := low y z1
        (first | exact cGT | fail)
      · (first | exact cGT | fail)
      · omega
      · (first | exact cGT | fail)
    | @some gb m gs h0 h1 h2 h3 h4 =>
      obtain ⟨⟨g, sv, pv⟩, hx⟩ : ∃ x, gs[0]? = some x := ⟨gs[0]'(by omega), by simp⟩
      have hsub := gCells_sub hx
      have hlen : 26 ≤ (gCells gs).length := by rw [gCells_len]; omega
      simp only [Nat.zero_mul, List.drop_zero] at hsub
      simp (config := {contextual := true, maxSteps := 1000000}) (disch := first | exact dB | fail) [go_sem, envOf, wrap_i64, int_lt, -Int.not_le, -Int.not_lt, Bool.decide_and, Bool.decide_or, and_assoc, Bool.and_assoc, Bool.or_assoc, Prod.exists, Prod.forall, -List.map_set, set_put, ord99, z4, hK, k0, k1, k2, k3, h4, hsub, hlen]
      (repeat refine Alt.mk ?_)
      refine ⟨fun _ => Alt.mk ?_, fun h => by omega⟩
      have hc := gCells_cell (f := 8) hx (by omega) (.int .i64 (pickV bs (q + 1) 26)) { g with pc := pickV bs (q + 1) 26 } rfl
      simp only [Nat.zero_mul, Nat.zero_add] at hc
      rw [hc]
      have hrg := pk (q + 1) 26 (by omega)
      have hGA := W.G _ (List.mem_of_getElem? hx)
      refine fin _ j _ gb ws (gs.set 0 ({ g with pc := pickV bs (q + 1) 26 }, sv, pv)) (q + 2) (W.bend (g := g) (g' := { g with pc := pickV bs (q + 1) 26 }) h0 h1 h2 hx h3 (by simp only [push_n', set_n']; omega) (by (first | exact cGT | fail)) ?_ hGA.idl rfl rfl (fun y z1 z2 z3 => ?_)) ?_ ?_ (fun y z1 z2 => ?_)
      · obtain ⟨b1, b2, b3, b4, b5, b6, b7, b8, b9, b10, b11, b12, b13, b14, b15, b16, b17, b18, b19, b20⟩ := GI.weak hGA.gi
        exact ⟨b1, b2, ⟨hrg.1, by dsimp only; omega⟩, b4, b5, b6, b7, b8, b9, b10, b11, b12, b13, b14, b15, b16, b17, b18, b19, b20⟩
      · have := low y z1
        (first | exact cGT | fail)
      · (first | exact cGT | fail)
      · omega
      · exact (by (first | exact cGT | fail) : _ = τ.get y).trans (hfr y z1 z2)
  by_cases k4 : K = 4
  · cases hv with
    | none =>
      simp (config := {contextual := true, maxSteps := 1000000}) (disch := first | exact dB | fail) [go_sem, envOf, wrap_i64, int_lt, -Int.not_le, -Int.not_lt, Bool.decide_and, Bool.decide_or, and_assoc, Bool.and_assoc, Bool.or_assoc, Prod.exists, Prod.forall, -List.map_set, set_put, ord99, z4, hK, k0, k1, k2, k3, k4]
      (repeat refine Alt.mk ?_)
      refine dflt _ (q + 1) (by simp only [push_n', set_n', kill_n']; omega) (fun y z1 z2 => ?_) ?_ ?_ (fun y z1 z2 => ?_)
      · have := low y z1
        (first | exact cGT | fail)
      · (first | exact cGT | fail)
      · omega
      · (first | exact cGT | fail)
    | @some gb m gs h0 h1 h2 h3 h4 =>
      obtain ⟨⟨g, sv, pv⟩, hx⟩ : ∃ x, gs[0]? = some x := ⟨gs[0]'(by omega), by simp⟩
      have hsub := gCells_sub hx
      have hlen : 26 ≤ (gCells gs).length := by rw [gCells_len]; omega
      simp only [Nat.zero_mul, List.drop_zero] at hsub
      simp (config := {contextual := true, maxSteps := 1000000}) (disch := first | exact dB | fail) [go_sem, envOf, wrap_i64, int_lt, -Int.not_le, -Int.not_lt, Bool.decide_and, Bool.decide_or, and_assoc, Bool.and_assoc, Bool.or_assoc, Prod.exists, Prod.forall, -List.map_set, set_put, ord99, z4, hK, k0, k1, k2, k3, k4, h4, hsub, hlen]
      (repeat refine Alt.mk ?_)
      refine ⟨fun _ => Alt.mk ?_, fun h => by omega⟩
      have hc := gCells_cell (f := 9) hx (by omega) (.int .i64 (pickV bs (q + 1) 40)) { g with gk := pickV bs (q + 1) 40 } rfl
      simp only [Nat.zero_mul, Nat.zero_add] at hc
      rw [hc]
      have hrg := pk (q + 1) 40 (by omega)
      have hGA := W.G _ (List.mem_of_getElem? hx)
      refine fin _ j _ gb ws (gs.set 0 ({ g with gk := pickV bs (q + 1) 40 }, sv, pv)) (q + 2) (W.bend (g := g) (g' := { g with gk := pickV bs (q + 1) 40 }) h0 h1 h2 hx h3 (by simp only [push_n', set_n']; omega) (by (first | exact cGT | fail)) ?_ hGA.idl rfl rfl (fun y z1 z2 z3 => ?_)) ?_ ?_ (fun y z1 z2 => ?_)
      · obtain ⟨b1, b2, b3, b4, b5, b6, b7, b8, b9, b10, b11, b12, b13, b14, b15, b16, b17, b18, b19, b20⟩ := GI.weak hGA.gi
        exact ⟨b1, b2, b3, ⟨hrg.1, by dsimp only; omega⟩, b5, b6, b7, b8, b9, b10, b11, b12, b13, b14, b15, b16, b17, b18, b19, b20⟩
      · have := low y z1
        (first | exact cGT | fail)
      · (first | exact cGT | fail)
      · omega
      · exact (by (first | exact cGT | fail) : _ = τ.get y).trans (hfr y z1 z2)
  · simp (config := {contextual := true, maxSteps := 1000000}) (disch := first | exact dB | fail) [go_sem, envOf, wrap_i64, int_lt, -Int.not_le, -Int.not_lt, Bool.decide_and, Bool.decide_or, and_assoc, Bool.and_assoc, Bool.or_assoc, Prod.exists, Prod.forall, -List.map_set, set_put, ord99, z4, hK, k0, k1, k2, k3, k4]
    (repeat refine Alt.mk ?_)
    refine dflt _ (q + 1) (by simp only [push_n', set_n', kill_n']; omega) (fun y z1 z2 => ?_) ?_ ?_ (fun y z1 z2 => ?_)
    · have := low y z1
      (first | exact cGT | fail)
    · (first | exact cGT | fail)
    · omega
    · (first | exact cGT | fail)
end AH
/- CONTRACTS OF THE REFERENCE: a world drawn of a code. -/
namespace AH
open Go Go.Proofs Ho
set_option maxRecDepth 20000
set_option maxHeartbeats 16000000
end AH
/- CONTRACTS OF THE REFERENCE: a world and a guest drawn of a code. -/
namespace AH
open Go Go.Proofs Ho
set_option maxRecDepth 20000
set_option maxHeartbeats 16000000
theorem GB.lenI {τ : AHeap} {j gb : Nat} {v : AV} {gs : List (Guest × AV × AV)} (h : GB τ j v gb gs) : LenIs v gs.length := by
  cases h with
  | none => exact .inl ⟨rfl, rfl⟩
  | some h0 h1 h2 h3 h4 => exact .inr ⟨_, _, _, by rw [h0]⟩
theorem zDrawWO_fn (σ : AHeap) (v : AV) (xs : List Int) (hv : LsV .u8 σ v xs) (hl : (xs.length : Int) ≤ 1048576) (hx : ∀ x ∈ xs, 0 ≤ x ∧ x ≤ 255) :
    Fn Tryz.prog 54 [v] σ fun x τ => ∃ (j : Nat) (v' : AV) (gb : Nat) (ws : List Int) (gs : List (Guest × AV × AV)) (i : Int), x = .tup [.agg [.sl j 0 ws.length 1, v'], .int .i64 i] ∧ -1 ≤ i ∧ i ≤ gs.length ∧ WBt τ σ.n 60000 j v' gb ws gs ∧ (∀ y, y < σ.n → τ.get y = σ.get y) := by
  generalize hG : (fun (x : AV) (τ : AHeap) => ∃ (j : Nat) (v' : AV) (gb : Nat) (ws : List Int) (gs : List (Guest × AV × AV)) (i : Int), x = AV.tup [.agg [.sl j 0 ws.length 1, v'], .int .i64 i] ∧ -1 ≤ i ∧ i ≤ gs.length ∧ WBt τ σ.n 60000 j v' gb ws gs ∧ (∀ y, y < σ.n → τ.get y = σ.get y)) = GG
  have hb : ∀ j : Int, 0 ≤ at_ xs j ∧ at_ xs j ≤ 255 := by
    intro j
    unfold at_
    rw [List.getD_eq_getElem?_getD]
    cases hj : xs[j.toNat]? with
    | none => simp
    | some w => exact hx w (List.mem_of_getElem? hj)
  have iv := hv.isL
  refine fn_of ord54 mixed Tryz.func54 (by kernel_rfl) rfl (by kernel_rfl) ?_
  simp (config := {contextual := true, maxSteps := 1000000}) (disch := first | exact dB | fail) [go_sem, envOf, wrap_i64, int_lt, -Int.not_le, -Int.not_lt, Bool.decide_and, Bool.decide_or, and_assoc, Bool.and_assoc, Bool.or_assoc, Prod.exists, Prod.forall, -List.map_set, set_put, ord54]
  (repeat refine Alt.mk ?_)
  refine callP_use (zOpen_fn _ v xs hv.push (by omega) hb) ?_
  rintro x τ hn ⟨bv, bs, rfl, rfl, y1, y2, y3⟩
  simp (config := {contextual := true, maxSteps := 1000000}) (disch := first | exact dB | fail) [go_sem, envOf, wrap_i64, int_lt, -Int.not_le, -Int.not_lt, Bool.decide_and, Bool.decide_or, and_assoc, Bool.and_assoc, Bool.or_assoc, Prod.exists, Prod.forall, -List.map_set, set_put, ord54]
  (repeat refine Alt.mk ?_)
  generalize hσ1 : (((σ.push ⟨[.nils, .nils], true⟩).push ⟨[bv, .int .i64 0], true⟩) : AHeap) = σ1
  have x1 : σ1.n = σ.n + 1 + 1 := by rw [← hσ1]; rfl
  have x2 : ∀ y, y < σ.n → σ1.get y = σ.get y := by rw [← hσ1]; (intro j_ hj_; simp (disch := first | exact NE.ne (by assumption) | exact NE.sym (by assumption) | omega | (simp only [push_n', set_n', kill_n', res_n]; omega)) only [push_get_lt, set_get_ne, kill_get_ne, res_lt])
  have x3 : σ1.get (σ.n + 1) = some ⟨[bv, .int .i64 0], true⟩ := by rw [← hσ1]; (first | exact cGT | fail)
  have x4 : σ1.get σ.n = some ⟨[.nils, .nils], true⟩ := by rw [← hσ1]; (first | exact cGT | fail)
  have hr : Rd σ1 (σ.n + 1) bv bs 0 := by
    refine ⟨by omega, x3, ?_, ?_, y3, y2, by omega⟩
    · rw [← hσ1]; exact y1.push
    · exact Ls_ap y1 (by simp only [push_n']; omega)
  simp only [push_n'] at *
  refine callP_use (zBent_fn σ1 (σ.n + 1) bv bs 0 hr (by omega)) ?_
  rintro x τ hn1 ⟨j, v', gb, ws, gs, q, rfl, W, z1, z2, z3, z4⟩
  have w4 : τ.get σ.n = _ := (z4 _ (by omega) (by simp only [NE]; omega)).trans x4
  have iv' := W.isL
  have hlj := W.lj
  have hlg := W.lg
  have m7 := W.m7
  have hnn : σ.n < τ.n := by omega
  have lv := W.hv.lenI
  have hpk := pick_rng (bs := bs) (k := q) (n := (gs.length : Int) + 2) (by omega)
  have hq9 : q ≤ 999999999 := by omega
  simp (config := {contextual := true, maxSteps := 1000000}) (disch := first | exact dB | fail) [go_sem, envOf, wrap_i64, int_lt, -Int.not_le, -Int.not_lt, Bool.decide_and, Bool.decide_or, and_assoc, Bool.and_assoc, Bool.or_assoc, Prod.exists, Prod.forall, -List.map_set, set_put, ord54, w4]
  (repeat refine Alt.mk ?_)
  rw [← hG]
  refine ⟨j, v', gb, ws, gs, _, rfl, by omega, by omega, ((((W.past (z := σ.n + 1) (by omega) (by simp only [set_n']; omega) (fun y _ q2 => set_get_ne q2.ne)).past (z := σ.n) (by omega) (by simp only [set_n']; omega) (fun y _ q2 => set_get_ne q2.ne)).frame (by simp only [push_n', set_n']; omega) (fun y hy => push_get_lt hy)).low (by omega)), fun y hy => ?_⟩
  rw [push_get_lt (by simp only [set_n']; omega), set_get_ne (by omega), set_get_ne (by omega), z4 y (by omega) (by simp only [NE]; omega), x2 y hy]
end AH
