import Derived.Test.YtagihpbpblnnoaaGreatQ38
import Derived.Test.YtagihpbpblnnoaaGreatQ15
set_option linter.all false
namespace AH
open Go Go.Proofs Ho
set_option maxRecDepth 20000
set_option maxHeartbeats 16000000
theorem whole_ok {ws : List Int} {ok : Cfg → Prop} [∀ c, Decidable (ok c)] (h : (whole ws ok).2 = true) : (whole ws ok).1.ok ∧ ok (whole ws ok).1 := by
  unfold whole at h ⊢
  split at h
  · cases h
  · rename_i hn
    rw [if_neg hn]
    simp only at h ⊢
    split at h
    · rename_i hc; rw [if_pos hc]; exact ⟨hc.1, hc.2.2⟩
    · cases h
theorem listFrom_len (w : List Int) (c : Cfg) : ∀ (f : Nat) (a : Int), (listFrom w c f a).length ≤ f := by
  intro f
  induction f with
  | zero => intro a; exact Nat.le_refl 0
  | succ f ih =>
    intro a
    unfold listFrom
    split
    · simp only [List.length_cons]; have := ih (lval w (pLink c (a - 1))); omega
    · simp
theorem listFrom_mem (w : List Int) (c : Cfg) (hc : c.pages ≤ 10) : ∀ (f : Nat) (a : Int), ∀ x ∈ listFrom w c f a, 0 ≤ x ∧ x < 80 := by
  intro f
  induction f with
  | zero => intro a x hx; cases hx
  | succ f ih =>
    intro a x hx
    unfold listFrom at hx
    split at hx
    · rcases List.mem_cons.1 hx with rfl | hx
      · omega
      · exact ih _ x hx
    · cases hx
theorem readB_S (ws : List Int) (c : Cfg) (hc : c.ok) : BkS (readB ws c) := by
  unfold Cfg.ok at hc
  have hlv : ∀ a, 0 ≤ lval ws a ∧ lval ws a < 4294967296 := fun a => cval_range
  refine ⟨by show -1000000 ≤ c.slots ∧ c.slots ≤ 1000000; omega, ?_, ?_, ?_, ?_, ?_⟩
  · refine .of (by simp [readB]; omega) fun x hx => ?_
    obtain ⟨a, _, rfl⟩ := List.mem_map.1 hx
    have := hlv (pPage c a); omega
  · intro k
    show Sm (if k < 4 then listOf ws c k else [])
    split
    · refine .of ?_ fun x hx => ?_
      · have := listFrom_len ws c (c.pages * 8 + 1).toNat (lval ws (pHead c k))
        unfold listOf; omega
      · have := listFrom_mem ws c (by omega) _ _ x hx; omega
    · exact Sm.nil
  · refine .of (by simp [readB]; omega) fun x hx => ?_
    obtain ⟨a, _, rfl⟩ := List.mem_map.1 hx
    have := hlv (pTag c a); omega
  · refine .of (by simp [readB]; omega) fun x hx => ?_
    obtain ⟨a, _, rfl⟩ := List.mem_map.1 hx
    have := cval_range (w := pload ws (pReg c a)); omega
  · refine .of (by simp [readB]; omega) fun x hx => ?_
    obtain ⟨a, _, rfl⟩ := List.mem_map.1 hx
    have := cval_range (w := pload ws (pReg c a)); omega
theorem lay_len (c : Cfg) (b : Bk) : (lay c b).length = (house c).toNat := by
  have h : lay c b = upto 4 (f4 c b) (upto b.owner.length (f3 c b) (upto c.pages.toNat (f2 c b) (upto c.slots.toNat (f1 c b) (List.replicate (house c).toNat 0)))) := rfl
  rw [h, upto_len (f4 c b) (fun _ _ => layHead_len _ _ _ _), upto_len (f3 c b) (fun _ _ => put_len' _ _ _), upto_len (f2 c b) (fun _ _ => put_len' _ _ _), upto_len (f1 c b) (fun _ _ => put_len' _ _ _), List.length_replicate]
/-- What is returned where words are asked for their book. -/
def BkC (σ τ : AHeap) (r : Bk × Bool) (x : AV) : Prop := ∃ pv k0 k1 k2 k3 ov iv ev, x = .tup [bV r.1 pv k0 k1 k2 k3 ov iv ev, .bool r.2] ∧ BkV τ r.1 pv k0 k1 k2 k3 ov iv ev ∧ (∀ y, y < σ.n → τ.get y = σ.get y) ∧ σ.n ≤ τ.n ∧
  ∀ y, y < σ.n → BkAp y pv k0 k1 k2 k3 ov iv ev
theorem BkC.zero {σ τ : AHeap} {r : Bk × Bool} (hr : r = (Bk.zero, false)) (hf : ∀ y, y < σ.n → τ.get y = σ.get y) (hn : σ.n ≤ τ.n) : BkC σ τ r (.tup [.agg [.int .i64 0, .nils, .nils, .nils, .nils, .nils, .nils, .nils, .nils], .bool false]) := by
  subst hr
  exact ⟨.nils, .nils, .nils, .nils, .nils, .nils, .nils, .nils, rfl, ⟨.nil, .nil, .nil, .nil, .nil, .nil, .nil, .nil⟩, hf, hn, fun y hy => ⟨.inr rfl, .inr rfl, .inr rfl, .inr rfl, .inr rfl, .inr rfl, .inr rfl, .inr rfl⟩⟩
theorem zCensBook_fn (σ : AHeap) (v : AV) (ws : List Int) (hv : LsV .u64 σ v ws) (hW : ∀ w ∈ ws, isW w) (hl : (ws.length : Int) ≤ 1000000) :
    Fn Tryz.prog 174 [v] σ fun x τ => BkC σ τ (censBook ws) x := by
  refine fn_of ord174 mixed Tryz.func174 (by kernel_rfl) rfl (by kernel_rfl) ?_
  by_cases hw : (wholeH ws).2 = true
  rotate_left
  · have hw' : (wholeH ws).2 = false := by simpa using hw
    have hT : censBook ws = (Bk.zero, false) := by unfold censBook; rw [if_neg hw]
    simp (config := {contextual := true, maxSteps := 1000000}) (disch := first | exact dB | fail) [go_sem, envOf, wrap_i64, int_lt, -Int.not_le, -Int.not_lt, Bool.decide_and, Bool.decide_or, and_assoc, Bool.and_assoc, Bool.or_assoc, Prod.exists, Prod.forall, -List.map_set, set_put, ord174, hw']
    (repeat refine Alt.mk ?_)
    exact BkC.zero hT (by intro y hy; simp (disch := first | omega | (simp only [push_n', set_n']; omega)) only [push_get_lt]) (by simp only [push_n']; omega)
  obtain ⟨hok, hwl⟩ := whole_ok hw
  obtain ⟨c, hc⟩ : ∃ c, (wholeH ws).1 = c := ⟨_, rfl⟩
  have hc' : (whole ws fun c => (ws.length : Int) = c.size ∨ (ws.length : Int) = house c).1 = c := hc
  rw [hc'] at hok hwl
  obtain ⟨s, p, l⟩ := c
  have hok' := hok
  unfold Cfg.ok at hok'
  simp only at hok'
  have hT : censBook ws = if bookP (readB ws ⟨s, p, l⟩) ∧ fits ⟨s, p, l⟩ (readB ws ⟨s, p, l⟩) ws then (readB ws ⟨s, p, l⟩, true) else (Bk.zero, false) := by
    unfold censBook; rw [if_pos hw]; simp only [hc]
  have hS := readB_S ws _ hok
  simp (config := {contextual := true, maxSteps := 1000000}) (disch := first | exact dB | fail) [go_sem, envOf, wrap_i64, int_lt, -Int.not_le, -Int.not_lt, Bool.decide_and, Bool.decide_or, and_assoc, Bool.and_assoc, Bool.or_assoc, Prod.exists, Prod.forall, -List.map_set, set_put, ord174, hw, hc]
  (repeat refine Alt.mk ?_)
  refine callP_use (zRead_fn _ v ws s p l hv.push.push hW hok) ?_
  rintro x0 υ hnn ⟨P, O, I, E, q0, q1, q2, q3, rfl, hB, hk, hn⟩
  have hsl : (readB ws ⟨s, p, l⟩).slots = s := rfl
  have hil : ((readB ws ⟨s, p, l⟩).inn.length : Int) = s ∧ ((readB ws ⟨s, p, l⟩).epoch.length : Int) = s ∧ ((readB ws ⟨s, p, l⟩).pages.length : Int) = p := by simp [readB]; omega
  obtain ⟨b, hbb⟩ : ∃ b, readB ws ⟨s, p, l⟩ = b := ⟨_, rfl⟩
  rw [hbb] at hB hS hT hsl hil ⊢
  simp only [push_n'] at hk hn
  have g0 := hk σ.n (by omega)
  have g1 := hk (σ.n + 1) (by omega)
  simp (disch := first | omega | (simp only [push_n']; omega)) only [push_get_lt] at g0
  rw [get_push_eq _ rfl] at g0
  rw [get_push_eq _ (by simp only [push_n'])] at g1
  have hk0 : Keeps σ.n σ υ := by
    intro y hy
    rw [hk y (by omega)]
    simp (disch := first | omega | (simp only [push_n']; omega)) only [push_get_lt]
  have hlo := hB.lo
  simp only [push_n'] at hlo
  have hV := hB.v
  have hv1 := hv.keeps hk0 hv.lt (by omega)
  by_cases hbk : bookP b
  rotate_left
  · rw [if_neg (fun h => hbk h.1)] at hT
    simp (config := {contextual := true, maxSteps := 1000000}) (disch := first | exact dB | fail) [go_sem, envOf, wrap_i64, int_lt, -Int.not_le, -Int.not_lt, Bool.decide_and, Bool.decide_or, and_assoc, Bool.and_assoc, Bool.or_assoc, Prod.exists, Prod.forall, -List.map_set, set_put, ord174, g0, g1, hbk]
    (repeat refine Alt.mk ?_)
    refine BkC.zero hT (by intro y hy; simp (disch := first | omega | (simp only [push_n', set_n']; omega)) only [push_get_lt, set_get_ne]; exact hk0 y hy) (by simp only [push_n', set_n']; omega)
  · simp (config := {contextual := true, maxSteps := 1000000}) (disch := first | exact dB | fail) [go_sem, envOf, wrap_i64, int_lt, -Int.not_le, -Int.not_lt, Bool.decide_and, Bool.decide_or, and_assoc, Bool.and_assoc, Bool.or_assoc, Prod.exists, Prod.forall, -List.map_set, set_put, ord174, g0, g1, hbk]
    (repeat refine Alt.mk ?_)
    refine callP_use (zLay_fn _ b _ _ _ _ _ _ _ _ s p l hV.push hS hok hil) ?_
    rintro x1 υ1 hn1 ⟨rfl, rfl⟩
    have hLl := lay_len ⟨s, p, l⟩ b
    have hH' : house ⟨s, p, l⟩ = 7 + 2 * s + 17 * p := rfl
    obtain ⟨L, hL⟩ : ∃ L, lay ⟨s, p, l⟩ b = L := ⟨_, rfl⟩
    have hfit : fits ⟨s, p, l⟩ b ws ↔ ∀ a : Int, pReg ⟨s, p, l⟩ 0 ≤ a → a < L.length → ¬ isBeat ⟨s, p, l⟩ a → at_ L a = cval (at_ ws a) := by unfold fits; rw [hL]
    rw [hL] at hLl ⊢
    have hLH : (L.length : Int) = house ⟨s, p, l⟩ := by omega
    have hLw : (L.length : Int) ≤ ws.length := by unfold Cfg.size at hwl; simp only at hwl; omega
    have hr0 : pReg ⟨s, p, l⟩ 0 = 3 := by unfold pReg l2At; rw [if_pos ⟨hok, by omega, by simp only; omega⟩]; omega
    have hbt : pBeat ⟨s, p, l⟩ 0 = 3 + s := by unfold pBeat l2At; rw [if_pos ⟨hok, by omega, by simp only; omega⟩]; simp
    simp (config := {contextual := true, maxSteps := 1000000}) (disch := first | exact dB | fail) [go_sem, envOf, wrap_i64, int_lt, -Int.not_le, -Int.not_lt, Bool.decide_and, Bool.decide_or, and_assoc, Bool.and_assoc, Bool.or_assoc, Prod.exists, Prod.forall, -List.map_set, set_put, ord174, g0, g1]
    (repeat refine Alt.mk ?_)
    have hZ : ¬ fits ⟨s, p, l⟩ b ws → BkC σ (((υ.set σ.n ⟨[.int .i64 0, .nils, .nils, .nils, .nils, .nils, .nils, .nils, .nils], true⟩).push ⟨[.int .i64 b.slots, .sl P 0 b.pages.length 1, .sl q0 0 (b.heads 0).length 1, .sl q1 0 (b.heads 1).length 1, .sl q2 0 (b.heads 2).length 1, .sl q3 0 (b.heads 3).length 1, .sl O 0 b.owner.length 1, .sl I 0 b.inn.length 1, .sl E 0 b.epoch.length 1], true⟩).push ⟨L.map (.int .i64), true⟩) (censBook ws) (.tup [.agg [.int .i64 0, .nils, .nils, .nils, .nils, .nils, .nils, .nils, .nils], .bool false]) := fun hf => by
      rw [if_neg (fun h => hf h.2)] at hT
      exact BkC.zero hT (by intro y hy; simp (disch := first | omega | (simp only [push_n', set_n']; omega)) only [push_get_lt, set_get_ne]; exact hk0 y hy) (by simp only [push_n', set_n']; omega)
    have hY : fits ⟨s, p, l⟩ b ws → BkC σ (((υ.set σ.n ⟨[.int .i64 b.slots, .sl P 0 b.pages.length 1, .sl q0 0 (b.heads 0).length 1, .sl q1 0 (b.heads 1).length 1, .sl q2 0 (b.heads 2).length 1, .sl q3 0 (b.heads 3).length 1, .sl O 0 b.owner.length 1, .sl I 0 b.inn.length 1, .sl E 0 b.epoch.length 1], true⟩).push ⟨[.int .i64 b.slots, .sl P 0 b.pages.length 1, .sl q0 0 (b.heads 0).length 1, .sl q1 0 (b.heads 1).length 1, .sl q2 0 (b.heads 2).length 1, .sl q3 0 (b.heads 3).length 1, .sl O 0 b.owner.length 1, .sl I 0 b.inn.length 1, .sl E 0 b.epoch.length 1], true⟩).push ⟨L.map (.int .i64), true⟩) (censBook ws) (.tup [.agg [.int .i64 b.slots, .sl P 0 b.pages.length 1, .sl q0 0 (b.heads 0).length 1, .sl q1 0 (b.heads 1).length 1, .sl q2 0 (b.heads 2).length 1, .sl q3 0 (b.heads 3).length 1, .sl O 0 b.owner.length 1, .sl I 0 b.inn.length 1, .sl E 0 b.epoch.length 1], .bool true]) := fun hf => by
      rw [if_pos ⟨hbk, hf⟩] at hT
      rw [hT]
      have ha : ∀ y, y < σ.n + 2 → Out y P O I E q0 q1 q2 q3 := fun y hy => by constructor <;> (simp only [NE]; omega)
      have hap : ∀ y, y < σ.n + 2 → BkAp y (.sl P 0 b.pages.length 1) (.sl q0 0 (b.heads 0).length 1) (.sl q1 0 (b.heads 1).length 1) (.sl q2 0 (b.heads 2).length 1) (.sl q3 0 (b.heads 3).length 1) (.sl O 0 b.owner.length 1) (.sl I 0 b.inn.length 1) (.sl E 0 b.epoch.length 1) := fun y hy => by
        obtain ⟨a1, a2, a3, a4, a5, a6, a7, a8⟩ := ha y hy
        exact ⟨.inl a1.sym, .inl a5.sym, .inl a6.sym, .inl a7.sym, .inl a8.sym, .inl a2.sym, .inl a3.sym, .inl a4.sym⟩
      exact ⟨_, _, _, _, _, _, _, _, rfl, (hV.set_ap (hap σ.n (by omega))).push.push, by intro y hy; simp (disch := first | omega | (simp only [push_n', set_n']; omega)) only [push_get_lt, set_get_ne]; exact hk0 y hy, by simp only [push_n', set_n']; omega, fun y hy => hap y (by omega)⟩
    have hvL : LsV .i64 ((υ.push ⟨[.int .i64 b.slots, .sl P 0 b.pages.length 1, .sl q0 0 (b.heads 0).length 1, .sl q1 0 (b.heads 1).length 1, .sl q2 0 (b.heads 2).length 1, .sl q3 0 (b.heads 3).length 1, .sl O 0 b.owner.length 1, .sl I 0 b.inn.length 1, .sl E 0 b.epoch.length 1], true⟩).push ⟨L.map (.int .i64), true⟩) (.sl (υ.n + 1) 0 L.length 1) L := lsv_at (by simp only [push_n']; omega) (get_push_eq _ (by simp only [push_n'])) rfl
    have hv2 := (hv1.push (B := ⟨[.int .i64 b.slots, .sl P 0 b.pages.length 1, .sl q0 0 (b.heads 0).length 1, .sl q1 0 (b.heads 1).length 1, .sl q2 0 (b.heads 2).length 1, .sl q3 0 (b.heads 3).length 1, .sl O 0 b.owner.length 1, .sl I 0 b.inn.length 1, .sl E 0 b.epoch.length 1], true⟩)).push (B := ⟨L.map (.int .i64), true⟩)
    have hs10 : 0 ≤ s ∧ s ≤ 4 := by omega
    have hp10 : 0 ≤ p ∧ p ≤ 6 := by omega
    have hL10 : 3 ≤ (L.length : Int) ∧ (L.length : Int) ≤ 1000 := by omega
    rw [hfit] at hZ hY
    have hnn : σ.n + 2 ≤ υ.n := by omega
    clear hfit hLl hH' hLH hB hV hlo hk0 hk hn hT hS hil hsl hbb hL hok hok' hwl hc hc' hw hv1 hv hbk hl
    refine aloops_lt (fun R_ env τ => ∃ (a : Int), env 8 = .int .i64 a ∧ env 0 = v ∧ env 4 = .ptr (σ.n + 1) 0 ∧ env 7 = .sl (υ.n + 1) 0 L.length 1 ∧ env 6 = .ptr υ.n 0 ∧ env 2 = .ptr σ.n 0 ∧ ((υ.push ⟨[.int .i64 b.slots, .sl P 0 b.pages.length 1, .sl q0 0 (b.heads 0).length 1, .sl q1 0 (b.heads 1).length 1, .sl q2 0 (b.heads 2).length 1, .sl q3 0 (b.heads 3).length 1, .sl O 0 b.owner.length 1, .sl I 0 b.inn.length 1, .sl E 0 b.epoch.length 1], true⟩).push ⟨L.map (.int .i64), true⟩) = τ ∧ R_ ((L.length - a).toNat) ∧ (3 ≤ a ∧ a ≤ L.length ∧ ∀ q : Int, 3 ≤ q → q < a → ¬ isBeat ⟨s, p, l⟩ q → at_ L q = cval (at_ ws q))) (by rintro R_ env τ ⟨a, e8, e0, e4, e7, e6, e2, h_, hR_, hp⟩; exact ⟨_, hR_, a, e8, e0, e4, e7, e6, e2, h_, rfl, hp⟩) ⟨3, by first | rfl | simp [put_get, *], by first | rfl | simp [put_get, *], by first | rfl | simp [put_get, *], by first | rfl | simp [put_get, *], by first | rfl | simp [put_get, *], by first | rfl | simp [put_get, *], rfl, trivial, ?_⟩ ?_
    rotate_left
    rintro m_ env τ ⟨a, e8, e0, e4, e7, e6, e2, rfl, rfl, hp⟩
    · obtain ⟨hp1, hp2, hp3⟩ := hp
      have hwa := at_isW hW a
      have hib : isBeat ⟨s, p, l⟩ a ↔ (3 + s ≤ a ∧ a < 3 + s + s) := by unfold isBeat; rw [hbt]
      have hnx : (isBeat ⟨s, p, l⟩ a ∨ at_ L a = cval (at_ ws a)) → ∀ q : Int, 3 ≤ q → ¬ a + 1 ≤ q → ¬ isBeat ⟨s, p, l⟩ q → at_ L q = cval (at_ ws q) := fun hor q x1 x2 x3 => by
        by_cases e : q = a
        · subst e; rcases hor with h | h
          · exact absurd h x3
          · exact h
        · exact hp3 q x1 (by omega) x3
      by_cases hal : a < L.length
      · have hal' : ¬ (L.length : Int) ≤ a := by omega
        have ha0 : 0 ≤ a := by omega
        by_cases hbe : isBeat ⟨s, p, l⟩ a
        · have hb1 := (hib.1 hbe).1
          have hb2 := (hib.1 hbe).2
          have hnx' := hnx (.inl hbe)
          clear hnx hib hp3 hZ hY hwa
          simp (config := {contextual := true, maxSteps := 1000000}) (disch := first | exact dB | fail) [go_sem, envOf, wrap_i64, int_lt, -Int.not_le, -Int.not_lt, Bool.decide_and, Bool.decide_or, and_assoc, Bool.and_assoc, Bool.or_assoc, Prod.exists, Prod.forall, -List.map_set, set_put, ord174, e8, e0, e4, e7, e6, e2, g1, hal, hbt, hb1, hb2]
          (repeat refine Alt.mk ?_)
          exact ⟨by omega, by omega, by omega, hnx'⟩
        · have hb : ¬ (3 + s ≤ a ∧ a < 3 + s + s) := fun h => hbe (hib.2 h)
          by_cases heq : at_ L a = cval (at_ ws a)
          · have hnx' := hnx (.inr heq)
            clear hnx hib hp3 hZ hY
            by_cases hb1 : 3 + s ≤ a
            · have hb2 : ¬ a < 3 + s + s := by omega
              simp (config := {contextual := true, maxSteps := 1000000}) (disch := first | exact dB | fail) [go_sem, envOf, wrap_i64, int_lt, -Int.not_le, -Int.not_lt, Bool.decide_and, Bool.decide_or, and_assoc, Bool.and_assoc, Bool.or_assoc, Prod.exists, Prod.forall, -List.map_set, set_put, ord174, e8, e0, e4, e7, e6, e2, g1, hal, hbt, hb1, hb2, heq]
              (repeat refine Alt.mk ?_)
              exact ⟨by omega, by omega, by omega, hnx'⟩
            · simp (config := {contextual := true, maxSteps := 1000000}) (disch := first | exact dB | fail) [go_sem, envOf, wrap_i64, int_lt, -Int.not_le, -Int.not_lt, Bool.decide_and, Bool.decide_or, and_assoc, Bool.and_assoc, Bool.or_assoc, Prod.exists, Prod.forall, -List.map_set, set_put, ord174, e8, e0, e4, e7, e6, e2, g1, hal, hbt, hb1, heq]
              (repeat refine Alt.mk ?_)
              exact ⟨by omega, by omega, by omega, hnx'⟩
          · have hz := hZ (fun h => heq (h a (by rw [hr0]; omega) (by omega) hbe))
            clear hnx hib hp3 hZ hY
            by_cases hb1 : 3 + s ≤ a
            · have hb2 : ¬ a < 3 + s + s := by omega
              simp (config := {contextual := true, maxSteps := 1000000}) (disch := first | exact dB | fail) [go_sem, envOf, wrap_i64, int_lt, -Int.not_le, -Int.not_lt, Bool.decide_and, Bool.decide_or, and_assoc, Bool.and_assoc, Bool.or_assoc, Prod.exists, Prod.forall, -List.map_set, set_put, ord174, e8, e0, e4, e7, e6, e2, g0, g1, hal, hbt, hb1, hb2, heq]
              (repeat refine Alt.mk ?_)
              exact hz
            · simp (config := {contextual := true, maxSteps := 1000000}) (disch := first | exact dB | fail) [go_sem, envOf, wrap_i64, int_lt, -Int.not_le, -Int.not_lt, Bool.decide_and, Bool.decide_or, and_assoc, Bool.and_assoc, Bool.or_assoc, Prod.exists, Prod.forall, -List.map_set, set_put, ord174, e8, e0, e4, e7, e6, e2, g0, g1, hal, hbt, hb1, heq]
              (repeat refine Alt.mk ?_)
              exact hz
      · have hal' : (L.length : Int) ≤ a := by omega
        have hy := hY (fun q x1 x2 x3 => hp3 q (by rw [hr0] at x1; exact x1) (by omega) x3)
        clear hnx hib hp3 hZ hY
        simp (config := {contextual := true, maxSteps := 1000000}) (disch := first | exact dB | fail) [go_sem, envOf, wrap_i64, int_lt, -Int.not_le, -Int.not_lt, Bool.decide_and, Bool.decide_or, and_assoc, Bool.and_assoc, Bool.or_assoc, Prod.exists, Prod.forall, -List.map_set, set_put, ord174, e8, e0, e4, e7, e6, e2, g0, g1, hal']
        (repeat refine Alt.mk ?_)
        exact hy
    · refine ⟨by omega, by omega, fun q x1 x2 => by omega⟩
end AH
/- CONTRACTS OF THE REFERENCE: a call becomes changes of words. -/
namespace AH
open Go Go.Proofs Ho
set_option maxRecDepth 20000
set_option maxHeartbeats 16000000
theorem cens_ok {ws : List Int} (h : (censBook ws).2 = true) : (wholeH ws).2 = true ∧ (wholeH ws).1.ok ∧ bookP (censBook ws).1 ∧ BkS (censBook ws).1 ∧ (((censBook ws).1.inn.length : Int) = (wholeH ws).1.slots ∧ ((censBook ws).1.epoch.length : Int) = (wholeH ws).1.slots ∧ ((censBook ws).1.pages.length : Int) = (wholeH ws).1.pages) ∧ (censBook ws).1.slots = (wholeH ws).1.slots := by
  unfold censBook at h ⊢
  split at h
  · rename_i hw
    rw [if_pos hw]
    simp only at h ⊢
    have hok := (whole_ok hw).1
    have hok' : (wholeH ws).1.ok := hok
    have hok2 := hok'
    unfold Cfg.ok at hok2
    split at h
    · rename_i hb
      rw [if_pos hb]
      refine ⟨hw, hok', hb.1, readB_S ws _ hok', ?_, rfl⟩
      simp [readB]; omega
    · cases h
  · cases h
theorem planL_succ (v u : List Int) (stamp : Int) (n : Nat) : planL v u stamp (n + 1) = planL v u stamp n ++ (if at_ v (n : Int) = at_ u (n : Int) then [] else [centry n (at_ u (n : Int)) stamp]) := by
  unfold planL
  rw [List.range_succ, List.filter_append, List.map_append]
  congr 1
  by_cases h : at_ v (n : Int) = at_ u (n : Int) <;> simp [h]
theorem planL_len (v u : List Int) (stamp : Int) (n : Nat) : (planL v u stamp n).length ≤ n := by
  unfold planL
  rw [List.length_map]
  exact Nat.le_trans (List.length_filter_le _ _) (by simp)
/-- A list, a code, a number, where words are asked what a call changes. -/
def PlR (σ τ : AHeap) (r : List Int × Int × Int) (x : AV) : Prop := ∃ lv, x = .tup [lv, .int .i64 r.2.1, .int .i64 r.2.2] ∧ LsV .u64 τ lv r.1 ∧ (∀ y, y < σ.n → τ.get y = σ.get y) ∧ σ.n ≤ τ.n ∧ (σ.n ≤ bOf lv ∨ lv = .nils)
theorem zPlanOf_fn (σ : AHeap) (v : AV) (ws : List Int) (op : Ho.Op) (st : Int) (hv : LsV .u64 σ v ws) (hW : ∀ w ∈ ws, isW w) (hl : (ws.length : Int) ≤ 1000000) :
    Fn Tryz.prog 126 [v, .agg [.int .i64 op.kind, .int .i64 op.slot, .int .i64 op.a, .int .i64 op.b], .int .i64 st] σ fun x τ => PlR σ τ (planOf ws op st) x := by
  refine fn_of ord126 mixed Tryz.func126 (by kernel_rfl) rfl (by kernel_rfl) ?_
  simp (config := {contextual := true, maxSteps := 1000000}) (disch := first | exact dB | fail) [go_sem, envOf, wrap_i64, int_lt, -Int.not_le, -Int.not_lt, Bool.decide_and, Bool.decide_or, and_assoc, Bool.and_assoc, Bool.or_assoc, Prod.exists, Prod.forall, -List.map_set, set_put, ord126]
  (repeat refine Alt.mk ?_)
  refine callP_use (zCensBook_fn _ v ws hv.push hW hl) ?_
  rintro x0 υ hn0 ⟨pv, k0, k1, k2, k3, ov, iv, ev, rfl, hV, hf0, hn1, ha0⟩
  simp only [push_n'] at hf0 hn1 ha0
  obtain ⟨b, hb⟩ : ∃ b, (censBook ws).1 = b := ⟨_, rfl⟩
  have hg0 := hf0 σ.n (by omega)
  rw [get_push_eq _ rfl] at hg0
  have hk0 : ∀ y, y < σ.n → υ.get y = σ.get y := fun y hy => by rw [hf0 y (by omega), push_get_lt hy]
  have hv1 := hv.keeps (τ := υ) (n := σ.n) hk0 hv.lt (by omega)
  obtain ⟨l1, l2, l3, l4, l5, l6, l7, l8⟩ := And.intro hV.p.isL (And.intro hV.h0.isL (And.intro hV.h1.isL (And.intro hV.h2.isL (And.intro hV.h3.isL (And.intro hV.o.isL (And.intro hV.i.isL hV.e.isL))))))
  by_cases hst : (censBook ws).2 = true ∧ 1 ≤ st ∧ st ≤ 1000000000
  rotate_left
  · have hT : planOf ws op st = ([], 13, 0) := by unfold planOf; rw [if_neg hst]
    have hZ : ∀ z, PlR σ z (planOf ws op st) (.tup [.nils, .int .i64 13, .int .i64 0]) ↔ ((∀ y, y < σ.n → z.get y = σ.get y) ∧ σ.n ≤ z.n) := fun z => by
      rw [hT]; exact ⟨fun ⟨_, _, _, h1, h2, _⟩ => ⟨h1, h2⟩, fun h => ⟨.nils, rfl, .nil, h.1, h.2, .inr rfl⟩⟩
    clear hV
    by_cases h1 : (censBook ws).2 = true
    · by_cases h2 : 1 ≤ st
      · have h3 : ¬ st ≤ 1000000000 := fun h => hst ⟨h1, h2, h⟩
        simp (config := {contextual := true, maxSteps := 1000000}) (disch := first | exact dB | fail) [go_sem, envOf, wrap_i64, int_lt, -Int.not_le, -Int.not_lt, Bool.decide_and, Bool.decide_or, and_assoc, Bool.and_assoc, Bool.or_assoc, Prod.exists, Prod.forall, -List.map_set, set_put, ord126, hg0, h1, h2, h3]
        (repeat refine Alt.mk ?_)
        rw [hZ]
        exact ⟨by intro y hy; simp (disch := first | omega | (simp only [push_n', set_n']; omega)) only [push_get_lt, set_get_ne]; exact hk0 y hy, by simp only [push_n', set_n']; omega⟩
      · simp (config := {contextual := true, maxSteps := 1000000}) (disch := first | exact dB | fail) [go_sem, envOf, wrap_i64, int_lt, -Int.not_le, -Int.not_lt, Bool.decide_and, Bool.decide_or, and_assoc, Bool.and_assoc, Bool.or_assoc, Prod.exists, Prod.forall, -List.map_set, set_put, ord126, hg0, h1, h2]
        (repeat refine Alt.mk ?_)
        rw [hZ]
        exact ⟨by intro y hy; simp (disch := first | omega | (simp only [push_n', set_n']; omega)) only [push_get_lt, set_get_ne]; exact hk0 y hy, by simp only [push_n', set_n']; omega⟩
    · have h1' : (censBook ws).2 = false := by simpa using h1
      simp (config := {contextual := true, maxSteps := 1000000}) (disch := first | exact dB | fail) [go_sem, envOf, wrap_i64, int_lt, -Int.not_le, -Int.not_lt, Bool.decide_and, Bool.decide_or, and_assoc, Bool.and_assoc, Bool.or_assoc, Prod.exists, Prod.forall, -List.map_set, set_put, ord126, hg0, h1']
      (repeat refine Alt.mk ?_)
      rw [hZ]
      exact ⟨by intro y hy; simp (disch := first | omega | (simp only [push_n', set_n']; omega)) only [push_get_lt, set_get_ne]; exact hk0 y hy, by simp only [push_n', set_n']; omega⟩
  obtain ⟨h1, h2, h3⟩ := hst
  obtain ⟨hw, hok, hbk, hS, hsh, hss⟩ := cens_ok h1
  obtain ⟨c, hc⟩ : ∃ c, (wholeH ws).1 = c := ⟨_, rfl⟩
  rw [hc] at hok hsh hss
  rw [hb] at hbk hS hsh hss hV
  have hT : planOf ws op st = (planL (lay c b) (lay c (bookDo b op).1) st (lay c b).length, (bookDo b op).2.1, (bookDo b op).2.2) := by
    unfold planOf; rw [if_pos ⟨h1, h2, h3⟩]; simp only [hb, hc]
  obtain ⟨s, p, l⟩ := c
  have hsd := doB_shp hbk hS op
  have hbd : bookDo b op = doB b op := by unfold bookDo; rw [if_pos hbk]
  rw [hbd] at hT
  rw [hT]
  rw [hb]
  simp (config := {contextual := true, maxSteps := 1000000}) (disch := first | exact dB | fail) [go_sem, envOf, wrap_i64, int_lt, -Int.not_le, -Int.not_lt, Bool.decide_and, Bool.decide_or, and_assoc, Bool.and_assoc, Bool.or_assoc, Prod.exists, Prod.forall, -List.map_set, set_put, ord126, hg0, h1, h2, h3, hw, hc]
  (repeat refine Alt.mk ?_)
  refine callP_use (zBookDo_fn _ b pv k0 k1 k2 k3 ov iv ev op hV.push.push hS) ?_
  rintro x1 υ2 hn2 ⟨pv', k0', k1', k2', k3', ov', iv', ev', rfl, hV2, hf2, hn3, ha2⟩
  rw [hbd] at hV2 ⊢
  have hVb := hV.push.push.keeps hf2 hn3
  simp only [push_n'] at hf2 hn3 ha2
  have g9 := hf2 υ.n (by omega)
  have g11 := hf2 (υ.n + 1) (by omega)
  simp (disch := first | omega | (simp only [push_n']; omega)) only [push_get_lt] at g9
  rw [get_push_eq _ rfl] at g9
  rw [get_push_eq _ (by simp only [push_n'])] at g11
  have hk2 : ∀ y, y < σ.n → υ2.get y = σ.get y := fun y hy => by
    rw [hf2 y (by omega)]
    simp (disch := first | omega | (simp only [push_n', set_n']; omega)) only [push_get_lt, set_get_ne]
    exact hk0 y hy
  obtain ⟨b2, hb2⟩ : ∃ b2, (doB b op).1 = b2 := ⟨_, rfl⟩
  obtain ⟨cd, hcd⟩ : ∃ cd, (doB b op).2.1 = cd := ⟨_, rfl⟩
  obtain ⟨nn, hnn⟩ : ∃ nn, (doB b op).2.2 = nn := ⟨_, rfl⟩
  rw [hb2] at hV2 hsd ⊢
  rw [hcd, hnn]
  obtain ⟨m1, m2, m3, m4, m5, m6, m7, m8⟩ := And.intro hV2.p.isL (And.intro hV2.h0.isL (And.intro hV2.h1.isL (And.intro hV2.h2.isL (And.intro hV2.h3.isL (And.intro hV2.o.isL (And.intro hV2.i.isL hV2.e.isL))))))
  have hsh2 : (b2.inn.length : Int) = s ∧ (b2.epoch.length : Int) = s ∧ (b2.pages.length : Int) = p := by
    rw [hsd.i, hsd.e, hsd.p]; exact hsh
  have hLl := lay_len ⟨s, p, l⟩ b
  have hXl := lay_len ⟨s, p, l⟩ b2
  obtain ⟨L, hL⟩ : ∃ L, lay ⟨s, p, l⟩ b = L := ⟨_, rfl⟩
  obtain ⟨X, hX⟩ : ∃ X, lay ⟨s, p, l⟩ b2 = X := ⟨_, rfl⟩
  have hlb := fun ζ hz => zLay_fn ζ b pv k0 k1 k2 k3 ov iv ev s p l hz hS hok hsh
  have hlx := fun ζ hz => zLay_fn ζ b2 pv' k0' k1' k2' k3' ov' iv' ev' s p l hz hsd.S hok hsh2
  rw [hL] at hlb hLl ⊢
  rw [hX] at hlx hXl ⊢
  have hXL : X.length = L.length := by rw [hLl, hXl]
  have hHr : L.length ≤ 200 := by
    rw [hLl]
    have h5 := hok
    unfold Cfg.ok at h5
    unfold house
    simp only at h5 ⊢
    omega
  have hn4 : σ.n + 3 ≤ υ2.n := by omega
  clear hL hX hLl hXl hT hbd hsd hsh hsh2 hss hw hc hbk hb hb2 hcd hnn hV hf0 hf2 ha0 ha2 hk0 hn0 hn2 hg0 h1
  simp (config := {contextual := true, maxSteps := 1000000}) (disch := first | exact dB | fail) [go_sem, envOf, wrap_i64, int_lt, -Int.not_le, -Int.not_lt, Bool.decide_and, Bool.decide_or, and_assoc, Bool.and_assoc, Bool.or_assoc, Prod.exists, Prod.forall, -List.map_set, set_put, ord126, g9, g11]
  (repeat refine Alt.mk ?_)
  refine callP_use (hlb _ ?_) ?_
  · exact hVb.push
  rintro x2 υ3 hn5 ⟨rfl, rfl⟩
  simp (config := {contextual := true, maxSteps := 1000000}) (disch := first | exact dB | fail) [go_sem, envOf, wrap_i64, int_lt, -Int.not_le, -Int.not_lt, Bool.decide_and, Bool.decide_or, and_assoc, Bool.and_assoc, Bool.or_assoc, Prod.exists, Prod.forall, -List.map_set, set_put, ord126, g9, g11]
  (repeat refine Alt.mk ?_)
  refine callP_use (hlx _ ?_) ?_
  · exact hV2.push.push
  rintro x3 υ4 hn6 ⟨rfl, rfl⟩
  simp (config := {contextual := true, maxSteps := 1000000}) (disch := first | exact dB | fail) [go_sem, envOf, wrap_i64, int_lt, -Int.not_le, -Int.not_lt, Bool.decide_and, Bool.decide_or, and_assoc, Bool.and_assoc, Bool.or_assoc, Prod.exists, Prod.forall, -List.map_set, set_put, ord126, g9, g11]
  (repeat refine Alt.mk ?_)
  refine aloops_lt (fun R_ env τ => ∃ (a : Nat), ∃ (q : Nat), ∃ (l : List Int), env 19 = .int .i64 a ∧ env 18 = .sl q 0 l.length 1 ∧ env 16 = .sl (υ2.n + 1) 0 L.length 1 ∧ env 17 = .sl (υ2.n + 1 + 1) 0 X.length 1 ∧ env 2 = .int .i64 st ∧ env 14 = .int .i64 cd ∧ env 15 = .int .i64 nn ∧ R_ (L.length - a) ∧ (a ≤ L.length) ∧ (τ.get q = some ⟨l.map (.int .u64), true⟩) ∧ (υ2.n + 3 ≤ q ∧ q < τ.n) ∧ (l = planL L X st a) ∧ (τ.get (υ2.n + 1) = some ⟨L.map (.int .i64), true⟩) ∧ (τ.get (υ2.n + 1 + 1) = some ⟨X.map (.int .i64), true⟩) ∧ ((∀ y, y < σ.n → τ.get y = σ.get y))) (by rintro R_ env τ ⟨a, q, l, e19, e18, e16, e17, e2, e14, e15, hR_, ha, gq, hq, hl', gL, gX, hkk⟩; exact ⟨_, hR_, a, q, l, e19, e18, e16, e17, e2, e14, e15, rfl, ha, gq, hq, hl', gL, gX, hkk⟩) ⟨0, υ2.n + 1 + 1 + 1, [], by first | rfl | simp [put_get, *], by first | rfl | simp [put_get, *], by first | rfl | simp [put_get, *], by first | rfl | simp [put_get, *], by first | rfl | simp [put_get, *], by first | rfl | simp [put_get, *], by first | rfl | simp [put_get, *], trivial, ?_, ?_, ?_, ?_, ?_, ?_, ?_⟩ ?_
  rotate_left 7
  rintro m_ env τ ⟨a, q, l, e19, e18, e16, e17, e2, e14, e15, rfl, ha, gq, hq, hl', gL, gX, hkk⟩
  · have hll := planL_len L X st a
    rw [← hl'] at hll
    have hvL : LsV .i64 τ (.sl (υ2.n + 1) 0 L.length 1) L := lsv_at (by omega) gL rfl
    have hvX : LsV .i64 τ (.sl (υ2.n + 1 + 1) 0 X.length 1) X := lsv_at (by omega) gX rfl
    by_cases hal : a < L.length
    · have hal' : ¬ L.length ≤ a := by omega
      have hps := planL_succ L X st a
      by_cases heq : at_ L a = at_ X a
      · rw [if_pos heq, List.append_nil, ← hl'] at hps
        simp (config := {contextual := true, maxSteps := 1000000}) (disch := first | exact dB | fail) [go_sem, envOf, wrap_i64, int_lt, -Int.not_le, -Int.not_lt, Bool.decide_and, Bool.decide_or, and_assoc, Bool.and_assoc, Bool.or_assoc, Prod.exists, Prod.forall, -List.map_set, set_put, ord126, e19, e18, e16, e17, e2, e14, e15, hal', heq]
        (repeat refine Alt.mk ?_)
        refine ⟨a + 1, by omega, l, rfl, ?_⟩
        (repeat' refine And.intro ?_ ?_)
        all_goals first | omega | rfl | assumption | exact hps.symm | exact hq.1 | exact hq.2 | (rw [gq]; done)
      · rw [if_neg heq, ← hl'] at hps
        simp (config := {contextual := true, maxSteps := 1000000}) (disch := first | exact dB | fail) [go_sem, envOf, wrap_i64, int_lt, -Int.not_le, -Int.not_lt, Bool.decide_and, Bool.decide_or, and_assoc, Bool.and_assoc, Bool.or_assoc, Prod.exists, Prod.forall, -List.map_set, set_put, ord126, e19, e18, e16, e17, e2, e14, e15, hal', heq, gq]
        (repeat refine Alt.mk ?_)
        exact ⟨a + 1, by omega, l ++ [centry a (at_ X a) st], by simp, by omega, by omega, by simp, by omega, hps.symm, gL, gX, hkk⟩
    · have hal' : L.length ≤ a := by omega
      have hae : a = L.length := by omega
      rw [hae] at hl'
      simp (config := {contextual := true, maxSteps := 1000000}) (disch := first | exact dB | fail) [go_sem, envOf, wrap_i64, int_lt, -Int.not_le, -Int.not_lt, Bool.decide_and, Bool.decide_or, and_assoc, Bool.and_assoc, Bool.or_assoc, Prod.exists, Prod.forall, -List.map_set, set_put, ord126, e19, e18, e16, e17, e2, e14, e15, hal']
      (repeat refine Alt.mk ?_)
      refine ⟨_, rfl, ?_, hkk, by omega, .inl ?_⟩
      · rw [← hl']; exact lsv_at hq.2 gq rfl
      · show σ.n ≤ q; omega
  all_goals first
    | omega
    | (first | exact cGT | fail)
    | (simp [planL]; done)
    | (intro y hy; simp (disch := first | omega | (simp only [push_n', set_n']; omega)) only [push_get_lt, set_get_ne]; exact hk2 y hy)
    | trace_state
end AH
/- CONTRACTS OF THE REFERENCE: a guest's run, planning. -/
namespace AH
open Go Go.Proofs Ho
set_option maxRecDepth 20000
set_option maxHeartbeats 16000000
/-- A list's value behind a call: as it was, or new. -/
def NV (n : Nat) (τ : AHeap) (v v' : AV) (l l' : List Int) : Prop := (v' = v ∧ l' = l) ∨ (LsV .u64 τ v' l' ∧ (n ≤ bOf v' ∨ v' = .nils))
/-- What a piece of a step leaves of a run. -/
def RunR (σ τ : AHeap) (r j : Nat) (c : Cfg) (sv pv : AV) (l m : List Int) (o : SO) : Prop := ∃ sv' pv', τ.get r = some ⟨rG j o.ws.length c o.g sv' pv' o.ev, true⟩ ∧ τ.get j = some ⟨o.ws.map (.int .u64), true⟩ ∧ (∀ y, y < σ.n → NE y r → NE y j → τ.get y = σ.get y) ∧ σ.n ≤ τ.n ∧
  NV σ.n τ sv sv' l o.g.snap ∧ NV σ.n τ pv pv' m o.g.plan
/-- A run about to go on. -/
structure RunS (σ : AHeap) (r j : Nat) (c : Cfg) (ws : List Int) (g : Guest) (sv pv : AV) (ev : Int) : Prop where
  hr : r < σ.n
  hj : j < σ.n
  ne : NE r j
  hg : σ.get r = some ⟨rG j ws.length c g sv pv ev, true⟩
  hw : σ.get j = some ⟨ws.map (.int .u64), true⟩
  ls : LsV .u64 σ sv g.snap
  lp : IsL pv
  sr : ApV sv r
  sj : ApV sv j
  sW : ∀ w ∈ g.snap, isW w
  sl : (g.snap.length : Int) ≤ 1000000
theorem xPlan_fn (σ : AHeap) (r j : Nat) (c : Cfg) (ws : List Int) (g : Guest) (sv pv : AV) (ev : Int) (h : RunS σ r j c ws g sv pv ev) :
    Fn Tryz.prog 210 [.ptr r 0] σ fun x τ => x = .tup [] ∧ RunR σ τ r j c sv pv g.snap g.plan ⟨ws, g.planG, ev⟩ := by
  refine fn_of ord210 mixed Tryz.func210 (by kernel_rfl) rfl (by kernel_rfl) ?_
  obtain ⟨hr, hj, ne, hg, hw, ls, lp, sr, sj, sW, sl⟩ := h
  simp (config := {contextual := true, maxSteps := 1000000}) (disch := first | exact dB | fail) [go_sem, envOf, wrap_i64, int_lt, -Int.not_le, -Int.not_lt, Bool.decide_and, Bool.decide_or, and_assoc, Bool.and_assoc, Bool.or_assoc, Prod.exists, Prod.forall, -List.map_set, set_put, ord210, hg]
  (repeat refine Alt.mk ?_)
  refine callP_use (zPlanOf_fn σ sv g.snap g.op g.seq ls sW sl) ?_
  rintro x0 τ hn0 ⟨lv, rfl, hL, hf, hn, hfr⟩
  have hg' := (hf r hr).trans hg
  have hw' := (hf j hj).trans hw
  obtain ⟨R, hR⟩ : ∃ R, planOf g.snap g.op g.seq = R := ⟨_, rfl⟩
  rw [hR] at hL ⊢
  have hm : g.planG = if R.2.1 = 13 ∨ 20 < (R.1.length : Int) then g.yieldG 11 else if R.2.1 = 5 ∨ R.2.1 = 9 then g.yieldG R.2.1 else { g with plan := R.1, code := R.2.1, val := R.2.2, gk := 0, pc := 13 } := by
    unfold Guest.planG; rw [hR]
  obtain ⟨G, hG⟩ : ∃ G, g.planG = G := ⟨_, rfl⟩
  rw [hG] at hm ⊢
  obtain ⟨l, cd, n⟩ := R
  simp only at hm hL
  have hIs := hL.isL
  have hav : bOf lv ≠ r ∨ lv = .nils := by rcases hfr with h | h; exact .inl (by omega); exact .inr h
  have fin : ∀ (X : ABlk) (g' : Guest) (pv' : AV), X = ⟨rG j ws.length c g' sv pv' ev, true⟩ → g'.snap = g.snap → NV σ.n (τ.set r X) pv pv' g.plan g'.plan → RunR σ (τ.set r X) r j c sv pv g.snap g.plan ⟨ws, g', ev⟩ := by
    intro X g' pv' h1 h2 h3
    exact ⟨sv, pv', by rw [get_set_same, h1], by rw [set_get_ne ne.sym]; exact hw', fun y y1 y2 y3 => by rw [set_get_ne y2.ne]; exact hf y y1, by simp only [set_n']; omega, .inl ⟨rfl, h2⟩, h3⟩
  by_cases h1 : cd = 13 ∨ 20 < (l.length : Int)
  · rw [if_pos h1] at hm
    subst hm
    by_cases h2 : cd = 13
    · simp (config := {contextual := true, maxSteps := 1000000}) (disch := first | exact dB | fail) [go_sem, envOf, wrap_i64, int_lt, -Int.not_le, -Int.not_lt, Bool.decide_and, Bool.decide_or, and_assoc, Bool.and_assoc, Bool.or_assoc, Prod.exists, Prod.forall, -List.map_set, set_put, ord210, hg', h2]
      (repeat refine Alt.mk ?_)
      exact fin _ (g.yieldG 11) pv rfl rfl (.inl ⟨rfl, rfl⟩)
    · have h3 : 20 < (l.length : Int) := by omega
      have h3' : ¬ (l.length : Int) ≤ 20 := by omega
      simp (config := {contextual := true, maxSteps := 1000000}) (disch := first | exact dB | fail) [go_sem, envOf, wrap_i64, int_lt, -Int.not_le, -Int.not_lt, Bool.decide_and, Bool.decide_or, and_assoc, Bool.and_assoc, Bool.or_assoc, Prod.exists, Prod.forall, -List.map_set, set_put, ord210, hg', h2, h3']
      (repeat refine Alt.mk ?_)
      exact fin _ (g.yieldG 11) pv rfl rfl (.inl ⟨rfl, rfl⟩)
  have h2 : ¬ cd = 13 := fun h => h1 (.inl h)
  have h3' : (l.length : Int) ≤ 20 := by omega
  rw [if_neg h1] at hm
  by_cases h4 : cd = 5 ∨ cd = 9
  · rw [if_pos h4] at hm
    subst hm
    by_cases h5 : cd = 5
    · simp (config := {contextual := true, maxSteps := 1000000}) (disch := first | exact dB | fail) [go_sem, envOf, wrap_i64, int_lt, -Int.not_le, -Int.not_lt, Bool.decide_and, Bool.decide_or, and_assoc, Bool.and_assoc, Bool.or_assoc, Prod.exists, Prod.forall, -List.map_set, set_put, ord210, hg', h2, h3', h5]
      (repeat refine Alt.mk ?_)
      exact fin _ (g.yieldG 5) pv rfl rfl (.inl ⟨rfl, rfl⟩)
    · have h6 : cd = 9 := by omega
      simp (config := {contextual := true, maxSteps := 1000000}) (disch := first | exact dB | fail) [go_sem, envOf, wrap_i64, int_lt, -Int.not_le, -Int.not_lt, Bool.decide_and, Bool.decide_or, and_assoc, Bool.and_assoc, Bool.or_assoc, Prod.exists, Prod.forall, -List.map_set, set_put, ord210, hg', h2, h3', h6]
      (repeat refine Alt.mk ?_)
      exact fin _ (g.yieldG 9) pv rfl rfl (.inl ⟨rfl, rfl⟩)
  · rw [if_neg h4] at hm
    subst hm
    have h5 : ¬ cd = 5 := fun h => h4 (.inl h)
    have h6 : ¬ cd = 9 := fun h => h4 (.inr h)
    simp (config := {contextual := true, maxSteps := 1000000}) (disch := first | exact dB | fail) [go_sem, envOf, wrap_i64, int_lt, -Int.not_le, -Int.not_lt, Bool.decide_and, Bool.decide_or, and_assoc, Bool.and_assoc, Bool.or_assoc, Prod.exists, Prod.forall, -List.map_set, set_put, ord210, hg', h2, h3', h5, h6]
    (repeat refine Alt.mk ?_)
    refine fin _ { g with plan := l, code := cd, val := n, gk := 0, pc := 13 } lv ?_ rfl (.inr ⟨?_, hfr⟩)
    · rfl
    · exact hL.set hav
end AH
/- CONTRACTS OF THE REFERENCE: a guest's run, reaping and deciding. -/
namespace AH
open Go Go.Proofs Ho
set_option maxRecDepth 20000
set_option maxHeartbeats 16000000
theorem pReg_rng {c : Cfg} (hc : 0 ≤ c.slots ∧ c.slots ≤ 7) (n : Int) : 0 ≤ pReg c n ∧ pReg c n < 7 := by
  unfold pReg l2At
  split
  · rename_i hh; unfold Cfg.ok at hh; omega
  · omega
theorem pBeat_rng {c : Cfg} (hc : 0 ≤ c.slots ∧ c.slots ≤ 7) (hp : 0 ≤ c.pages) (n : Int) : 0 ≤ pBeat c n ∧ pBeat c n < house c := by
  unfold pBeat l2At house
  split
  · rename_i hh; unfold Cfg.ok at hh; omega
  · omega
theorem RunS.out {σ : AHeap} {r j : Nat} {c : Cfg} {ws : List Int} {g : Guest} {sv pv : AV} {ev : Int} (h : RunS σ r j c ws g sv pv ev) (X : ABlk) (g' : Guest) (hX : X = ⟨rG j ws.length c g' sv pv ev, true⟩) (hs : g'.snap = g.snap) (hp : g'.plan = g.plan) : RunR σ (σ.set r X) r j c sv pv g.snap g.plan ⟨ws, g', ev⟩ :=
  ⟨sv, pv, by rw [get_set_same, hX], by rw [set_get_ne h.ne.sym]; exact h.hw, fun y y1 y2 y3 => by rw [set_get_ne y2.ne], by simp only [set_n']; omega, .inl ⟨rfl, hs⟩, .inl ⟨rfl, hp⟩⟩
theorem xReap_fn (σ : AHeap) (r j : Nat) (c : Cfg) (ws : List Int) (g : Guest) (sv pv : AV) (ev : Int) (h : RunS σ r j c ws g sv pv ev) (hc : 0 ≤ c.slots ∧ c.slots ≤ 7) (hcp : 0 ≤ c.pages ∧ c.pages ≤ 10) (hcl : 0 ≤ c.lease ∧ c.lease ≤ 1000000) (hl : (g.snap.length : Int) = house c) :
    Fn Tryz.prog 259 [.ptr r 0] σ fun x τ => x = .tup [] ∧ RunR σ τ r j c sv pv g.snap g.plan ⟨ws, g.reapG c, ev⟩ := by
  refine fn_of ord259 mixed Tryz.func259 (by kernel_rfl) rfl (by kernel_rfl) ?_
  have hh := h
  obtain ⟨hr, hj, ne, hg, hw, ls, lp, sr, sj, sW, sl⟩ := h
  have p1 := pReg_rng hc g.oa
  have p2 := pBeat_rng hc hcp.1 g.oa
  have hho : 7 ≤ house c := by unfold house; omega
  have w1 := at_isW sW (pReg c g.oa)
  have v1 := cval_range (w := at_ g.snap (pReg c g.oa))
  have q1 : pReg c g.oa < (g.snap.length : Int) := by omega
  have q2 : pBeat c g.oa < (g.snap.length : Int) ∧ 1 < (g.snap.length : Int) := by omega
  by_cases h1 : g.oa < 0 ∨ c.slots ≤ g.oa
  · have hm : g.reapG c = g.planG := by unfold Guest.reapG; rw [if_pos h1]
    rw [hm]
    by_cases h2 : g.oa < 0
    · have h2' : ¬ 0 ≤ g.oa := by omega
      simp (config := {contextual := true, maxSteps := 1000000}) (disch := first | exact dB | fail) [go_sem, envOf, wrap_i64, int_lt, -Int.not_le, -Int.not_lt, Bool.decide_and, Bool.decide_or, and_assoc, Bool.and_assoc, Bool.or_assoc, Prod.exists, Prod.forall, -List.map_set, set_put, ord259, hg, h2']
      refine callP_use (xPlan_fn σ r j c ws g sv pv ev hh) ?_
      rintro x τ hn ⟨rfl, hR⟩
      simp (config := {contextual := true, maxSteps := 1000000}) (disch := first | exact dB | fail) [go_sem, envOf, wrap_i64, int_lt, -Int.not_le, -Int.not_lt, Bool.decide_and, Bool.decide_or, and_assoc, Bool.and_assoc, Bool.or_assoc, Prod.exists, Prod.forall, -List.map_set, set_put, ord259]
      (repeat refine Alt.mk ?_)
      exact hR
    · have h2' : 0 ≤ g.oa := by omega
      have h3 : c.slots ≤ g.oa := by omega
      simp (config := {contextual := true, maxSteps := 1000000}) (disch := first | exact dB | fail) [go_sem, envOf, wrap_i64, int_lt, -Int.not_le, -Int.not_lt, Bool.decide_and, Bool.decide_or, and_assoc, Bool.and_assoc, Bool.or_assoc, Prod.exists, Prod.forall, -List.map_set, set_put, ord259, hg, h2', h3]
      refine callP_use (xPlan_fn σ r j c ws g sv pv ev hh) ?_
      rintro x τ hn ⟨rfl, hR⟩
      simp (config := {contextual := true, maxSteps := 1000000}) (disch := first | exact dB | fail) [go_sem, envOf, wrap_i64, int_lt, -Int.not_le, -Int.not_lt, Bool.decide_and, Bool.decide_or, and_assoc, Bool.and_assoc, Bool.or_assoc, Prod.exists, Prod.forall, -List.map_set, set_put, ord259]
      (repeat refine Alt.mk ?_)
      exact hR
  have h2 : 0 ≤ g.oa := by omega
  have h3 : ¬ c.slots ≤ g.oa := by omega
  by_cases h4 : g.oa = g.slot
  · have hm : g.reapG c = g.yieldG 8 := by unfold Guest.reapG; rw [if_neg h1]; simp only; rw [if_pos (.inl h4)]
    rw [hm]
    rw [h4] at h2 h3 q1 w1 v1 p1
    simp (config := {contextual := true, maxSteps := 1000000}) (disch := first | exact dB | fail) [go_sem, envOf, wrap_i64, int_lt, -Int.not_le, -Int.not_lt, Bool.decide_and, Bool.decide_or, and_assoc, Bool.and_assoc, Bool.or_assoc, Prod.exists, Prod.forall, -List.map_set, set_put, ord259, hg, h2, h3, h4]
    (repeat refine Alt.mk ?_)
    refine hh.out _ (g.yieldG 8) ?_ rfl rfl
    simp only [rG, Guest.yieldG, h4]
  by_cases h5 : cval (at_ g.snap (pReg c g.oa)) % 4 = 1
  · by_cases h6 : lateB c g g.oa (cval (at_ g.snap (pReg c g.oa)) / 4)
    · have hm : g.reapG c = { g with pc := 12 } := by
        unfold Guest.reapG; rw [if_neg h1]; simp only
        rw [if_neg (by rintro (x | ⟨x, y⟩); exact h4 x; exact y h6), if_pos h5]
      rw [hm]
      unfold lateB at h6
      simp (config := {contextual := true, maxSteps := 1000000}) (disch := first | exact dB | fail) [go_sem, envOf, wrap_i64, int_lt, -Int.not_le, -Int.not_lt, Bool.decide_and, Bool.decide_or, and_assoc, Bool.and_assoc, Bool.or_assoc, Prod.exists, Prod.forall, -List.map_set, set_put, ord259, hg, h2, h3, h4, h5, h6]
      (repeat refine Alt.mk ?_)
      refine callP_use (yLate_fn σ r c g.oa _ g.snap (hg := hg) (hc := ⟨rfl, rfl, rfl⟩) (hcr := ⟨by omega, by omega⟩) (hs := ls) (hw := sW) (hl := q2) ..) ?_
      rintro x τ hn ⟨rfl, rfl⟩
      first | rw [decide_eq_true h6] | rw [decide_eq_false h6]
      clear h6
      simp (config := {contextual := true, maxSteps := 1000000}) (disch := first | exact dB | fail) [go_sem, envOf, wrap_i64, int_lt, -Int.not_le, -Int.not_lt, Bool.decide_and, Bool.decide_or, and_assoc, Bool.and_assoc, Bool.or_assoc, Prod.exists, Prod.forall, -List.map_set, set_put, ord259, hg, h2, h3, h4, h5]
      (repeat refine Alt.mk ?_)
      exact hh.out _ { g with pc := 12 } rfl rfl rfl
    · have hm : g.reapG c = g.yieldG 8 := by
        unfold Guest.reapG; rw [if_neg h1]; simp only
        rw [if_pos (.inr ⟨h5, h6⟩)]
      rw [hm]
      unfold lateB at h6
      simp (config := {contextual := true, maxSteps := 1000000}) (disch := first | exact dB | fail) [go_sem, envOf, wrap_i64, int_lt, -Int.not_le, -Int.not_lt, Bool.decide_and, Bool.decide_or, and_assoc, Bool.and_assoc, Bool.or_assoc, Prod.exists, Prod.forall, -List.map_set, set_put, ord259, hg, h2, h3, h4, h5, h6]
      (repeat refine Alt.mk ?_)
      refine callP_use (yLate_fn σ r c g.oa _ g.snap (hg := hg) (hc := ⟨rfl, rfl, rfl⟩) (hcr := ⟨by omega, by omega⟩) (hs := ls) (hw := sW) (hl := q2) ..) ?_
      rintro x τ hn ⟨rfl, rfl⟩
      first | rw [decide_eq_true h6] | rw [decide_eq_false h6]
      clear h6
      simp (config := {contextual := true, maxSteps := 1000000}) (disch := first | exact dB | fail) [go_sem, envOf, wrap_i64, int_lt, -Int.not_le, -Int.not_lt, Bool.decide_and, Bool.decide_or, and_assoc, Bool.and_assoc, Bool.or_assoc, Prod.exists, Prod.forall, -List.map_set, set_put, ord259, hg, h2, h3, h4, h5]
      (repeat refine Alt.mk ?_)
      exact hh.out _ (g.yieldG 8) rfl rfl rfl
  · have hm : g.reapG c = g.planG := by
      unfold Guest.reapG; rw [if_neg h1]; simp only
      rw [if_neg (by rintro (x | ⟨x, y⟩); exact h4 x; exact h5 x), if_neg h5]
    rw [hm]
    simp (config := {contextual := true, maxSteps := 1000000}) (disch := first | exact dB | fail) [go_sem, envOf, wrap_i64, int_lt, -Int.not_le, -Int.not_lt, Bool.decide_and, Bool.decide_or, and_assoc, Bool.and_assoc, Bool.or_assoc, Prod.exists, Prod.forall, -List.map_set, set_put, ord259, hg, h2, h3, h4, h5]
    (repeat refine Alt.mk ?_)
    refine callP_use (xPlan_fn σ r j c ws g sv pv ev hh) ?_
    rintro x τ hn ⟨rfl, hR⟩
    simp (config := {contextual := true, maxSteps := 1000000}) (disch := first | exact dB | fail) [go_sem, envOf, wrap_i64, int_lt, -Int.not_le, -Int.not_lt, Bool.decide_and, Bool.decide_or, and_assoc, Bool.and_assoc, Bool.or_assoc, Prod.exists, Prod.forall, -List.map_set, set_put, ord259]
    (repeat refine Alt.mk ?_)
    exact hR
theorem xDecide_fn (σ : AHeap) (r j : Nat) (c : Cfg) (ws : List Int) (g : Guest) (sv pv : AV) (ev : Int) (h : RunS σ r j c ws g sv pv ev) (hc : 0 ≤ c.slots ∧ c.slots ≤ 7) (hcp : 0 ≤ c.pages ∧ c.pages ≤ 10) (hcl : 0 ≤ c.lease ∧ c.lease ≤ 1000000) (hl : (g.snap.length : Int) = house c) :
    Fn Tryz.prog 208 [.ptr r 0] σ fun x τ => x = .tup [] ∧ RunR σ τ r j c sv pv g.snap g.plan ⟨ws, g.decideG c, ev⟩ := by
  refine fn_of ord208 mixed Tryz.func208 (by kernel_rfl) rfl (by kernel_rfl) ?_
  have hh := h
  obtain ⟨hr, hj, ne, hg, hw, ls, lp, sr, sj, sW, sl⟩ := h
  have p1 := pReg_rng hc g.slot
  have hho : 7 ≤ house c := by unfold house; omega
  have w1 := at_isW sW (pReg c g.slot)
  have v1 := cval_range (w := at_ g.snap (pReg c g.slot))
  have q1 : pReg c g.slot < (g.snap.length : Int) := by omega
  by_cases h1 : cval (at_ g.snap (pReg c g.slot)) % 4 ≠ 1 ∨ cval (at_ g.snap (pReg c g.slot)) / 4 ≠ g.epoch
  · have hm : g.decideG c = g.yieldG 11 := by unfold Guest.decideG; simp only; rw [if_pos h1]
    rw [hm]
    by_cases h2 : cval (at_ g.snap (pReg c g.slot)) % 4 = 1
    · have h3 : ¬ cval (at_ g.snap (pReg c g.slot)) / 4 = g.epoch := by omega
      simp (config := {contextual := true, maxSteps := 1000000}) (disch := first | exact dB | fail) [go_sem, envOf, wrap_i64, int_lt, -Int.not_le, -Int.not_lt, Bool.decide_and, Bool.decide_or, and_assoc, Bool.and_assoc, Bool.or_assoc, Prod.exists, Prod.forall, -List.map_set, set_put, ord208, hg, h2, h3]
      (repeat refine Alt.mk ?_)
      exact hh.out _ (g.yieldG 11) rfl rfl rfl
    · simp (config := {contextual := true, maxSteps := 1000000}) (disch := first | exact dB | fail) [go_sem, envOf, wrap_i64, int_lt, -Int.not_le, -Int.not_lt, Bool.decide_and, Bool.decide_or, and_assoc, Bool.and_assoc, Bool.or_assoc, Prod.exists, Prod.forall, -List.map_set, set_put, ord208, hg, h2]
      (repeat refine Alt.mk ?_)
      exact hh.out _ (g.yieldG 11) rfl rfl rfl
  have h2 : cval (at_ g.snap (pReg c g.slot)) % 4 = 1 := by omega
  have h3 : cval (at_ g.snap (pReg c g.slot)) / 4 = g.epoch := by omega
  by_cases h4 : g.okind = 6
  · have hm : g.decideG c = g.reapG c := by unfold Guest.decideG; simp only; rw [if_neg h1, if_pos h4]
    rw [hm]
    simp (config := {contextual := true, maxSteps := 1000000}) (disch := first | exact dB | fail) [go_sem, envOf, wrap_i64, int_lt, -Int.not_le, -Int.not_lt, Bool.decide_and, Bool.decide_or, and_assoc, Bool.and_assoc, Bool.or_assoc, Prod.exists, Prod.forall, -List.map_set, set_put, ord208, hg, h2, h3, h4]
    (repeat refine Alt.mk ?_)
    refine callP_use (xReap_fn σ r j c ws g sv pv ev hh hc hcp hcl hl) ?_
    rintro x τ hn ⟨rfl, hR⟩
    simp (config := {contextual := true, maxSteps := 1000000}) (disch := first | exact dB | fail) [go_sem, envOf, wrap_i64, int_lt, -Int.not_le, -Int.not_lt, Bool.decide_and, Bool.decide_or, and_assoc, Bool.and_assoc, Bool.or_assoc, Prod.exists, Prod.forall, -List.map_set, set_put, ord208]
    (repeat refine Alt.mk ?_)
    exact hR
  · have hm : g.decideG c = g.planG := by unfold Guest.decideG; simp only; rw [if_neg h1, if_neg h4]
    rw [hm]
    simp (config := {contextual := true, maxSteps := 1000000}) (disch := first | exact dB | fail) [go_sem, envOf, wrap_i64, int_lt, -Int.not_le, -Int.not_lt, Bool.decide_and, Bool.decide_or, and_assoc, Bool.and_assoc, Bool.or_assoc, Prod.exists, Prod.forall, -List.map_set, set_put, ord208, hg, h2, h3, h4]
    (repeat refine Alt.mk ?_)
    refine callP_use (xPlan_fn σ r j c ws g sv pv ev hh) ?_
    rintro x τ hn ⟨rfl, hR⟩
    simp (config := {contextual := true, maxSteps := 1000000}) (disch := first | exact dB | fail) [go_sem, envOf, wrap_i64, int_lt, -Int.not_le, -Int.not_lt, Bool.decide_and, Bool.decide_or, and_assoc, Bool.and_assoc, Bool.or_assoc, Prod.exists, Prod.forall, -List.map_set, set_put, ord208]
    (repeat refine Alt.mk ?_)
    exact hR
end AH
