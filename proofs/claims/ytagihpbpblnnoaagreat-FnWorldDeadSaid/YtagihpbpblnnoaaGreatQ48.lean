import Derived.Test.YtagihpbpblnnoaaGreatQ39
import Derived.Test.YtagihpbpblnnoaaGreatQ32
set_option linter.all false
namespace AH
open Go Go.Proofs Ho
set_option maxRecDepth 20000
set_option maxHeartbeats 16000000
theorem putEntry_isW {ws : List Int} {e : Int} (h : ∀ w ∈ ws, isW w) : ∀ w ∈ putEntry ws e, isW w := by
  unfold putEntry
  simp only
  split
  · intro w hw
    unfold put at hw
    rcases List.mem_or_eq_of_mem_set hw with h1 | h1
    · exact h w h1
    · exact h1 ▸ pack_isW _ _
  · exact h
theorem putLog_isW {w0 w : List Int} {door a : Int} (h : ∀ x ∈ w, isW x) : ∀ n, ∀ x ∈ putLog w0 door a w n, isW x := by
  intro n
  induction n with
  | zero => exact h
  | succ n ih =>
    unfold putLog
    simp only
    split
    · exact putEntry_isW ih
    · exact ih
theorem putLog_len (w0 w : List Int) (door a : Int) : ∀ n, (putLog w0 door a w n).length = w.length := by
  intro n
  induction n with
  | zero => rfl
  | succ n ih =>
    unfold putLog
    simp only
    split
    · rw [putEntry_len, ih]
    · exact ih
theorem censDone_len (w : List Int) : (censDone w).length = w.length := by
  unfold censDone
  simp only
  split
  · split
    · rw [put_len', putLog_len]
    · rfl
  · rfl
theorem censDone_isW {w : List Int} (h : ∀ x ∈ w, isW x) : ∀ x ∈ censDone w, isW x := by
  unfold censDone
  simp only
  split
  · split
    · intro x hx
      unfold put at hx
      rcases List.mem_or_eq_of_mem_set hx with h1 | h1
      · exact putLog_isW h _ x h1
      · exact h1 ▸ pack_isW _ _
    · exact h
  · exact h
theorem zCensDone_fn (σ : AHeap) (v : AV) (ws : List Int) (hv : LsV .u64 σ v ws) (hW : ∀ w ∈ ws, isW w) (hl : (ws.length : Int) ≤ 1000000) :
    Fn Tryz.prog 260 [v] σ fun x τ => x = .sl σ.n 0 (censDone ws).length 1 ∧ τ = σ.push ⟨(censDone ws).map (.int .u64), true⟩ := by
  have key := fn_fresh (args := [v]) (σ := σ) (xs := (censDone ws).map (.int .u64)) ord0 mixed Tryz.func260 (by kernel_rfl) rfl (by kernel_rfl) (lts_ints _ _ _) ?_
  · simpa using key
  rw [List.length_map, censDone_len]
  have hfin : ∀ τ q xs, censDone ws = xs → Keeps σ.n σ τ → σ.n ≤ q → τ.get q = some ⟨xs.map (.int .u64), true⟩ → (Keeps σ.n σ τ ∧ ∃ j k B, AV.sl q 0 ws.length 1 = .sl j k ws.length 1 ∧ σ.n ≤ j ∧ τ.get j = some B ∧ B.rw = true ∧ k + ws.length ≤ B.cells.length ∧ (B.cells.drop k).take ws.length = (censDone ws).map (.int .u64)) := by
    intro τ q xs h1 h2 h3 h4
    have hlen : xs.length = ws.length := by rw [← h1, censDone_len]
    refine ⟨h2, q, 0, _, rfl, h3, h4, rfl, by simp [hlen], ?_⟩
    rw [h1, List.drop_zero, List.take_of_length_le (by simp [hlen])]
  generalize hG : (fun (x : AV) (τ : AHeap) => Keeps σ.n σ τ ∧ ∃ j k B, x = .sl j k ws.length 1 ∧ σ.n ≤ j ∧ τ.get j = some B ∧ B.rw = true ∧ k + ws.length ≤ B.cells.length ∧ (B.cells.drop k).take ws.length = (censDone ws).map (.int .u64)) = G
  have hG' : ∀ τ q xs, censDone ws = xs → Keeps σ.n σ τ → σ.n ≤ q → τ.get q = some ⟨xs.map (.int .u64), true⟩ → G (.sl q 0 ws.length 1) τ := by rw [← hG]; exact hfin
  clear hfin hG
  by_cases hck : (check ws).2 = true
  rotate_left
  · have hck' : (check ws).2 = false := by simpa using hck
    have hT : censDone ws = ws := by unfold censDone; simp only; rw [if_neg (fun h => hck h.1)]
    simp (config := {contextual := true, maxSteps := 1000000}) (disch := first | exact dB | fail) [go_sem, envOf, wrap_i64, int_lt, -Int.not_le, -Int.not_lt, Bool.decide_and, Bool.decide_or, and_assoc, Bool.and_assoc, Bool.or_assoc, Prod.exists, Prod.forall, -List.map_set, set_put, hck']
    (repeat refine Alt.mk ?_)
    exact hG' _ _ ws hT (by first | exact cKP | fail) (by omega) (get_push_eq _ (by simp only [kill_n', push_n']))
  have hwk := whole_ok (ws := ws) (ok := fun c => (ws.length : Int) = c.size) hck
  obtain ⟨c, hc⟩ : ∃ c, (check ws).1 = c := ⟨_, rfl⟩
  have hc' : (whole ws fun c => (ws.length : Int) = c.size).1 = c := hc
  rw [hc'] at hwk
  obtain ⟨hok, hsz⟩ := hwk
  have hok' := hok
  unfold Cfg.ok at hok'
  have hsz' : (ws.length : Int) = 7 + 23 * c.slots + 17 * c.pages := hsz
  obtain ⟨D, hD⟩ : ∃ D, at_ ws 2 = D := ⟨_, rfl⟩
  have hDW : isW D := by rw [← hD]; exact at_isW hW 2
  have hcv := cval_range (w := D)
  have w2 : (2 : Int) < ws.length := by omega
  obtain ⟨sl, hsl⟩ : ∃ sl, cval D / 4 % 8 = sl := ⟨_, rfl⟩
  by_cases hst : cval D % 4 = 2 ∧ sl < c.slots
  rotate_left
  · have hT : censDone ws = ws := by unfold censDone; simp only [hc, hD, hsl]; rw [if_neg (fun h => hst ⟨h.2.1, h.2.2⟩)]
    by_cases h1 : cval D % 4 = 2
    · have h2 : c.slots ≤ sl := by omega
      simp (config := {contextual := true, maxSteps := 1000000}) (disch := first | exact dB | fail) [go_sem, envOf, wrap_i64, int_lt, -Int.not_le, -Int.not_lt, Bool.decide_and, Bool.decide_or, and_assoc, Bool.and_assoc, Bool.or_assoc, Prod.exists, Prod.forall, -List.map_set, set_put, hck, hc, hD, hsl, h1, h2]
      (repeat refine Alt.mk ?_)
      exact hG' _ _ ws hT (by first | exact cKP | fail) (by omega) (get_push_eq _ (by simp only [kill_n', push_n']))
    · simp (config := {contextual := true, maxSteps := 1000000}) (disch := first | exact dB | fail) [go_sem, envOf, wrap_i64, int_lt, -Int.not_le, -Int.not_lt, Bool.decide_and, Bool.decide_or, and_assoc, Bool.and_assoc, Bool.or_assoc, Prod.exists, Prod.forall, -List.map_set, set_put, hck, hc, hD, hsl, h1]
      (repeat refine Alt.mk ?_)
      exact hG' _ _ ws hT (by first | exact cKP | fail) (by omega) (get_push_eq _ (by simp only [kill_n', push_n']))
  obtain ⟨h1, h2⟩ := hst
  have h2' : ¬ c.slots ≤ sl := by omega
  have hsl0 : 0 ≤ sl := by omega
  have hpd : pDesk c sl = 7 + 2 * c.slots + 17 * c.pages + sl * 21 := by unfold pDesk l2At house; rw [if_pos ⟨hok, hsl0, h2⟩]
  obtain ⟨a, ha⟩ : ∃ a, pDesk c sl = a := ⟨_, rfl⟩
  rw [ha] at hpd
  have har : 0 ≤ a ∧ a + 20 < ws.length := by omega
  obtain ⟨F, hF⟩ : ∃ F, at_ ws a = F := ⟨_, rfl⟩
  have hFW : isW F := by rw [← hF]; exact at_isW hW a
  obtain ⟨n, hn⟩ : ∃ n, cval F = n := ⟨_, rfl⟩
  have hnr : 0 ≤ n := by rw [← hn]; exact cval_range.1
  by_cases hbd : cstamp F = cstamp D ∧ n ≤ 20
  rotate_left
  · have hT : censDone ws = ws := by unfold censDone; simp only [hc, hD, hsl, ha, hF, hn]; rw [if_pos ⟨hck, h1, h2⟩, if_neg hbd]
    by_cases h3 : cstamp F = cstamp D
    · have h4 : ¬ n ≤ 20 := fun h => hbd ⟨h3, h⟩
      simp (config := {contextual := true, maxSteps := 1000000}) (disch := first | exact dB | fail) [go_sem, envOf, wrap_i64, int_lt, -Int.not_le, -Int.not_lt, Bool.decide_and, Bool.decide_or, and_assoc, Bool.and_assoc, Bool.or_assoc, Prod.exists, Prod.forall, -List.map_set, set_put, hck, hc, hD, hsl, h1, h2', ha, hF, hn, h3, h4]
      (repeat refine Alt.mk ?_)
      exact hG' _ _ ws hT (by first | exact cKP | fail) (by omega) (get_push_eq _ (by simp only [kill_n', push_n']))
    · simp (config := {contextual := true, maxSteps := 1000000}) (disch := first | exact dB | fail) [go_sem, envOf, wrap_i64, int_lt, -Int.not_le, -Int.not_lt, Bool.decide_and, Bool.decide_or, and_assoc, Bool.and_assoc, Bool.or_assoc, Prod.exists, Prod.forall, -List.map_set, set_put, hck, hc, hD, hsl, h1, h2', ha, hF, hn, h3]
      (repeat refine Alt.mk ?_)
      exact hG' _ _ ws hT (by first | exact cKP | fail) (by omega) (get_push_eq _ (by simp only [kill_n', push_n']))
  obtain ⟨h3, h4⟩ := hbd
  have hT : censDone ws = put (putLog ws D a ws n.toNat) 2 (cdoor 0 0 0 (cstamp D + 1)) := by unfold censDone; simp only [hc, hD, hsl, ha, hF, hn]; rw [if_pos ⟨hck, h1, h2⟩, if_pos ⟨h3, h4⟩]
  have hDs := cstamp_range hDW
  simp (config := {contextual := true, maxSteps := 1000000}) (disch := first | exact dB | fail) [go_sem, envOf, wrap_i64, int_lt, -Int.not_le, -Int.not_lt, Bool.decide_and, Bool.decide_or, and_assoc, Bool.and_assoc, Bool.or_assoc, Prod.exists, Prod.forall, -List.map_set, set_put, hck, hc, hD, hsl, h1, h2', ha, hF, hn, h3, h4]
  (repeat refine Alt.mk ?_)
  refine aloops_lt (fun R_ env τ => ∃ (k : Nat), env 12 = .int .i64 ((k : Int) + 1) ∧ env 5 = .sl (σ.n + 1 + 1) 0 ws.length 1 ∧ env 6 = .int .u64 D ∧ env 10 = .int .i64 a ∧ env 11 = .int .i64 n ∧ env 0 = v ∧ env 3 = .ptr σ.n 0 ∧ ((((σ.push ⟨[.int .i64 c.slots, .int .i64 c.pages, .int .i64 c.lease], true⟩).push ⟨[], true⟩).kill (σ.n + 1)).push ⟨(putLog ws D a ws k).map (.int .u64), true⟩) = τ ∧ R_ ((n - k).toNat) ∧ ((k : Int) ≤ n)) (by rintro R_ env τ ⟨k, e12, e5, e6, e10, e11, e0, e3, h_, hR_, hp⟩; exact ⟨_, hR_, k, e12, e5, e6, e10, e11, e0, e3, h_, rfl, hp⟩) ⟨0, by first | rfl | simp [put_get, *], by first | rfl | simp [put_get, *], by first | rfl | simp [put_get, *], by first | rfl | simp [put_get, *], by first | rfl | simp [put_get, *], by first | rfl | simp [put_get, *], by first | rfl | simp [put_get, *], rfl, trivial, ?_⟩ ?_
  rotate_left
  rintro m_ env τ ⟨k, e12, e5, e6, e10, e11, e0, e3, rfl, rfl, hp⟩
  · have hcl := putLog_len ws ws D a k
    have hcW := putLog_isW (w0 := ws) (door := D) (a := a) hW k
    have heW := at_isW hW (a + ((k : Int) + 1))
    by_cases hkn : (k : Int) + 1 ≤ n
    · have hi1 : a + ((k : Int) + 1) < ws.length := by omega
      have hpl : putLog ws D a ws (k + 1) = if cstamp (at_ ws (a + ((k : Int) + 1))) = cstamp D then putEntry (putLog ws D a ws k) (at_ ws (a + ((k : Int) + 1))) else putLog ws D a ws k := rfl
      by_cases h5 : cstamp (at_ ws (a + ((k : Int) + 1))) = cstamp D
      · rw [if_pos h5] at hpl
        simp (config := {contextual := true, maxSteps := 1000000}) (disch := first | exact dB | fail) [go_sem, envOf, wrap_i64, int_lt, -Int.not_le, -Int.not_lt, Bool.decide_and, Bool.decide_or, and_assoc, Bool.and_assoc, Bool.or_assoc, Prod.exists, Prod.forall, -List.map_set, set_put, e12, e5, e6, e10, e11, e0, e3, hkn, h5, hcl]
        (repeat refine Alt.mk ?_)
        exact ⟨k + 1, by omega, by rw [hpl], by omega, by omega⟩
      · rw [if_neg h5] at hpl
        simp (config := {contextual := true, maxSteps := 1000000}) (disch := first | exact dB | fail) [go_sem, envOf, wrap_i64, int_lt, -Int.not_le, -Int.not_lt, Bool.decide_and, Bool.decide_or, and_assoc, Bool.and_assoc, Bool.or_assoc, Prod.exists, Prod.forall, -List.map_set, set_put, e12, e5, e6, e10, e11, e0, e3, hkn, h5, hcl]
        (repeat refine Alt.mk ?_)
        exact ⟨k + 1, by omega, by rw [hpl], by omega, by omega⟩
    · have hke : n.toNat = k := by omega
      rw [hke] at hT
      have g2 : ¬ ws.length ≤ 2 := by omega
      simp (config := {contextual := true, maxSteps := 1000000}) (disch := first | exact dB | fail) [go_sem, envOf, wrap_i64, int_lt, -Int.not_le, -Int.not_lt, Bool.decide_and, Bool.decide_or, and_assoc, Bool.and_assoc, Bool.or_assoc, Prod.exists, Prod.forall, -List.map_set, set_put, e12, e5, e6, e10, e11, e0, e3, hkn, hcl, g2]
      (repeat refine Alt.mk ?_)
      have hsp := map_put (kk := .u64) (ws := putLog ws D a ws k) (a := 2) (x := cdoor 0 0 0 (cstamp D + 1)) (by omega) (by rw [hcl]; omega)
      rw [show (2 : Int).toNat = 2 from rfl] at hsp
      rw [hsp]
      exact hG' _ _ _ hT (by first | exact cKP | fail) (by omega) (get_push_eq _ (by simp only [kill_n', push_n']))
  · omega
def trueOk (ws : List Int) : Prop := (check ws).2 = true
theorem zCensTrue_fn (σ : AHeap) (v : AV) (ws : List Int) (hv : LsV .u64 σ v ws) (hW : ∀ w ∈ ws, isW w) (hl : (ws.length : Int) ≤ 1000000) :
    Fn Tryz.prog 219 [v] σ fun x τ => BkC σ τ (censTrue ws) x := by
  refine fn_of ord0 mixed Tryz.func219 (by kernel_rfl) rfl (by kernel_rfl) ?_
  by_cases hck : (check ws).2 = true
  rotate_left
  · have hck' : (check ws).2 = false := by simpa using hck
    have hT : censTrue ws = (Bk.zero, false) := by unfold censTrue; rw [if_neg hck]
    simp (config := {contextual := true, maxSteps := 1000000}) (disch := first | exact dB | fail) [go_sem, envOf, wrap_i64, int_lt, -Int.not_le, -Int.not_lt, Bool.decide_and, Bool.decide_or, and_assoc, Bool.and_assoc, Bool.or_assoc, Prod.exists, Prod.forall, -List.map_set, set_put, hck']
    (repeat refine Alt.mk ?_)
    exact BkC.zero hT (by intro y hy; simp (disch := first | omega | (simp only [push_n', set_n']; omega)) only [push_get_lt]) (by simp only [push_n']; omega)
  have hT : censTrue ws = censBook (censDone ws) := by unfold censTrue; rw [if_pos hck]
  simp (config := {contextual := true, maxSteps := 1000000}) (disch := first | exact dB | fail) [go_sem, envOf, wrap_i64, int_lt, -Int.not_le, -Int.not_lt, Bool.decide_and, Bool.decide_or, and_assoc, Bool.and_assoc, Bool.or_assoc, Prod.exists, Prod.forall, -List.map_set, set_put, hck]
  (repeat refine Alt.mk ?_)
  refine callP_use (zCensDone_fn _ v ws hv.push.push hW hl) ?_
  rintro x0 υ hn0 ⟨rfl, rfl⟩
  simp (config := {contextual := true, maxSteps := 1000000}) (disch := first | exact dB | fail) [go_sem, envOf, wrap_i64, int_lt, -Int.not_le, -Int.not_lt, Bool.decide_and, Bool.decide_or, and_assoc, Bool.and_assoc, Bool.or_assoc, Prod.exists, Prod.forall, -List.map_set, set_put]
  (repeat refine Alt.mk ?_)
  refine callP_use (zCensBook_fn _ _ (censDone ws) (lsv_new rfl) (censDone_isW hW) (by rw [censDone_len]; exact hl)) ?_
  rintro x1 τ hn1 ⟨pv, k0, k1, k2, k3, ov, iv, ev, rfl, hV, hf, hn2, ha⟩
  simp only [push_n'] at hf hn2 ha
  have g0 := hf σ.n (by omega)
  simp (disch := first | omega | (simp only [push_n']; omega)) only [push_get_lt] at g0
  rw [get_push_eq _ rfl] at g0
  obtain ⟨l1, l2, l3, l4, l5, l6, l7, l8⟩ := And.intro hV.p.isL (And.intro hV.h0.isL (And.intro hV.h1.isL (And.intro hV.h2.isL (And.intro hV.h3.isL (And.intro hV.o.isL (And.intro hV.i.isL hV.e.isL))))))
  simp (config := {contextual := true, maxSteps := 1000000}) (disch := first | exact dB | fail) [go_sem, envOf, wrap_i64, int_lt, -Int.not_le, -Int.not_lt, Bool.decide_and, Bool.decide_or, and_assoc, Bool.and_assoc, Bool.or_assoc, Prod.exists, Prod.forall, -List.map_set, set_put, g0]
  (repeat refine Alt.mk ?_)
  rw [hT]
  refine ⟨pv, k0, k1, k2, k3, ov, iv, ev, rfl, hV.set_ap (ha _ (by omega)), fun y hy => ?_, by simp only [set_n']; omega, fun y hy => ha y (by omega)⟩
  rw [set_get_ne (by omega), hf y (by omega)]
  simp (disch := first | omega | (simp only [push_n', set_n']; omega)) only [push_get_lt, set_get_ne]
end AH
