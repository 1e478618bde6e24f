import Derived.Test.YtagihpbpblnnoaaGreatQ31
set_option linter.all false
namespace AH
open Go Go.Proofs Ho
set_option maxRecDepth 20000
set_option maxHeartbeats 8000000
theorem putEntry_len (ws : List Int) (e : Int) : (putEntry ws e).length = ws.length := by unfold putEntry put; simp only; split <;> simp
theorem zPut_fn (σ : AHeap) (j n : Nat) (e : Int) (ws : List Int) (hw : σ.get j = some ⟨ws.map (.int .u64), true⟩) (hj : j < σ.n) (hn : ws.length = n) (hW : ∀ w ∈ ws, isW w) (he : isW e) (hl : n ≤ 1000000) : Fn Tryz.prog 268 [.sl j 0 n 1, .int .u64 e] σ fun x τ => x = .sl j 0 n 1 ∧ τ = σ.set j ⟨(putEntry ws e).map (.int .u64), true⟩ := by
  refine fn_mut ord0 mixed Tryz.func268 (by kernel_rfl) rfl (by kernel_rfl) ?_ ?_ ?_ ?_
  · simp [AV.lt, hj]
  · rfl
  · exact mut_set hw (fun a ha => .inl (lt_ints ha))
  have hv := lsv_at hj hw hn
  have hcv := cval_range (w := e)
  have h0 : 0 ≤ cval e / 1048576 := by omega
  have hA := at_isW hW (cval e / 1048576)
  have hself := set_self' hw
  by_cases h1 : cval e / 1048576 < ws.length
  · by_cases h2 : cstamp (at_ ws (cval e / 1048576)) < cstamp e
    · have hp : putEntry ws e = put ws (cval e / 1048576) (pack (cval e % 1048576) (cstamp e)) := by unfold putEntry; simp only; rw [if_pos ⟨h1, h2⟩]
      have h2' : ¬ cstamp e ≤ cstamp (at_ ws (cval e / 1048576)) := by omega
      simp (config := {contextual := true, maxSteps := 1000000}) (disch := first | exact dA | fail) [go_sem, envOf, wrap_i64, int_lt, -Int.not_le, -Int.not_lt, Bool.decide_and, Bool.decide_or, and_assoc, Bool.and_assoc, Bool.or_assoc, Prod.exists, Prod.forall, hp, h1, h2']
    · have hp : putEntry ws e = ws := by unfold putEntry; simp only; rw [if_neg (fun h => h2 h.2)]
      have h2' : cstamp e ≤ cstamp (at_ ws (cval e / 1048576)) := by omega
      simp (config := {contextual := true, maxSteps := 1000000}) (disch := first | exact dA | fail) [go_sem, envOf, wrap_i64, int_lt, -Int.not_le, -Int.not_lt, Bool.decide_and, Bool.decide_or, and_assoc, Bool.and_assoc, Bool.or_assoc, Prod.exists, Prod.forall, hp, hself, h1, h2']
  · have hp : putEntry ws e = ws := by unfold putEntry; simp only; rw [if_neg (fun h => h1 h.1)]
    have h1' : (ws.length : Int) ≤ cval e / 1048576 := by omega
    simp (config := {contextual := true, maxSteps := 1000000}) (disch := first | exact dA | fail) [go_sem, envOf, wrap_i64, int_lt, -Int.not_le, -Int.not_lt, Bool.decide_and, Bool.decide_or, and_assoc, Bool.and_assoc, Bool.or_assoc, Prod.exists, Prod.forall, hp, hself, h1']
@[go_sem] theorem zPut_s (σ : AHeap) (j n : Nat) (e : Int) (ws : List Int) (hw : σ.get j = some ⟨ws.map (.int .u64), true⟩) (hj : j < σ.n) (hn : ws.length = n) (hW : ∀ w ∈ ws, isW w) (he : isW e) (hl : n ≤ 1000000) (kk_ : AV → AHeap → Prop) : @callP Tryz.prog (.fn 268 [] []) [.sl j 0 n 1, .int .u64 e] σ ⟨kk_⟩ = @Alt (kk_ (.sl j 0 n 1) (σ.set j ⟨(putEntry ws e).map (.int .u64), true⟩)) ⟨@callP Tryz.prog (.fn 268 [] []) [.sl j 0 n 1, .int .u64 e] σ ⟨kk_⟩⟩ := callP_alt (zPut_fn σ j n e ws hw hj hn hW he hl)
def tickW (ws : List Int) (n : Int) : List Int := if n < 0 ∨ 1000 < n then ws else put ws 1 (pack (clamp (cval (at_ ws 1) + n) 1048575) (cstamp (at_ ws 1)))
theorem zTick_fn (σ : AHeap) (j nw : Nat) (gv' : AV) (n : Int) (ws : List Int) (hw : σ.get j = some ⟨ws.map (.int .u64), true⟩) (hj : j < σ.n) (hn : ws.length = nw) (hW : ∀ w ∈ ws, isW w) (hl : 2 ≤ nw ∧ nw ≤ 1000000) (hg : gv'.lt σ.n = true) (hgL : IsL gv') : Fn Tryz.prog 85 [.agg [.sl j 0 nw 1, gv'], .int .i64 n] σ fun x τ => x = .agg [.sl j 0 nw 1, gv'] ∧ τ = σ.set j ⟨(tickW ws n).map (.int .u64), true⟩ := by
  refine fn_mut ord85 mixed Tryz.func85 (by kernel_rfl) rfl (by kernel_rfl) ?_ ?_ ?_ ?_
  · simp [AV.lt, AV.lts, hj, hg]
  · rfl
  · exact mut_set hw (fun a ha => .inl (lt_ints ha))
  have hv := lsv_at hj hw hn
  have hcv := cval_range (w := at_ ws 1)
  have hA := at_isW hW 1
  have hself := set_self' hw
  have h1 : 1 < (ws.length : Int) := by omega
  by_cases c1 : 0 ≤ n ∧ n ≤ 1000
  · obtain ⟨c2, c3⟩ := c1
    have hp : tickW ws n = put ws 1 (pack (clamp (cval (at_ ws 1) + n) 1048575) (cstamp (at_ ws 1))) := by unfold tickW; rw [if_neg (by omega)]
    simp (config := {contextual := true, maxSteps := 1000000}) (disch := first | exact dA | fail) [go_sem, envOf, wrap_i64, int_lt, -Int.not_le, -Int.not_lt, Bool.decide_and, Bool.decide_or, and_assoc, Bool.and_assoc, Bool.or_assoc, Prod.exists, Prod.forall, ord85, hp, c2, c3]
  · have hp : tickW ws n = ws := by unfold tickW; rw [if_pos (by omega)]
    have c2 : ¬ 0 ≤ n ∨ ¬ n ≤ 1000 := by omega
    rcases c2 with c2 | c2
    · simp (config := {contextual := true, maxSteps := 1000000}) (disch := first | exact dA | fail) [go_sem, envOf, wrap_i64, int_lt, -Int.not_le, -Int.not_lt, Bool.decide_and, Bool.decide_or, and_assoc, Bool.and_assoc, Bool.or_assoc, Prod.exists, Prod.forall, ord85, hp, hself, c2]
    · simp (config := {contextual := true, maxSteps := 1000000}) (disch := first | exact dA | fail) [go_sem, envOf, wrap_i64, int_lt, -Int.not_le, -Int.not_lt, Bool.decide_and, Bool.decide_or, and_assoc, Bool.and_assoc, Bool.or_assoc, Prod.exists, Prod.forall, ord85, hp, hself, c2]
end AH
