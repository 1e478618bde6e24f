import Derived.Test.YtagihpbpblnnoaaGreatQ09
set_option linter.all false
namespace Ho
noncomputable section
def Guest.op (g : Guest) : Op := ⟨g.okind, g.oslot, g.oa, g.ob⟩
/-- A swap comes about; the words behind it. -/
def swapB (ws : List Int) (a old : Int) : Prop := 0 ≤ a ∧ a < ws.length ∧ at_ ws a = old
instance (ws : List Int) (a old : Int) : Decidable (swapB ws a old) := Classical.propDecidable _
def swapW (ws : List Int) (a old now : Int) : List Int := if swapB ws a old then put ws a now else ws
/-- What a step leaves: the words, the guest, what happened. -/
structure SO where
  ws : List Int
  g : Guest
  ev : Int
def sFirst (c : Cfg) (ws : List Int) (g : Guest) : SO :=
  if g.pc = 1 then
    let was := pload ws (pBeat c g.slot)
    if g.epoch < cstamp was then ⟨ws, ({ g with was := was } : Guest).complete 11 0, 0⟩ else ⟨ws, { g with was := was, pc := 2 }, 0⟩
  else if g.pc = 2 then ⟨ws, { g with time := clamp (cval (pload ws 1)) 1048575, pc := 3 }, 0⟩
  else if g.pc = 3 then
    let now := pack g.time g.epoch
    if g.was = now then ⟨ws, { g with pc := 9 }, 0⟩
    else ⟨swapW ws (pBeat c g.slot) g.was now, { g with pc := if swapB ws (pBeat c g.slot) g.was then 9 else 1 }, 0⟩
  else if g.pc = 4 then
    let e := pload ws (pReg c g.slot)
    if cval e % 4 ≠ 0 then ⟨ws, ({ g with entry := e } : Guest).complete 6 0, 0⟩
    else if 4095 ≤ cval e / 4 then ⟨ws, ({ g with entry := e } : Guest).complete 12 0, 0⟩
    else ⟨ws, { g with entry := e, next := cval e / 4 + 1, pc := 5 }, 0⟩
  else if g.pc = 5 then ⟨ws, { g with was := pload ws (pBeat c g.slot), pc := 6 }, 0⟩
  else if g.pc = 6 then ⟨ws, { g with time := clamp (cval (pload ws 1)) 1048575, pc := 7 }, 0⟩
  else if g.pc = 7 then
    let now := pack g.time g.next
    if g.next ≤ cstamp g.was then ⟨ws, { g with pc := 8 }, 0⟩
    else ⟨swapW ws (pBeat c g.slot) g.was now, { g with pc := if swapB ws (pBeat c g.slot) g.was then 8 else 5 }, 0⟩
  else if g.pc = 8 then
    if swapB ws (pReg c g.slot) g.entry then ⟨put ws (pReg c g.slot) (creg 1 g.next (cstamp g.entry)), ({ g with epoch := g.next } : Guest).complete 0 g.next, 4⟩
    else ⟨ws, { g with pc := 4 }, 0⟩
  else ⟨ws, g, 0⟩
def sDoor (c : Cfg) (ws : List Int) (g : Guest) : SO :=
  if g.pc = 10 then
    if swapB ws 2 g.door then ⟨put ws 2 (cdoor 1 g.slot g.epoch g.seq), { g with gk := 0, snap := [], pc := 11 }, 0⟩ else ⟨ws, { g with pc := 9 }, 0⟩
  else
    let d := pload ws 2
    let g1 := { g with door := d, seq := cstamp d, who := cval d / 4 % 8, whoE := clamp (cval d / 32) 4095 }
    let state := cval d % 4
    if 1000000 < cstamp d ∨ 2 < state ∨ (state ≠ 0 ∧ c.slots ≤ cval d / 4 % 8) then ⟨ws, g1.complete 12 0, 0⟩
    else if state = 0 ∧ cstamp d = 1000000 then ⟨ws, g1.complete 12 0, 0⟩
    else if state = 0 then ⟨ws, { g1 with pc := 10 }, 0⟩
    else if state = 1 then ⟨ws, { g1 with pc := 16 }, 0⟩
    else ⟨ws, { g1 with pc := 21 }, 0⟩
def Guest.yieldG (g : Guest) (code : Int) : Guest := { g with code := code, pc := 26 }
def Guest.planG (g : Guest) : Guest :=
  let r := planOf g.snap g.op g.seq
  if r.2.1 = 13 ∨ 20 < (r.1.length : Int) then g.yieldG 11
  else if r.2.1 = 5 ∨ r.2.1 = 9 then g.yieldG r.2.1
  else { g with plan := r.1, code := r.2.1, val := r.2.2, gk := 0, pc := 13 }
def lateB (c : Cfg) (g : Guest) (slot epoch : Int) : Prop :=
  cstamp (at_ g.snap (pBeat c slot)) < epoch ∨ (cstamp (at_ g.snap (pBeat c slot)) = epoch ∧ c.lease < cval (at_ g.snap 1) - cval (at_ g.snap (pBeat c slot)))
instance (c : Cfg) (g : Guest) (s e : Int) : Decidable (lateB c g s e) := Classical.propDecidable _
def Guest.reapG (c : Cfg) (g : Guest) : Guest :=
  if g.oa < 0 ∨ c.slots ≤ g.oa then g.planG
  else
    let r := at_ g.snap (pReg c g.oa)
    if g.oa = g.slot ∨ (cval r % 4 = 1 ∧ ¬ lateB c g g.oa (cval r / 4)) then g.yieldG 8
    else if cval r % 4 = 1 then { g with pc := 12 }
    else g.planG
def Guest.decideG (c : Cfg) (g : Guest) : Guest :=
  let r := at_ g.snap (pReg c g.slot)
  if cval r % 4 ≠ 1 ∨ cval r / 4 ≠ g.epoch then g.yieldG 11
  else if g.okind = 6 then g.reapG c
  else g.planG
def sInside (c : Cfg) (ws : List Int) (g : Guest) : SO :=
  if g.pc = 11 then
    let g1 := { g with snap := g.snap ++ [pload ws g.gk], gk := g.gk + 1 }
    ⟨ws, if g.gk + 1 = house c then g1.decideG c else g1, 0⟩
  else
    let a := pReg c g.oa
    let old := at_ g.snap a
    let cut := creg 2 (cval old / 4) (cstamp old)
    if swapB ws a old then ⟨put ws a cut, ({ g with who := g.oa, snap := put g.snap a cut } : Guest).planG, 2⟩
    else ⟨ws, { g with gk := 0, snap := [], pc := 11 }, 0⟩
def Guest.written (g : Guest) : Int := if g.gk = 0 then pack g.plan.length g.seq else at_ g.plan (g.gk - 1)
def sDesk (c : Cfg) (ws : List Int) (g : Guest) : SO :=
  let a := pDesk c g.slot + g.gk
  if g.pc = 13 then
    let w := pload ws a
    if g.seq < cstamp w then ⟨ws, ({ g with was := w } : Guest).complete 11 0, 0⟩ else ⟨ws, { g with was := w, pc := 14 }, 0⟩
  else if g.pc = 14 then
    if g.was ≠ g.written ∧ ¬ swapB ws a g.was then ⟨ws, { g with pc := 13 }, 0⟩
    else ⟨if g.was ≠ g.written then put ws a g.written else ws, if g.plan.length < g.gk + 1 then { g with gk := 0, pc := 15 } else { g with gk := g.gk + 1, pc := 13 }, 0⟩
  else
    if swapB ws 2 (cdoor 1 g.slot g.epoch g.seq) then
      ⟨put ws 2 (cdoor 2 g.slot g.epoch g.seq), ({ g with own := true, door := cdoor 2 g.slot g.epoch g.seq, gn := g.plan.length, gk := 1 } : Guest).continues, 1⟩
    else ⟨ws, g.complete 11 0, 0⟩
def sWatch (c : Cfg) (ws : List Int) (g : Guest) : SO :=
  if g.pc = 16 then
    let w := pload ws (pReg c g.who)
    ⟨ws, { g with was := w, pc := if cval w % 4 ≠ 1 ∨ cval w / 4 ≠ g.whoE then 20 else 17 }, 0⟩
  else if g.pc = 17 then ⟨ws, { g with beat := pload ws (pBeat c g.who), pc := 18 }, 0⟩
  else if g.pc = 18 then
    ⟨ws, { g with pc := if cstamp g.beat < g.whoE ∨ (cstamp g.beat = g.whoE ∧ c.lease < cval (pload ws 1) - cval g.beat) then 19 else 9 }, 0⟩
  else if g.pc = 19 then
    ⟨swapW ws (pReg c g.who) g.was (creg 2 g.whoE (cstamp g.was)), { g with pc := 9 }, if swapB ws (pReg c g.who) g.was then 2 else 0⟩
  else
    ⟨swapW ws 2 (cdoor 1 g.who g.whoE g.seq) (cdoor 0 0 0 (g.seq + 1)), { g with pc := 9 }, if swapB ws 2 (cdoor 1 g.who g.whoE g.seq) then 3 else 0⟩
def sAid (c : Cfg) (ws : List Int) (g : Guest) : SO :=
  if g.pc = 21 then
    let h := pload ws (pDesk c g.who)
    if cstamp h ≠ g.seq ∨ 20 < cval h then ⟨ws, { g with pc := 9 }, 0⟩ else ⟨ws, ({ g with gn := cval h, gk := 1 } : Guest).continues, 0⟩
  else if g.pc = 22 then
    let e := pload ws (pDesk c g.who + g.gk)
    ⟨ws, { g with entry := e, pc := if cstamp e ≠ g.seq then 9 else 23 }, 0⟩
  else if g.pc = 23 then
    let w := pload ws (cval g.entry / 1048576)
    if g.seq ≤ cstamp w then ⟨ws, ({ g with was := w, pc := 24, gk := g.gk + 1 } : Guest).continues, 0⟩ else ⟨ws, { g with was := w, pc := 24 }, 0⟩
  else
    if swapB ws (cval g.entry / 1048576) g.was then ⟨put ws (cval g.entry / 1048576) (pack (cval g.entry % 1048576) g.seq), ({ g with pc := 23, gk := g.gk + 1 } : Guest).continues, 0⟩
    else ⟨ws, { g with pc := 23 }, 0⟩
def sLast (ws : List Int) (g : Guest) : SO :=
  if g.pc = 26 then ⟨swapW ws 2 (cdoor 1 g.slot g.epoch g.seq) (cdoor 0 0 0 (g.seq + 1)), g.complete g.code 0, 0⟩
  else
    ⟨swapW ws 2 g.door (cdoor 0 0 0 (g.seq + 1)), if g.own = true then g.complete g.code g.val else { g with pc := 9 }, 0⟩
def sStep (c : Cfg) (ws : List Int) (g : Guest) : SO :=
  if g.pc ≤ 8 then sFirst c ws g else if g.pc ≤ 10 then sDoor c ws g else if g.pc ≤ 12 then sInside c ws g else if g.pc ≤ 15 then sDesk c ws g
  else if g.pc ≤ 20 then sWatch c ws g else if g.pc ≤ 24 then sAid c ws g else sLast ws g
end
end Ho
/- THE PLAIN MODEL: what stays true of a guest, step by step, whatever the words are. -/
namespace Ho
set_option maxHeartbeats 1000000
/-- What is always true of a guest that steps; B bounds its counters. -/
structure GI (B : Int) (g : Guest) : Prop where
  slot : 0 ≤ g.slot ∧ g.slot ≤ 10
  epoch : 0 ≤ g.epoch ∧ g.epoch ≤ 4095
  pc : 0 ≤ g.pc ∧ g.pc ≤ 26
  gk : 0 ≤ g.gk ∧ g.gk ≤ B
  gn : 0 ≤ g.gn ∧ g.gn ≤ 20
  seq : 0 ≤ g.seq ∧ g.seq ≤ 4294967295
  who : 0 ≤ g.who ∧ g.who ≤ 7
  whoE : 0 ≤ g.whoE ∧ g.whoE ≤ 4095
  time : 0 ≤ g.time ∧ g.time ≤ 1048575
  count : 0 ≤ g.count ∧ g.count ≤ B
  next : 0 ≤ g.next ∧ g.next ≤ 4095
  was : isW g.was
  door : isW g.door
  beat : isW g.beat
  entry : isW g.entry
  snapW : ∀ w ∈ g.snap, isW w
  planW : ∀ w ∈ g.plan, isW w
  snap : (g.snap.length : Int) ≤ B
  plan : (g.plan.length : Int) ≤ 20
  busy : g.busy = true → 1 ≤ g.pc
  p11 : g.pc = 11 → (g.snap.length : Int) = g.gk
  p12 : g.pc = 12 → 7 ≤ (g.snap.length : Int) ∧ 0 ≤ g.oa ∧ g.oa ≤ 7
  p13 : g.pc = 13 ∨ g.pc = 14 → g.gk ≤ g.plan.length
  own : g.own = true → 23 ≤ g.pc ∧ g.pc ≤ 25 ∧ g.gn = g.plan.length
theorem GI.le {B C : Int} {g : Guest} (h : GI B g) (hB : B ≤ C) : GI C g := by
  obtain ⟨h1, h2, h3, h4, h5, h6, h7, h8, h9, h10, h11, h12, h13, h14, h15, h16, h17, h18, h19, h20, h21, h22, h23, h24⟩ := h
  exact ⟨h1, h2, h3, by omega, h5, h6, h7, h8, h9, by omega, h11, h12, h13, h14, h15, h16, h17, by omega, h19, h20, h21, h22, h23, h24⟩
theorem isW0 : isW 0 := by unfold isW; omega
theorem at_isW_ {ws : List Int} (h : ∀ w ∈ ws, isW w) (j : Int) : isW (at_ ws j) := by
  unfold at_
  rw [List.getD_eq_getElem?_getD]
  cases hj : ws[j.toNat]? with
  | none => exact isW0
  | some w => exact h w (List.mem_of_getElem? hj)
theorem pload_isW_ {ws : List Int} (h : ∀ w ∈ ws, isW w) (a : Int) : isW (pload ws a) := by
  unfold pload
  split
  · exact isW0
  · exact at_isW_ h a
theorem put_isW_ {ws : List Int} {a x : Int} (h : ∀ w ∈ ws, isW w) (hx : isW x) : ∀ w ∈ put ws a x, isW w := by
  intro w hw
  unfold put at hw
  rcases List.mem_or_eq_of_mem_set hw with h1 | h1
  · exact h w h1
  · exact h1 ▸ hx
theorem put_len_ (ws : List Int) (a x : Int) : (put ws a x).length = ws.length := by simp [put]
theorem swapW_isW_ {ws : List Int} {a o n : Int} (h : ∀ w ∈ ws, isW w) (hn : isW n) : ∀ w ∈ swapW ws a o n, isW w := by
  unfold swapW
  split
  · exact put_isW_ h hn
  · exact h
theorem swapW_len_ (ws : List Int) (a o n : Int) : (swapW ws a o n).length = ws.length := by unfold swapW; split <;> simp [put]
theorem door_isW (a b c d : Int) : isW (cdoor a b c d) := pack_isW _ _
theorem reg_isW (a b c : Int) : isW (creg a b c) := pack_isW _ _
theorem entry_isW (a b c : Int) : isW (centry a b c) := pack_isW _ _
theorem planOf_isW (w : List Int) (op : Op) (s : Int) : ∀ x ∈ (planOf w op s).1, isW x := by
  unfold planOf
  split
  · dsimp only
    unfold planL
    intro x hx
    obtain ⟨a, _, rfl⟩ := List.mem_map.1 hx
    exact entry_isW _ _ _
  · intro x hx; cases hx
theorem cval_r (w : Int) : 0 ≤ cval w ∧ cval w < 4294967296 := cval_range
theorem GI.complete {B : Int} {g : Guest} (h : GI B g) (hB : 1 ≤ B) (code val : Int) : GI (B + 1) (g.complete code val) := by
  obtain ⟨h1, h2, h3, h4, h5, h6, h7, h8, h9, h10, h11, h12, h13, h14, h15, h16, h17, h18, h19, h20, h21, h22, h23, h24⟩ := h
  unfold Guest.complete Guest.zero
  constructor <;> (try dsimp only) <;> first | exact isW0 | omega | (simp; done) | (simp; omega) | (split <;> omega)
theorem GI.plans {B : Int} {g : Guest} (hB : 1 ≤ B) (h : GI B g) (ho : g.own = false) : GI (B + 1) g.planG := by
  obtain ⟨h1, h2, h3, h4, h5, h6, h7, h8, h9, h10, h11, h12, h13, h14, h15, h16, h17, h18, h19, h20, h21, h22, h23, h24⟩ := id h
  have hp := planOf_isW g.snap g.op g.seq
  unfold Guest.planG Guest.yieldG
  try dsimp only
  repeat' split
  all_goals (constructor <;> (try dsimp only) <;> first | assumption | omega | (simp; done) | (simp [ho]; done) | (intro hh; omega))
theorem GI.yield {B : Int} {g : Guest} (hB : 1 ≤ B) (h : GI B g) (ho : g.own = false) (cd : Int) : GI (B + 1) (g.yieldG cd) := by
  obtain ⟨h1, h2, h3, h4, h5, h6, h7, h8, h9, h10, h11, h12, h13, h14, h15, h16, h17, h18, h19, h20, h21, h22, h23, h24⟩ := id h
  unfold Guest.yieldG
  constructor <;> (try dsimp only) <;> first | assumption | omega | (simp [ho]; done) | (intro hh; omega)
theorem GI.reap {B : Int} {c : Cfg} {g : Guest} (hB : 1 ≤ B) (h : GI B g) (ho : g.own = false) (hl : 7 ≤ (g.snap.length : Int)) (hc : c.slots ≤ 7) : GI (B + 1) (g.reapG c) := by
  unfold Guest.reapG
  dsimp only
  split
  · exact GI.plans hB h ho
  · split
    · exact GI.yield hB h ho _
    · split
      · obtain ⟨h1, h2, h3, h4, h5, h6, h7, h8, h9, h10, h11, h12, h13, h14, h15, h16, h17, h18, h19, h20, h21, h22, h23, h24⟩ := id h
        constructor <;> (try dsimp only) <;> first | assumption | omega | (simp [ho]; done) | (intro hh; omega) | (intro _; exact ⟨hl, by omega, by omega⟩)
      · exact GI.plans hB h ho
theorem GI.decide {B : Int} {c : Cfg} {g : Guest} (hB : 1 ≤ B) (h : GI B g) (ho : g.own = false) (hl : 7 ≤ (g.snap.length : Int)) (hc : c.slots ≤ 7) : GI (B + 1) (g.decideG c) := by
  unfold Guest.decideG
  dsimp only
  split
  · exact GI.yield hB h ho _
  · split
    · exact GI.reap hB h ho hl hc
    · exact GI.plans hB h ho
/-- Carrying on, from a guest of which all but its place is known. -/
theorem GI.cont {B : Int} {g : Guest} (hB : 1 ≤ B) (h : GI B { g with pc := 9, own := false }) (ho : g.own = true → g.gn = g.plan.length) (hb : g.busy = true → 1 ≤ g.pc) : GI B g.continues := by
  obtain ⟨h1, h2, h3, h4, h5, h6, h7, h8, h9, h10, h11, h12, h13, h14, h15, h16, h17, h18, h19, h20, h21, h22, h23, h24⟩ := id h
  dsimp only at *
  unfold Guest.continues
  split
  · constructor <;> (try dsimp only) <;> first | assumption | omega | (intro hh; omega) | (intro hh; have := ho hh; omega)
  · split
    · constructor <;> (try dsimp only) <;> first | assumption | omega | exact at_isW_ h17 _ | (intro hh; omega) | (intro hh; have := ho hh; omega)
    · rename_i hq
      constructor <;> (try dsimp only) <;> first | assumption | omega | (intro hh; omega) | (intro hh; exact absurd hh hq)
/-- What a step leaves. -/
structure SOI (B : Int) (ws : List Int) (o : SO) : Prop where
  g : GI (B + 1) o.g
  W : ∀ w ∈ o.ws, isW w
  l : o.ws.length = ws.length
theorem first_GI {B : Int} {c : Cfg} {ws : List Int} {g : Guest} (hB : 1 ≤ B) (h : GI B g) (hW : ∀ w ∈ ws, isW w) (hp : g.pc ≤ 8) : SOI B ws (sFirst c ws g) := by
  obtain ⟨h1, h2, h3, h4, h5, h6, h7, h8, h9, h10, h11, h12, h13, h14, h15, h16, h17, h18, h19, h20, h21, h22, h23, h24⟩ := id h
  have ho : g.own = false := by cases ho : g.own with | false => rfl | true => have := h24 ho; omega
  have hcl : ∀ n : Int, 0 ≤ clamp n 1048575 ∧ clamp n 1048575 ≤ 1048575 := fun n => by unfold clamp; omega
  have hq := cval_r (pload ws (pReg c g.slot))
  have hc1 := hcl (cval (pload ws 1))
  unfold sFirst
  try dsimp only
  repeat' split
  all_goals try dsimp only
  all_goals (refine ⟨?_, ?_, ?_⟩ <;> (try dsimp only) <;> with_reducible first | exact hW | exact put_isW_ hW (door_isW _ _ _ _) | exact put_isW_ hW (reg_isW _ _ _) | exact put_isW_ hW (pack_isW _ _) | exact swapW_isW_ hW (door_isW _ _ _ _) | exact swapW_isW_ hW (reg_isW _ _ _) | exact swapW_isW_ hW (pack_isW _ _) | exact put_len_ _ _ _ | exact swapW_len_ _ _ _ _ | rfl | skip)
  all_goals first
    | exact h.complete hB _ _
    | exact GI.complete (g := { g with epoch := g.next }) (by constructor <;> (try dsimp only) <;> first | assumption | omega | with_reducible exact pload_isW_ hW _ | with_reducible exact at_isW_ h17 _ | with_reducible exact pack_isW _ _ | with_reducible exact door_isW _ _ _ _ | (simp; done) | (simp; omega) | (intro hh; omega) | (intro hh; contradiction) | (intro hh; simp [ho] at hh; done) | (split <;> omega) | (intro hh; have h24z := h24 hh; omega) | (intro hh; split at hh <;> omega) | (intro hh; simp at hh ⊢; omega) | (intro hh; have h24z := h24 hh; split <;> omega)) hB 0 g.next
    | (constructor <;> (try dsimp only) <;> first | assumption | omega | with_reducible exact pload_isW_ hW _ | with_reducible exact at_isW_ h17 _ | with_reducible exact pack_isW _ _ | with_reducible exact door_isW _ _ _ _ | (simp; done) | (simp; omega) | (intro hh; omega) | (intro hh; contradiction) | (intro hh; simp [ho] at hh; done) | (split <;> omega) | (intro hh; have h24z := h24 hh; omega) | (intro hh; split at hh <;> omega) | (intro hh; simp at hh ⊢; omega) | (intro hh; have h24z := h24 hh; split <;> omega))
theorem door_GI {B : Int} {c : Cfg} {ws : List Int} {g : Guest} (hB : 1 ≤ B) (h : GI B g) (hW : ∀ w ∈ ws, isW w) (hp : 9 ≤ g.pc ∧ g.pc ≤ 10) : SOI B ws (sDoor c ws g) := by
  obtain ⟨h1, h2, h3, h4, h5, h6, h7, h8, h9, h10, h11, h12, h13, h14, h15, h16, h17, h18, h19, h20, h21, h22, h23, h24⟩ := id h
  have ho : g.own = false := by cases ho : g.own with | false => rfl | true => have := h24 ho; omega
  have hcl : ∀ n : Int, 0 ≤ clamp n 4095 ∧ clamp n 4095 ≤ 4095 := fun n => by unfold clamp; omega
  have hq := cval_r (pload ws 2)
  have hc1 := hcl (cval (pload ws 2) / 32)
  have hs := cstamp_range (pload_isW_ hW 2)
  have hw := pload_isW_ hW 2
  unfold sDoor
  try dsimp only
  repeat' split
  all_goals try dsimp only
  all_goals (refine ⟨?_, ?_, ?_⟩ <;> (try dsimp only) <;> with_reducible first | exact hW | exact put_isW_ hW (door_isW _ _ _ _) | exact put_isW_ hW (reg_isW _ _ _) | exact put_isW_ hW (pack_isW _ _) | exact swapW_isW_ hW (door_isW _ _ _ _) | exact swapW_isW_ hW (reg_isW _ _ _) | exact swapW_isW_ hW (pack_isW _ _) | exact put_len_ _ _ _ | exact swapW_len_ _ _ _ _ | rfl | skip)
  all_goals first
    | exact h.complete hB _ _
    | exact GI.complete (g := { g with epoch := g.next }) (by constructor <;> (try dsimp only) <;> first | assumption | omega | with_reducible exact pload_isW_ hW _ | with_reducible exact at_isW_ h17 _ | with_reducible exact pack_isW _ _ | with_reducible exact door_isW _ _ _ _ | (simp; done) | (simp; omega) | (intro hh; omega) | (intro hh; contradiction) | (intro hh; simp [ho] at hh; done) | (split <;> omega) | (intro hh; have h24z := h24 hh; omega) | (intro hh; split at hh <;> omega) | (intro hh; simp at hh ⊢; omega) | (intro hh; have h24z := h24 hh; split <;> omega)) hB 0 g.next
    | (constructor <;> (try dsimp only) <;> first | assumption | omega | with_reducible exact pload_isW_ hW _ | with_reducible exact at_isW_ h17 _ | with_reducible exact pack_isW _ _ | with_reducible exact door_isW _ _ _ _ | (simp; done) | (simp; omega) | (intro hh; omega) | (intro hh; contradiction) | (intro hh; simp [ho] at hh; done) | (split <;> omega) | (intro hh; have h24z := h24 hh; omega) | (intro hh; split at hh <;> omega) | (intro hh; simp at hh ⊢; omega) | (intro hh; have h24z := h24 hh; split <;> omega))
theorem desk_GI {B : Int} {c : Cfg} {ws : List Int} {g : Guest} (hB : 1 ≤ B) (h : GI B g) (hW : ∀ w ∈ ws, isW w) (hp : 13 ≤ g.pc ∧ g.pc ≤ 15) : SOI B ws (sDesk c ws g) := by
  have hB1 := h.le (show B ≤ B + 1 by omega)
  obtain ⟨h1, h2, h3, h4, h5, h6, h7, h8, h9, h10, h11, h12, h13, h14, h15, h16, h17, h18, h19, h20, h21, h22, h23, h24⟩ := id h
  have ho : g.own = false := by cases ho : g.own with | false => rfl | true => have := h24 ho; omega
  have hwr : isW g.written := by unfold Guest.written; split; exact pack_isW _ _; exact at_isW_ h17 _
  unfold sDesk
  dsimp only
  split
  · split
    · (refine ⟨?_, ?_, ?_⟩ <;> (try dsimp only) <;> with_reducible first | exact hW | exact put_isW_ hW (door_isW _ _ _ _) | exact put_isW_ hW (reg_isW _ _ _) | exact put_isW_ hW (pack_isW _ _) | exact swapW_isW_ hW (door_isW _ _ _ _) | exact swapW_isW_ hW (reg_isW _ _ _) | exact swapW_isW_ hW (pack_isW _ _) | exact put_len_ _ _ _ | exact swapW_len_ _ _ _ _ | rfl | skip)
      all_goals exact h.complete hB _ _
    · refine ⟨?_, hW, rfl⟩
      constructor <;> (try dsimp only) <;> first | assumption | omega | with_reducible exact pload_isW_ hW _ | with_reducible exact at_isW_ h17 _ | with_reducible exact pack_isW _ _ | with_reducible exact door_isW _ _ _ _ | (simp; done) | (simp; omega) | (intro hh; omega) | (intro hh; contradiction) | (intro hh; simp [ho] at hh; done) | (split <;> omega) | (intro hh; have h24z := h24 hh; omega) | (intro hh; split at hh <;> omega) | (intro hh; simp at hh ⊢; omega) | (intro hh; have h24z := h24 hh; split <;> omega)
  · split
    · split
      · refine ⟨?_, hW, rfl⟩
        constructor <;> (try dsimp only) <;> first | assumption | omega | with_reducible exact pload_isW_ hW _ | with_reducible exact at_isW_ h17 _ | with_reducible exact pack_isW _ _ | with_reducible exact door_isW _ _ _ _ | (simp; done) | (simp; omega) | (intro hh; omega) | (intro hh; contradiction) | (intro hh; simp [ho] at hh; done) | (split <;> omega) | (intro hh; have h24z := h24 hh; omega) | (intro hh; split at hh <;> omega) | (intro hh; simp at hh ⊢; omega) | (intro hh; have h24z := h24 hh; split <;> omega)
      · refine ⟨?_, by split; exact put_isW_ hW hwr; exact hW, by split; exact put_len_ _ _ _; rfl⟩
        · dsimp only
          split <;> (constructor <;> (try dsimp only) <;> first | assumption | omega | with_reducible exact pload_isW_ hW _ | with_reducible exact at_isW_ h17 _ | with_reducible exact pack_isW _ _ | with_reducible exact door_isW _ _ _ _ | (simp; done) | (simp; omega) | (intro hh; omega) | (intro hh; contradiction) | (intro hh; simp [ho] at hh; done) | (split <;> omega) | (intro hh; have h24z := h24 hh; omega) | (intro hh; split at hh <;> omega) | (intro hh; simp at hh ⊢; omega) | (intro hh; have h24z := h24 hh; split <;> omega))
    · split
      · refine ⟨GI.cont (by omega) ?_ (fun _ => rfl) h20, put_isW_ hW (door_isW _ _ _ _), put_len_ _ _ _⟩
        constructor <;> (try dsimp only) <;> first | assumption | omega | with_reducible exact pload_isW_ hW _ | with_reducible exact at_isW_ h17 _ | with_reducible exact pack_isW _ _ | with_reducible exact door_isW _ _ _ _ | (simp; done) | (simp; omega) | (intro hh; omega) | (intro hh; contradiction) | (intro hh; simp [ho] at hh; done) | (split <;> omega) | (intro hh; have h24z := h24 hh; omega) | (intro hh; split at hh <;> omega) | (intro hh; simp at hh ⊢; omega) | (intro hh; have h24z := h24 hh; split <;> omega)
      · (refine ⟨?_, ?_, ?_⟩ <;> (try dsimp only) <;> with_reducible first | exact hW | exact put_isW_ hW (door_isW _ _ _ _) | exact put_isW_ hW (reg_isW _ _ _) | exact put_isW_ hW (pack_isW _ _) | exact swapW_isW_ hW (door_isW _ _ _ _) | exact swapW_isW_ hW (reg_isW _ _ _) | exact swapW_isW_ hW (pack_isW _ _) | exact put_len_ _ _ _ | exact swapW_len_ _ _ _ _ | rfl | skip)
        all_goals exact h.complete hB _ _
theorem watch_GI {B : Int} {c : Cfg} {ws : List Int} {g : Guest} (hB : 1 ≤ B) (h : GI B g) (hW : ∀ w ∈ ws, isW w) (hp : 16 ≤ g.pc ∧ g.pc ≤ 20) : SOI B ws (sWatch c ws g) := by
  obtain ⟨h1, h2, h3, h4, h5, h6, h7, h8, h9, h10, h11, h12, h13, h14, h15, h16, h17, h18, h19, h20, h21, h22, h23, h24⟩ := id h
  have ho : g.own = false := by cases ho : g.own with | false => rfl | true => have := h24 ho; omega
  unfold sWatch
  try dsimp only
  repeat' split
  all_goals try dsimp only
  all_goals (refine ⟨?_, ?_, ?_⟩ <;> (try dsimp only) <;> with_reducible first | exact hW | exact put_isW_ hW (door_isW _ _ _ _) | exact put_isW_ hW (reg_isW _ _ _) | exact put_isW_ hW (pack_isW _ _) | exact swapW_isW_ hW (door_isW _ _ _ _) | exact swapW_isW_ hW (reg_isW _ _ _) | exact swapW_isW_ hW (pack_isW _ _) | exact put_len_ _ _ _ | exact swapW_len_ _ _ _ _ | rfl | skip)
  all_goals first
    | exact h.complete hB _ _
    | exact GI.complete (g := { g with epoch := g.next }) (by constructor <;> (try dsimp only) <;> first | assumption | omega | with_reducible exact pload_isW_ hW _ | with_reducible exact at_isW_ h17 _ | with_reducible exact pack_isW _ _ | with_reducible exact door_isW _ _ _ _ | (simp; done) | (simp; omega) | (intro hh; omega) | (intro hh; contradiction) | (intro hh; simp [ho] at hh; done) | (split <;> omega) | (intro hh; have h24z := h24 hh; omega) | (intro hh; split at hh <;> omega) | (intro hh; simp at hh ⊢; omega) | (intro hh; have h24z := h24 hh; split <;> omega)) hB 0 g.next
    | (constructor <;> (try dsimp only) <;> first | assumption | omega | with_reducible exact pload_isW_ hW _ | with_reducible exact at_isW_ h17 _ | with_reducible exact pack_isW _ _ | with_reducible exact door_isW _ _ _ _ | (simp; done) | (simp; omega) | (intro hh; omega) | (intro hh; contradiction) | (intro hh; simp [ho] at hh; done) | (split <;> omega) | (intro hh; have h24z := h24 hh; omega) | (intro hh; split at hh <;> omega) | (intro hh; simp at hh ⊢; omega) | (intro hh; have h24z := h24 hh; split <;> omega))
theorem aid_GI {B : Int} {c : Cfg} {ws : List Int} {g : Guest} (hB : 1 ≤ B) (h : GI B g) (hW : ∀ w ∈ ws, isW w) (hp : 21 ≤ g.pc ∧ g.pc ≤ 24) : SOI B ws (sAid c ws g) := by
  obtain ⟨h1, h2, h3, h4, h5, h6, h7, h8, h9, h10, h11, h12, h13, h14, h15, h16, h17, h18, h19, h20, h21, h22, h23, h24⟩ := id h
  have hq := cval_r (pload ws (pDesk c g.who))
  have ho' : g.own = true → g.gn = g.plan.length := fun hh => (h24 hh).2.2
  unfold sAid
  dsimp only
  split
  · have ho : g.own = false := by cases ho : g.own with | false => rfl | true => have := h24 ho; omega
    split
    · refine ⟨?_, hW, rfl⟩
      constructor <;> (try dsimp only) <;> first | assumption | omega | with_reducible exact pload_isW_ hW _ | with_reducible exact at_isW_ h17 _ | with_reducible exact pack_isW _ _ | with_reducible exact door_isW _ _ _ _ | (simp; done) | (simp; omega) | (intro hh; omega) | (intro hh; contradiction) | (intro hh; simp [ho] at hh; done) | (split <;> omega) | (intro hh; have h24z := h24 hh; omega) | (intro hh; split at hh <;> omega) | (intro hh; simp at hh ⊢; omega) | (intro hh; have h24z := h24 hh; split <;> omega)
    · refine ⟨GI.cont (by omega) ?_ (fun hh => by simp [ho] at hh) h20, hW, rfl⟩
      constructor <;> (try dsimp only) <;> first | assumption | omega | with_reducible exact pload_isW_ hW _ | with_reducible exact at_isW_ h17 _ | with_reducible exact pack_isW _ _ | with_reducible exact door_isW _ _ _ _ | (simp; done) | (simp; omega) | (intro hh; omega) | (intro hh; contradiction) | (intro hh; simp [ho] at hh; done) | (split <;> omega) | (intro hh; have h24z := h24 hh; omega) | (intro hh; split at hh <;> omega) | (intro hh; simp at hh ⊢; omega) | (intro hh; have h24z := h24 hh; split <;> omega)
  · split
    · have ho : g.own = false := by cases ho : g.own with | false => rfl | true => have := h24 ho; omega
      refine ⟨?_, hW, rfl⟩
      constructor <;> (try dsimp only) <;> first | assumption | omega | with_reducible exact pload_isW_ hW _ | with_reducible exact at_isW_ h17 _ | with_reducible exact pack_isW _ _ | with_reducible exact door_isW _ _ _ _ | (simp; done) | (simp; omega) | (intro hh; omega) | (intro hh; contradiction) | (intro hh; simp [ho] at hh; done) | (split <;> omega) | (intro hh; have h24z := h24 hh; omega) | (intro hh; split at hh <;> omega) | (intro hh; simp at hh ⊢; omega) | (intro hh; have h24z := h24 hh; split <;> omega)
    · have ho : True := trivial
      split
      · split
        · refine ⟨GI.cont (by omega) ?_ ho' (fun _ => by dsimp only; omega), hW, rfl⟩
          constructor <;> (try dsimp only) <;> first | assumption | omega | with_reducible exact pload_isW_ hW _ | with_reducible exact at_isW_ h17 _ | with_reducible exact pack_isW _ _ | with_reducible exact door_isW _ _ _ _ | (simp; done) | (simp; omega) | (intro hh; omega) | (intro hh; contradiction) | (intro hh; simp [ho] at hh; done) | (split <;> omega) | (intro hh; have h24z := h24 hh; omega) | (intro hh; split at hh <;> omega) | (intro hh; simp at hh ⊢; omega) | (intro hh; have h24z := h24 hh; split <;> omega)
        · refine ⟨?_, hW, rfl⟩
          constructor <;> (try dsimp only) <;> first | (intro hh; exact ⟨by omega, by omega, ho' hh⟩) | first | assumption | omega | with_reducible exact pload_isW_ hW _ | with_reducible exact at_isW_ h17 _ | with_reducible exact pack_isW _ _ | with_reducible exact door_isW _ _ _ _ | (simp; done) | (simp; omega) | (intro hh; omega) | (intro hh; contradiction) | (intro hh; simp [ho] at hh; done) | (split <;> omega) | (intro hh; have h24z := h24 hh; omega) | (intro hh; split at hh <;> omega) | (intro hh; simp at hh ⊢; omega) | (intro hh; have h24z := h24 hh; split <;> omega)
      · split
        · refine ⟨GI.cont (by omega) ?_ ho' (fun _ => by dsimp only; omega), put_isW_ hW (pack_isW _ _), put_len_ _ _ _⟩
          constructor <;> (try dsimp only) <;> first | assumption | omega | with_reducible exact pload_isW_ hW _ | with_reducible exact at_isW_ h17 _ | with_reducible exact pack_isW _ _ | with_reducible exact door_isW _ _ _ _ | (simp; done) | (simp; omega) | (intro hh; omega) | (intro hh; contradiction) | (intro hh; simp [ho] at hh; done) | (split <;> omega) | (intro hh; have h24z := h24 hh; omega) | (intro hh; split at hh <;> omega) | (intro hh; simp at hh ⊢; omega) | (intro hh; have h24z := h24 hh; split <;> omega)
        · refine ⟨?_, hW, rfl⟩
          constructor <;> (try dsimp only) <;> first | (intro hh; exact ⟨by omega, by omega, ho' hh⟩) | first | assumption | omega | with_reducible exact pload_isW_ hW _ | with_reducible exact at_isW_ h17 _ | with_reducible exact pack_isW _ _ | with_reducible exact door_isW _ _ _ _ | (simp; done) | (simp; omega) | (intro hh; omega) | (intro hh; contradiction) | (intro hh; simp [ho] at hh; done) | (split <;> omega) | (intro hh; have h24z := h24 hh; omega) | (intro hh; split at hh <;> omega) | (intro hh; simp at hh ⊢; omega) | (intro hh; have h24z := h24 hh; split <;> omega)
theorem last_GI {B : Int} {ws : List Int} {g : Guest} (hB : 1 ≤ B) (h : GI B g) (hW : ∀ w ∈ ws, isW w) (hp : 25 ≤ g.pc) : SOI B ws (sLast ws g) := by
  obtain ⟨h1, h2, h3, h4, h5, h6, h7, h8, h9, h10, h11, h12, h13, h14, h15, h16, h17, h18, h19, h20, h21, h22, h23, h24⟩ := id h
  unfold sLast
  try dsimp only
  repeat' split
  all_goals try dsimp only
  all_goals (refine ⟨?_, ?_, ?_⟩ <;> (try dsimp only) <;> with_reducible first | exact hW | exact put_isW_ hW (door_isW _ _ _ _) | exact put_isW_ hW (reg_isW _ _ _) | exact put_isW_ hW (pack_isW _ _) | exact swapW_isW_ hW (door_isW _ _ _ _) | exact swapW_isW_ hW (reg_isW _ _ _) | exact swapW_isW_ hW (pack_isW _ _) | exact put_len_ _ _ _ | exact swapW_len_ _ _ _ _ | rfl | skip)
  all_goals first
    | exact h.complete hB _ _
    | exact GI.complete (g := { g with epoch := g.next }) (by constructor <;> (try dsimp only) <;> first | assumption | omega | with_reducible exact pload_isW_ hW _ | with_reducible exact at_isW_ h17 _ | with_reducible exact pack_isW _ _ | with_reducible exact door_isW _ _ _ _ | (simp; done) | (simp; omega) | (intro hh; omega) | (intro hh; contradiction) | (intro hh; simp [ho] at hh; done) | (split <;> omega) | (intro hh; have h24z := h24 hh; omega) | (intro hh; split at hh <;> omega) | (intro hh; simp at hh ⊢; omega) | (intro hh; have h24z := h24 hh; split <;> omega)) hB 0 g.next
    | (constructor <;> (try dsimp only) <;> first | assumption | omega | with_reducible exact pload_isW_ hW _ | with_reducible exact at_isW_ h17 _ | with_reducible exact pack_isW _ _ | with_reducible exact door_isW _ _ _ _ | (simp; done) | (simp; omega) | (intro hh; omega) | (intro hh; contradiction) | (intro hh; simp [ho] at hh; done) | (split <;> omega) | (intro hh; have h24z := h24 hh; omega) | (intro hh; split at hh <;> omega) | (intro hh; simp at hh ⊢; omega) | (intro hh; have h24z := h24 hh; split <;> omega))
theorem inside_GI {B : Int} {c : Cfg} {ws : List Int} {g : Guest} (hB : 1 ≤ B) (h : GI B g) (hW : ∀ w ∈ ws, isW w) (hc : 0 ≤ c.slots ∧ c.slots ≤ 7 ∧ 0 ≤ c.pages) (hp : 11 ≤ g.pc ∧ g.pc ≤ 12) : SOI (B + 1) ws (sInside c ws g) := by
  obtain ⟨h1, h2, h3, h4, h5, h6, h7, h8, h9, h10, h11, h12, h13, h14, h15, h16, h17, h18, h19, h20, h21, h22, h23, h24⟩ := id h
  have ho : g.own = false := by cases ho : g.own with | false => rfl | true => have := h24 ho; omega
  unfold sInside
  split
  · rename_i e
    dsimp only
    have h21' := h21 e
    have hg1 : GI (B + 1) { g with snap := g.snap ++ [pload ws g.gk], gk := g.gk + 1 } := by
      have hsn : ∀ w ∈ g.snap ++ [pload ws g.gk], isW w := by
        intro w hw
        rcases List.mem_append.1 hw with h' | h'
        · exact h16 w h'
        · simp at h'; subst h'; exact pload_isW_ hW _
      constructor <;> (try dsimp only) <;> first | assumption | omega | (simp; omega) | (intro hh; simp; omega) | (intro hh; omega)
    refine ⟨?_, hW, rfl⟩
    split
    · rename_i e2
      have := GI.decide (c := c) (by omega) hg1 ho (by unfold house at e2; simp; omega) hc.2.1
      exact this.le (by omega)
    · exact hg1.le (by omega)
  · try dsimp only
    split
    · refine ⟨?_, put_isW_ hW (reg_isW _ _ _), put_len_ _ _ _⟩
      have hg1 : GI B { g with who := g.oa, snap := put g.snap (pReg c g.oa) (creg 2 (cval (at_ g.snap (pReg c g.oa)) / 4) (cstamp (at_ g.snap (pReg c g.oa)))) } := by
        have hpc : g.pc = 12 := by omega
        have h22' := h22 hpc
        have hsn := put_isW_ (a := pReg c g.oa) h16 (reg_isW 2 (cval (at_ g.snap (pReg c g.oa)) / 4) (cstamp (at_ g.snap (pReg c g.oa))))
        constructor <;> (try dsimp only) <;> first | assumption | omega | (rw [put_len_]; assumption) | (intro hh; rw [put_len_]; omega) | (intro hh; omega)
      exact (GI.plans hB hg1 ho).le (by omega)
    · exact ⟨by constructor <;> (try dsimp only) <;> first | assumption | omega | with_reducible exact pload_isW_ hW _ | with_reducible exact at_isW_ h17 _ | with_reducible exact pack_isW _ _ | with_reducible exact door_isW _ _ _ _ | (simp; done) | (simp; omega) | (intro hh; omega) | (intro hh; contradiction) | (intro hh; simp [ho] at hh; done) | (split <;> omega) | (intro hh; have h24z := h24 hh; omega) | (intro hh; split at hh <;> omega) | (intro hh; simp at hh ⊢; omega) | (intro hh; have h24z := h24 hh; split <;> omega), hW, rfl⟩
theorem step_GI {B : Int} {c : Cfg} {ws : List Int} {g : Guest} (hB : 1 ≤ B) (h : GI B g) (hW : ∀ w ∈ ws, isW w) (hc : 0 ≤ c.slots ∧ c.slots ≤ 7 ∧ 0 ≤ c.pages) : SOI (B + 1) ws (sStep c ws g) := by
  have up : ∀ {o : SO}, SOI B ws o → SOI (B + 1) ws o := fun h => ⟨h.g.le (by omega), h.W, h.l⟩
  have hp := h.pc
  unfold sStep
  split
  · exact up (first_GI hB h hW (by assumption))
  · split
    · exact up (door_GI hB h hW (by omega))
    · split
      · exact inside_GI hB h hW hc (by omega)
      · split
        · exact up (desk_GI hB h hW (by omega))
        · split
          · exact up (watch_GI hB h hW (by omega))
          · split
            · exact up (aid_GI hB h hW (by omega))
            · exact up (last_GI hB h hW (by omega))
end Ho
