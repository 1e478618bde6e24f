import Derived.Test.YtagihpbpblnnoaaGreatQ05
set_option linter.all false
namespace Ho
structure Guest where
  up : Bool
  slot : Int
  epoch : Int
  busy : Bool
  okind : Int
  oslot : Int
  oa : Int
  ob : Int
  pc : Int
  gk : Int
  gn : Int
  seq : Int
  next : Int
  who : Int
  whoE : Int
  own : Bool
  time : Int
  was : Int
  door : Int
  beat : Int
  entry : Int
  snap : List Int
  plan : List Int
  code : Int
  val : Int
  count : Int
/-- The words that a guest has seen are words. -/
def Guest.words (g : Guest) : Prop := isW g.was ∧ isW g.door ∧ isW g.beat ∧ isW g.entry ∧ (∀ w ∈ g.snap, isW w) ∧ ∀ w ∈ g.plan, isW w
/-- What the program asks of a guest of a house. -/
def guestOk (c : Cfg) (g : Guest) : Prop :=
  c.ok ∧ (g.busy = true ↔ g.pc ≠ 0) ∧ (g.busy = true → g.oslot = g.slot) ∧ (0 ≤ g.slot ∧ g.slot < c.slots) ∧
  (0 ≤ g.epoch ∧ g.epoch ≤ 4095) ∧ (0 ≤ g.next ∧ g.next ≤ 4095) ∧ (0 ≤ g.whoE ∧ g.whoE ≤ 4095) ∧ (0 ≤ g.pc ∧ g.pc ≤ 26) ∧ (0 ≤ g.seq ∧ g.seq ≤ 1000001) ∧ (0 ≤ g.who ∧ g.who ≤ 7) ∧ (0 ≤ g.gn ∧ g.gn ≤ 20) ∧
  (0 ≤ g.gk ∧ g.gk ≤ c.deskAt) ∧ (0 ≤ g.time ∧ g.time ≤ 1048575) ∧ (g.snap.length : Int) ≤ c.deskAt ∧ (g.plan.length : Int) ≤ 20 ∧
  (g.pc = 11 → (g.snap.length : Int) = g.gk ∧ g.gk ≠ c.deskAt) ∧
  (g.pc = 12 → (g.snap.length : Int) = c.deskAt ∧ 0 ≤ g.oa ∧ g.oa < c.slots) ∧
  (g.pc = 13 ∨ g.pc = 14 → g.gk ≤ g.plan.length) ∧
  (g.pc = 22 ∨ g.pc = 23 ∨ g.pc = 24 → (1 ≤ g.gk ∧ g.gk ≤ g.gn) ∧ (g.own = true → g.gn = g.plan.length) ∧ 0 ≤ g.who ∧ g.who < c.slots) ∧
  (16 ≤ g.pc ∧ g.pc ≤ 21 → 0 ≤ g.who ∧ g.who < c.slots) ∧
  (g.own = true → g.pc = 23 ∨ g.pc = 24 ∨ g.pc = 25)
noncomputable instance (c : Cfg) (g : Guest) : Decidable (guestOk c g) := Classical.propDecidable _
/-- The empty guest. -/
def Guest.zero : Guest := ⟨false, 0, 0, false, 0, 0, 0, 0, 0, 0, 0, 0, 0, 0, 0, false, 0, 0, 0, 0, 0, [], [], 0, 0, 0⟩
def Guest.complete (g : Guest) (code val : Int) : Guest :=
  { Guest.zero with up := g.up, slot := g.slot, epoch := if g.okind = 5 ∧ code = 0 then 0 else g.epoch, okind := g.okind, oslot := g.oslot, oa := g.oa, ob := g.ob, code := code, val := val, count := g.count + 1 }
/-- What a step leaves: the words, the guest, the event, and whether its two lists were dropped. -/
structure Out where
  ws : List Int
  g : Guest
  ev : Int
  nosnap : Bool
  noplan : Bool
def put (ws : List Int) (a x : Int) : List Int := ws.set a.toNat x
abbrev fin (ws : List Int) (g : Guest) (code val ev : Int) : Out := ⟨ws, g.complete code val, ev, true, true⟩
abbrev stay (ws : List Int) (g : Guest) (ev : Int) : Out := ⟨ws, g, ev, false, false⟩
def clockOf (ws : List Int) : Int := cval (at_ ws 1)
def arrive (c : Cfg) (ws : List Int) (g : Guest) : Out :=
  if g.pc = 1 then
    let was := at_ ws (3 + c.slots + g.slot)
    if g.epoch < cstamp was then fin ws { g with was := was } 11 0 0
    else stay ws { g with was := was, pc := 2 } 0
  else if g.pc = 2 then stay ws { g with time := min (clockOf ws) 1048575, pc := 3 } 0
  else if g.pc = 3 then
    let now := pack g.time g.epoch
    if g.was = now then stay ws { g with pc := 9 } 0
    else if at_ ws (3 + c.slots + g.slot) = g.was then stay (put ws (3 + c.slots + g.slot) now) { g with pc := 9 } 0
    else stay ws { g with pc := 1 } 0
  else if g.pc = 4 then
    let e := at_ ws (3 + g.slot)
    if cval e % 4 ≠ 0 then fin ws { g with entry := e } 6 0 0
    else if 4095 ≤ cval e / 4 then fin ws { g with entry := e } 12 0 0
    else stay ws { g with entry := e, next := cval e / 4 + 1, pc := 5 } 0
  else if g.pc = 5 then stay ws { g with was := at_ ws (3 + c.slots + g.slot), pc := 6 } 0
  else if g.pc = 6 then stay ws { g with time := min (clockOf ws) 1048575, pc := 7 } 0
  else if g.pc = 7 then
    if g.next ≤ cstamp g.was then stay ws { g with pc := 8 } 0
    else if at_ ws (3 + c.slots + g.slot) = g.was then stay (put ws (3 + c.slots + g.slot) (pack g.time g.next)) { g with pc := 8 } 0
    else stay ws { g with pc := 5 } 0
  else
    if at_ ws (3 + g.slot) = g.entry then fin (put ws (3 + g.slot) (creg 1 g.next (cstamp g.entry))) { g with epoch := g.next } 0 g.next 4
    else stay ws { g with pc := 4 } 0
def Guest.continues (g : Guest) : Guest :=
  if g.gn < g.gk then { g with gk := 0, pc := 25 }
  else if g.own = true then { g with entry := at_ g.plan (g.gk - 1), pc := 23 }
  else { g with pc := 22 }
def deskOf (c : Cfg) (slot : Int) : Int := 7 + 2 * c.slots + 17 * c.pages + 21 * slot
def watch (c : Cfg) (ws : List Int) (g : Guest) : Out :=
  if g.pc = 16 then
    let w := at_ ws (3 + g.who)
    stay ws { g with was := w, pc := if cval w % 4 = 1 ∧ cval w / 4 = g.whoE then 17 else 20 } 0
  else if g.pc = 17 then stay ws { g with beat := at_ ws (3 + c.slots + g.who), pc := 18 } 0
  else if g.pc = 18 then stay ws { g with pc := if aliveB g.beat g.whoE (clockOf ws) c.lease = true then 9 else 19 } 0
  else if g.pc = 19 then
    if at_ ws (3 + g.who) = g.was then stay (put ws (3 + g.who) (creg 2 g.whoE (cstamp g.was))) { g with pc := 9 } 2
    else stay ws { g with pc := 9 } 0
  else if g.pc = 20 then
    if at_ ws 2 = cdoor 1 g.who g.whoE g.seq then stay (put ws 2 (cdoor 0 0 0 (g.seq + 1))) { g with pc := 9 } 3
    else stay ws { g with pc := 9 } 0
  else
    let f := at_ ws (deskOf c g.who)
    if cstamp f = g.seq ∧ cval f ≤ 20 then stay ws ({ g with gn := cval f, gk := 1, pc := 9 } : Guest).continues 0
    else stay ws { g with pc := 9 } 0
def doorStep (c : Cfg) (ws : List Int) (g : Guest) : Out :=
  let d := at_ ws 2
  let g1 := { g with door := d, seq := cstamp d, who := cval d / 4 % 8, whoE := min (cval d / 32) 4095 }
  let state := cval d % 4
  if 1000000 < cstamp d ∨ 2 < state ∨ (state ≠ 0 ∧ ¬ (0 ≤ cval d / 4 % 8 ∧ cval d / 4 % 8 < c.slots)) then fin ws g1 12 0 0
  else if state = 0 ∧ cstamp d = 1000000 then fin ws g1 12 0 0
  else if state = 0 then stay ws { g1 with pc := 10 } 0
  else if state = 1 then stay ws { g1 with pc := 16 } 0
  else stay ws { g1 with pc := 21 } 0
def write (c : Cfg) (ws : List Int) (g : Guest) : Out :=
  if g.pc = 13 then
    let w := at_ ws (deskOf c g.slot + g.gk)
    if g.seq < cstamp w then fin ws { g with was := w } 11 0 0
    else stay ws { g with was := w, pc := 14 } 0
  else if g.pc = 14 then
    let want := if 0 < g.gk then at_ g.plan (g.gk - 1) else pack g.plan.length g.seq
    let on : Guest := if g.plan.length < g.gk + 1 then { g with gk := 0, pc := 15 } else { g with gk := g.gk + 1, pc := 13 }
    if g.was = want then stay ws on 0
    else if at_ ws (deskOf c g.slot + g.gk) = g.was then stay (put ws (deskOf c g.slot + g.gk) want) on 0
    else stay ws { g with pc := 13 } 0
  else if g.pc = 15 then
    if at_ ws 2 = cdoor 1 g.slot g.epoch g.seq then
      stay (put ws 2 (cdoor 2 g.slot g.epoch g.seq)) ({ g with own := true, door := cdoor 2 g.slot g.epoch g.seq, gn := g.plan.length, gk := 1 } : Guest).continues 1
    else fin ws g 11 0 0
  else if g.pc = 22 then
    let e := at_ ws (deskOf c g.who + g.gk)
    stay ws { g with entry := e, pc := if cstamp e = g.seq then 23 else 9 } 0
  else if g.pc = 23 then
    let a := cval g.entry / 1048576
    let w := at_ ws a
    if g.seq ≤ cstamp w then stay ws ({ g with was := w, pc := 24, gk := g.gk + 1 } : Guest).continues 0
    else stay ws { g with was := w, pc := 24 } 0
  else if g.pc = 24 then
    let a := cval g.entry / 1048576
    if a < ws.length ∧ at_ ws a = g.was then stay (put ws a (pack (cval g.entry % 1048576) g.seq)) ({ g with pc := 23, gk := g.gk + 1 } : Guest).continues 0
    else stay ws { g with pc := 23 } 0
  else if g.pc = 25 then
    let ws' := if at_ ws 2 = g.door then put ws 2 (cdoor 0 0 0 (g.seq + 1)) else ws
    if g.own = true then fin ws' g g.code g.val 0 else stay ws' { g with pc := 9 } 0
  else
    let ws' := if at_ ws 2 = cdoor 1 g.slot g.epoch g.seq then put ws 2 (cdoor 0 0 0 (g.seq + 1)) else ws
    fin ws' g g.code 0 0
end Ho
/- THE PLAIN MODEL: the book of the reference, and what words say of it. -/
namespace Ho
noncomputable section
/-- A plain book. -/
structure Bk where
  slots : Int
  pages : List Int
  heads : Nat → List Int
  owner : List Int
  inn : List Int
  epoch : List Int
def Bk.zero : Bk := ⟨0, [], fun _ => [], [], [], []⟩
def setH (h : Nat → List Int) (k : Nat) (l : List Int) : Nat → List Int := fun j => if j = k then l else h j
def sz (k : Int) : Int := at_ [1, 2, 4, 8] k
def kindOf (s : Int) : Int := if s < 1 ∨ 4 < s then -1 else s - 1
def slotsP (b : Bk) : Prop :=
  (1 ≤ b.slots ∧ b.slots ≤ 4 ∧ (b.inn.length : Int) = b.slots ∧ (b.epoch.length : Int) = b.slots ∧ 1 ≤ b.pages.length ∧ b.pages.length ≤ 6 ∧ b.owner.length = b.pages.length * 8) ∧
  (∀ i : Int, 0 ≤ i → i < b.slots → 0 ≤ at_ b.inn i ∧ at_ b.inn i ≤ 2 ∧ 0 ≤ at_ b.epoch i ∧ at_ b.epoch i ≤ 4095 ∧ ¬ (at_ b.epoch i = 0 ∧ 0 < at_ b.inn i)) ∧
  (∀ u : Int, 0 ≤ u → u < b.owner.length → 0 ≤ at_ b.owner u ∧ at_ b.owner u ≤ b.slots ∧ ¬ (0 < at_ b.owner u ∧ at_ b.inn (at_ b.owner u - 1) = 0))
def freeP (b : Bk) (page start : Int) : Prop := ∀ u : Int, start ≤ u → u < 8 → ¬ 0 < at_ b.owner (page * 8 + u)
def roomP (b : Bk) (page kind u : Int) : Prop :=
  if 0 < u % sz kind then ¬ (0 < at_ b.owner (page * 8 + u) ∨ 0 < (b.heads kind.toNat).count (page * 8 + u))
  else ¬ ((0 < at_ b.owner (page * 8 + u) ↔ 0 < (b.heads kind.toNat).count (page * 8 + u)) ∨ 1 < (b.heads kind.toNat).count (page * 8 + u))
def roomsP (b : Bk) (page kind : Int) : Prop :=
  (∀ u : Int, 0 ≤ u → u < 8 → roomP b page kind u) ∧ ∃ u : Int, 0 ≤ u ∧ u < 8 ∧ u % sz kind = 0 ∧ 0 < at_ b.owner (page * 8 + u)
def wideP (b : Bk) (page : Int) : Prop :=
  (2 ≤ at_ b.pages page - 8 ∧ at_ b.pages page - 8 ≤ 4 ∧ page + (at_ b.pages page - 8) ≤ b.pages.length ∧ at_ b.owner (page * 8) ≠ 0 ∧ freeP b page 1) ∧
  ∀ i : Int, 1 ≤ i → i < at_ b.pages page - 8 → at_ b.pages (page + i) = 7
def back (pages : List Int) : Nat → Nat
  | 0 => 0
  | p + 1 => if at_ pages ((p + 1 : Nat) : Int) = 7 then back pages p else p + 1
def restP (b : Bk) (page : Int) : Prop :=
  8 < at_ b.pages (back b.pages page.toNat) ∧ page < (back b.pages page.toNat : Int) + at_ b.pages (back b.pages page.toNat) - 8 ∧ freeP b page 0
def pageP (b : Bk) (page : Int) : Prop :=
  if at_ b.pages page = 0 then freeP b page 0
  else if 0 ≤ kindOf (at_ b.pages page) then roomsP b page (kindOf (at_ b.pages page))
  else if at_ b.pages page = 7 then restP b page
  else wideP b page
def listK (b : Bk) (k : Nat) : Prop := (b.heads k).length ≤ b.owner.length ∧
    ∀ i : Int, 0 ≤ i → i < (b.heads k).length → 0 ≤ at_ (b.heads k) i ∧ at_ (b.heads k) i < b.owner.length ∧ kindOf (at_ b.pages (at_ (b.heads k) i / 8)) = k ∧ at_ (b.heads k) i % sz k ≤ 0
def listsP (b : Bk) : Prop := ∀ k : Nat, k < 4 → listK b k
def bookP (b : Bk) : Prop := slotsP b ∧ listsP b ∧ ∀ p : Int, 0 ≤ p → p < b.pages.length → pageP b p
instance (b : Bk) : Decidable (slotsP b) := Classical.propDecidable _
instance (b : Bk) : Decidable (listsP b) := Classical.propDecidable _
instance (b : Bk) (p q : Int) : Decidable (roomsP b p q) := Classical.propDecidable _
instance (b : Bk) (p : Int) : Decidable (wideP b p) := Classical.propDecidable _
instance (b : Bk) (p : Int) : Decidable (restP b p) := Classical.propDecidable _
instance (b : Bk) (p : Int) : Decidable (pageP b p) := Classical.propDecidable _
instance (b : Bk) : Decidable (bookP b) := Classical.propDecidable _
instance (b : Bk) (p q : Int) : Decidable (freeP b p q) := Classical.propDecidable _
def emptyP (pages : List Int) (p n : Int) : Prop := ∀ i : Int, 0 ≤ i → i < n → at_ pages (p + i) = 0
instance (l : List Int) (p q : Int) : Decidable (emptyP l p q) := Classical.propDecidable _
def bookKind (units : Int) : Int :=
  if units < 1 then -1 else if units ≤ 1 then 0 else if units ≤ 2 then 1 else if units ≤ 4 then 2 else if units ≤ 8 then 3 else if units ≤ 32 then 4 else -1
def roomOf (b : Bk) (at' : Int) : Int :=
  if at' < 0 ∨ (b.owner.length : Int) ≤ at' then 0 else if at_ b.owner at' = 0 then 0
  else if 0 ≤ kindOf (at_ b.pages (at' / 8)) then sz (kindOf (at_ b.pages (at' / 8))) else (at_ b.pages (at' / 8) - 8) * 8
/-- Where v stands, the first place being i. -/
def firstIx : List Int → Int → Int → Int
  | [], _, _ => -1
  | x :: l, v, i => if x = v then i else firstIx l v (i + 1)
def ownedFrom : List Int → Int → Int → List Int
  | [], _, _ => []
  | x :: l, v, i => if x = v then i :: ownedFrom l v (i + 1) else ownedFrom l v (i + 1)
def bookOf (b : Bk) (slot : Int) : List Int := if bookP b ∧ 0 ≤ slot then ownedFrom b.owner (slot + 1) 0 else []
/-- The first p, from p on, with n empty pages in a row. -/
def runFrom (pages : List Int) (n : Int) : Nat → Int → Int
  | 0, _ => -1
  | f + 1, p => if pages.length < p + n then -1 else if emptyP pages p n then p else runFrom pages n f (p + 1)
def runOf (pages : List Int) (n : Int) : Int := runFrom pages n (pages.length + 1) 0
def carveL (page kind : Int) : List Int := ((List.range (8 / (sz kind).toNat)).map fun (j : Nat) => page * 8 + (j : Int) * sz kind)
def carve (b : Bk) (page kind : Int) : Bk := { b with pages := put b.pages page (kind + 1), heads := setH b.heads kind.toNat (b.heads kind.toNat ++ carveL page kind) }
/-- 'x' at n places from a on. -/
def fillN (xs : List Int) (a x : Int) : Nat → List Int
  | 0 => xs
  | n + 1 => put (fillN xs a x n) (a + n) x
def takeB (b : Bk) (slot units : Int) : Bk × Int × Int :=
  let k := bookKind units
  if k < 0 then (b, 1, 0)
  else if k = 4 then
    let n := (units + 7) / 8
    let p := runOf b.pages n
    if p < 0 then (b, 2, 0)
    else ({ b with pages := fillN (put b.pages p (8 + n)) (p + 1) 7 (n.toNat - 1), owner := put b.owner (p * 8) (slot + 1) }, 0, p * 8)
  else
    let go (b : Bk) : Bk × Int × Int := ({ b with heads := setH b.heads k.toNat (b.heads k.toNat).tail, owner := put b.owner (at_ (b.heads k.toNat) 0) (slot + 1) }, 0, at_ (b.heads k.toNat) 0)
    if b.heads k.toNat = [] then
      let p := runOf b.pages 1
      if p < 0 then (b, 2, 0) else go (carve b p k)
    else go b
def backB (b : Bk) (at' : Int) : Bk :=
  let p := at' / 8
  let s := at_ b.pages p
  let o := put b.owner at' 0
  if kindOf s < 0 then { b with owner := o, pages := fillN b.pages p 0 (s - 8).toNat }
  else
    let k := (kindOf s).toNat
    let l := at' :: b.heads k
    if freeP { b with owner := o } p 0 then { b with owner := o, pages := put b.pages p 0, heads := setH b.heads k (l.filter fun x => decide (x / 8 ≠ p)) }
    else { b with owner := o, heads := setH b.heads k l }
def whose (b : Bk) (slot at' : Int) : Int := if roomOf b at' = 0 then 3 else if at_ b.owner at' ≠ slot + 1 then 4 else 0
def firstOf (b : Bk) (slot : Int) : Int := firstIx b.owner (slot + 1) 0
def reapB (b : Bk) (slot : Int) : Bk × Int × Int :=
  if slot < 0 ∨ b.slots ≤ slot then (b, 9, 0) else if at_ b.inn slot = 0 then (b, 9, 0)
  else if at_ b.inn slot = 1 then (b, 8, 0)
  else if firstOf b slot < 0 then ({ b with inn := put b.inn slot 0 }, 0, 0)
  else (backB b (firstOf b slot), 10, firstOf b slot)
structure Op where
  kind : Int
  slot : Int
  a : Int
  b : Int
def ownB (b : Bk) (op : Op) : Bk × Int × Int :=
  if op.kind = 2 then takeB b op.slot op.a
  else if op.kind = 3 then
    if 0 < whose b op.slot op.a then (b, whose b op.slot op.a, 0) else (backB b op.a, 0, 0)
  else if op.kind = 4 then
    if 0 < whose b op.slot op.a then (b, whose b op.slot op.a, 0)
    else if op.b < 0 ∨ b.slots ≤ op.b then (b, 5, 0) else if at_ b.inn op.b = 0 then (b, 5, 0)
    else ({ b with owner := put b.owner op.a (op.b + 1) }, 0, 0)
  else if op.kind = 5 then
    if 0 ≤ firstOf b op.slot then (b, 7, 0) else ({ b with inn := put b.inn op.slot 0 }, 0, 0)
  else if op.kind = 6 then reapB b op.a
  else (b, 13, 0)
def doB (b : Bk) (op : Op) : Bk × Int × Int :=
  if op.slot < 0 ∨ b.slots ≤ op.slot then (b, 13, 0)
  else if op.kind = 1 then
    if at_ b.inn op.slot ≠ 0 then (b, 6, 0)
    else if at_ b.epoch op.slot = 4095 then (b, 12, 0)
    else ({ b with inn := put b.inn op.slot 1, epoch := put b.epoch op.slot (at_ b.epoch op.slot + 1) }, 0, at_ b.epoch op.slot + 1)
  else if at_ b.inn op.slot = 0 then (b, 9, 0)
  else ownB b op
def bookDo (b : Bk) (op : Op) : Bk × Int × Int := if bookP b then doB b op else (Bk.zero, 13, 0)
/-! ### places -/
def house (c : Cfg) : Int := 7 + 2 * c.slots + 17 * c.pages
def l2At (c : Cfg) (start n most step : Int) : Int := if c.ok ∧ 0 ≤ n ∧ n < most then start + n * step else 0
def pReg (c : Cfg) (n : Int) : Int := l2At c 3 n c.slots 1
def pBeat (c : Cfg) (n : Int) : Int := l2At c (3 + c.slots) n c.slots 1
def pHead (c : Cfg) (n : Int) : Int := l2At c (3 + 2 * c.slots) n 4 1
def pPage (c : Cfg) (n : Int) : Int := l2At c (7 + 2 * c.slots) n c.pages 1
def pTag (c : Cfg) (n : Int) : Int := l2At c (7 + 2 * c.slots + c.pages) n (c.pages * 8) 1
def pLink (c : Cfg) (n : Int) : Int := l2At c (7 + 2 * c.slots + 9 * c.pages) n (c.pages * 8) 1
def pDesk (c : Cfg) (n : Int) : Int := l2At c (house c) n c.slots 21
def pload (ws : List Int) (a : Int) : Int := if a < 0 ∨ (ws.length : Int) ≤ a then 0 else at_ ws a
def upto (n : Nat) (f : Nat → List Int → List Int) (v : List Int) : List Int := (List.range n).foldl (fun v i => f i v) v
def layHead (c : Cfg) : List Int → Int → List Int → List Int
  | [], _, v => v
  | x :: l, a, v => layHead c l (pLink c x) (put v a (x + 1))
def lay (c : Cfg) (b : Bk) : List Int :=
  let v0 := List.replicate (house c).toNat 0
  let v1 := upto c.slots.toNat (fun i v => put v (pReg c i) (at_ b.inn i + 4 * at_ b.epoch i)) v0
  let v2 := upto c.pages.toNat (fun i v => put v (pPage c i) (at_ b.pages i)) v1
  let v3 := upto b.owner.length (fun i v => put v (pTag c i) (at_ b.owner i)) v2
  upto 4 (fun k v => layHead c (b.heads k) (pHead c k) v) v3
def lval (w : List Int) (a : Int) : Int := cval (pload w a)
def listFrom (w : List Int) (c : Cfg) : Nat → Int → List Int
  | 0, _ => []
  | f + 1, a => if 0 < a ∧ a ≤ c.pages * 8 then (a - 1) :: listFrom w c f (lval w (pLink c (a - 1))) else []
def listOf (w : List Int) (c : Cfg) (k : Nat) : List Int := listFrom w c (c.pages * 8 + 1).toNat (lval w (pHead c k))
def readB (w : List Int) (c : Cfg) : Bk :=
  ⟨c.slots, (List.range c.pages.toNat).map fun (p : Nat) => lval w (pPage c p), fun k => if k < 4 then listOf w c k else [],
   (List.range (c.pages * 8).toNat).map fun (u : Nat) => lval w (pTag c u),
   (List.range c.slots.toNat).map fun (i : Nat) => cval (pload w (pReg c i)) % 4, (List.range c.slots.toNat).map fun (i : Nat) => cval (pload w (pReg c i)) / 4⟩
def magic (c : Cfg) : Int := pack (c.slots + 8 * c.pages + 64 * c.lease) 201115
/-- The configuration, if the first word is right and the length is one of these. -/
def whole (w : List Int) (ok : Cfg → Prop) [∀ c, Decidable (ok c)] : Cfg × Bool :=
  if w = [] then (⟨0, 0, 0⟩, false) else
    let v := cval (at_ w 0)
    let c : Cfg := ⟨v % 8, v / 8 % 8, v / 64⟩
    if c.ok ∧ at_ w 0 = magic c ∧ ok c then (c, true) else (⟨0, 0, 0⟩, false)
def check (w : List Int) : Cfg × Bool := whole w fun c => (w.length : Int) = c.size
def wholeH (w : List Int) : Cfg × Bool := whole w fun c => (w.length : Int) = c.size ∨ (w.length : Int) = house c
def isBeat (c : Cfg) (a : Int) : Prop := pBeat c 0 ≤ a ∧ a < pBeat c 0 + c.slots
def fits (c : Cfg) (b : Bk) (w : List Int) : Prop := ∀ a : Int, pReg c 0 ≤ a → a < (lay c b).length → ¬ isBeat c a → at_ (lay c b) a = cval (at_ w a)
instance (c : Cfg) (b : Bk) (w : List Int) : Decidable (fits c b w) := Classical.propDecidable _
def censBook (w : List Int) : Bk × Bool :=
  if (wholeH w).2 = true then
    let c := (wholeH w).1
    let b := readB w c
    if bookP b ∧ fits c b w then (b, true) else (Bk.zero, false)
  else (Bk.zero, false)
def putEntry (w : List Int) (e : Int) : List Int :=
  let a := cval e / 1048576
  if a < w.length ∧ cstamp (at_ w a) < cstamp e then put w a (pack (cval e % 1048576) (cstamp e)) else w
def putLog (w0 : List Int) (door a : Int) (w : List Int) : Nat → List Int
  | 0 => w
  | n + 1 => let w' := putLog w0 door a w n; if cstamp (at_ w0 (a + (n + 1))) = cstamp door then putEntry w' (at_ w0 (a + (n + 1))) else w'
def censDone (w : List Int) : List Int :=
  let c := (check w).1
  let door := at_ w 2
  if (check w).2 = true ∧ cval door % 4 = 2 ∧ cval door / 4 % 8 < c.slots then
    let a := pDesk c (cval door / 4 % 8)
    let n := cval (at_ w a)
    if cstamp (at_ w a) = cstamp door ∧ n ≤ 20 then put (putLog w door a w n.toNat) 2 (cdoor 0 0 0 (cstamp door + 1)) else w
  else w
def censTrue (w : List Int) : Bk × Bool := if (check w).2 = true then censBook (censDone w) else (Bk.zero, false)
def planL (v u : List Int) (stamp : Int) (n : Nat) : List Int := ((List.range n).filter fun (a : Nat) => decide (at_ v (a : Int) ≠ at_ u (a : Int))).map fun (a : Nat) => centry a (at_ u (a : Int)) stamp
def planOf (w : List Int) (op : Op) (stamp : Int) : List Int × Int × Int :=
  if (censBook w).2 = true ∧ 1 ≤ stamp ∧ stamp ≤ 1000000000 then
    let c := (wholeH w).1
    let b := (censBook w).1
    let r := bookDo b op
    (planL (lay c b) (lay c r.1) stamp (lay c b).length, r.2.1, r.2.2)
  else ([], 13, 0)
end
end Ho
