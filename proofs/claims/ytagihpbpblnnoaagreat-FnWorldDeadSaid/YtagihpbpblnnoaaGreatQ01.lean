import Derived.Calls
import Derived.Orders
import Derived.Laws.Sem
import Derived.Laws.World
import Derived.Laws.Cells
import Derived.Laws.CopyRow
import Derived.Laws.AppendOwn
import Derived.Laws.StructEq
import Derived.KernelRfl
import Derived.ArgAppend
set_option linter.all false
namespace AH
open Go
/-- A value. 'ptr i k': cell k of block i. 'sl i k n e': n elements of e cells each, from cell k of block i on. -/
inductive AV where
  | bool (b : Bool)
  | int (k : IntKind) (n : Int)
  | str (s : ByteArray)
  | ptr (i k : Nat)
  | nilp
  | sl (i k n e : Nat)
  | nils
  | fn (f : FuncId) (first captured : List AV)
  | nilfn
  | iface (t : TypeId) (v : AV)
  | nilif
  | agg (cs : List AV)
  | tup (vs : List AV)
  | undef
/-- A block: its cells, and whether it is this program's own to write. -/
structure ABlk where
  cells : List AV
  rw : Bool
structure AHeap where
  n : Nat
  get : Nat → Option ABlk
def AHeap.push (σ : AHeap) (B : ABlk) : AHeap := ⟨σ.n + 1, fun j => if j = σ.n then some B else σ.get j⟩
def AHeap.set (σ : AHeap) (i : Nat) (B : ABlk) : AHeap := ⟨σ.n, fun j => if j = i then some B else σ.get j⟩
def AHeap.kill (σ : AHeap) (i : Nat) : AHeap := ⟨σ.n, fun j => if j = i then none else σ.get j⟩
@[simp] theorem AHeap.push_n (σ : AHeap) (B : ABlk) : (σ.push B).n = σ.n + 1 := rfl
@[simp] theorem AHeap.set_n (σ : AHeap) (i : Nat) (B : ABlk) : (σ.set i B).n = σ.n := rfl
@[simp] theorem AHeap.kill_n (σ : AHeap) (i : Nat) : (σ.kill i).n = σ.n := rfl
theorem AHeap.push_get (σ : AHeap) (B : ABlk) (j : Nat) : (σ.push B).get j = if j = σ.n then some B else σ.get j := rfl
theorem AHeap.set_get (σ : AHeap) (i : Nat) (B : ABlk) (j : Nat) : (σ.set i B).get j = if j = i then some B else σ.get j := rfl
theorem AHeap.kill_get (σ : AHeap) (i j : Nat) : (σ.kill i).get j = if j = i then none else σ.get j := rfl
/-- Where a block lies: block b, from cell o on, and c cells that are its own. -/
structure Loc where
  b : Nat
  o : Nat
  c : Nat
abbrev Mu := Nat → Option Loc
inductive VR (μ : Mu) : AV → Value → Prop
  | bool (b : Bool) : VR μ (.bool b) (.bool b)
  | int (k : IntKind) (n : Int) : VR μ (.int k n) (.int k n)
  | str (s : ByteArray) : VR μ (.str s) (.string s)
  | ptr (i k : Nat) (l : Loc) (h : μ i = some l) : VR μ (.ptr i k) (.pointer (some ⟨l.b, l.o + k, none⟩))
  | nilp : VR μ .nilp (.pointer none)
  | sl (i k n e cap : Nat) (l : Loc) (off : Nat) (h : μ i = some l) (hn : n ≤ cap)
      (ho : (off = l.o + k ∧ k + cap * e ≤ l.c) ∨ cap = 0) : VR μ (.sl i k n e) (.slice (some ⟨l.b, off, none⟩) n cap)
  | nils : VR μ .nils (.slice none 0 0)
  | fn (f : FuncId) (xs ys : List AV) (us vs : Array Value) (hx : xs.length = us.size) (hy : ys.length = vs.size)
      (h : ∀ (j : Nat) (a : AV) (u : Value), xs[j]? = some a → us[j]? = some u → VR μ a u)
      (h' : ∀ (j : Nat) (a : AV) (u : Value), ys[j]? = some a → vs[j]? = some u → VR μ a u) : VR μ (.fn f xs ys) (.func (.func f) us vs)
  | nilfn : VR μ .nilfn .nilFunc
  | iface (t : TypeId) (a : AV) (u : Value) (h : VR μ a u) : VR μ (.iface t a) (.iface t u)
  | nilif : VR μ .nilif .nilIface
  | agg (cs : List AV) (us : Array Value) (hl : cs.length = us.size) (h : ∀ (j : Nat) (a : AV) (u : Value), cs[j]? = some a → us[j]? = some u → VR μ a u) : VR μ (.agg cs) (.agg us)
  | tup (cs : List AV) (us : Array Value) (hl : cs.length = us.size) (h : ∀ (j : Nat) (a : AV) (u : Value), cs[j]? = some a → us[j]? = some u → VR μ a u) : VR μ (.tup cs) (.tuple us)
  | undef (u : Value) : VR μ .undef u
def VRs (μ : Mu) (cs : List AV) (us : List Value) : Prop :=
  cs.length = us.length ∧ ∀ (j : Nat) (a : AV) (u : Value), cs[j]? = some a → us[j]? = some u → VR μ a u
/-- A live block of the heap and its place. -/
structure BlkR (μ : Mu) (w : World) (B : ABlk) (l : Loc) : Prop where
  ex : ∃ arr el fr, w.heap[l.b]? = some (.cells arr el fr) ∧ l.o + l.c ≤ arr.size ∧ B.cells.length ≤ l.c ∧ (B.rw = true → fr = (0, 0)) ∧
    ∀ (j : Nat) (a : AV), B.cells[j]? = some a → ∃ u, arr[l.o + j]? = some u ∧ VR μ a u
def Loc.has (l : Loc) (b o : Nat) : Prop := b = l.b ∧ l.o ≤ o ∧ o < l.o + l.c
def Loc.apart (l m : Loc) : Prop := ∀ b o, l.has b o → ¬ m.has b o
structure Rel (μ : Mu) (σ : AHeap) (w : World) : Prop where
  dom : ∀ i l, μ i = some l → i < σ.n
  blk : ∀ i B l, σ.get i = some B → μ i = some l → BlkR μ w B l
  sep : ∀ i j B C l m, i ≠ j → σ.get i = some B → σ.get j = some C → B.rw = true → μ i = some l → μ j = some m → l.apart m
/-- A cell that the heap may write. -/
def Terr (μ : Mu) (σ : AHeap) (b o : Nat) : Prop := ∃ i B l, σ.get i = some B ∧ B.rw = true ∧ μ i = some l ∧ l.has b o
structure Step (μ : Mu) (σ : AHeap) (w : World) (μ' : Mu) (σ' : AHeap) (w' : World) : Prop where
  os : w'.os = w.os
  tape : w'.tape = w.tape
  output : w'.output = w.output
  size : w.heap.size ≤ w'.heap.size
  n : σ.n ≤ σ'.n
  ext : ∀ i, i < σ.n → μ' i = μ i
  terr : ∀ b o, b < w.heap.size → Terr μ' σ' b o → Terr μ σ b o
  cells : ∀ (b : Nat) arr el fr, w.heap[b]? = some (.cells arr el fr) → ∃ arr', w'.heap[b]? = some (.cells arr' el fr) ∧ arr'.size = arr.size ∧
    ∀ o, ¬ Terr μ σ b o → arr'[o]? = arr[o]?
  ro : ∀ i B, i < σ.n → σ'.get i = some B → B.rw = false → ∃ B', σ.get i = some B' ∧ B'.rw = false
  ronew : ∀ i B, σ.n ≤ i → i < σ'.n → σ'.get i = some B → B.rw = true
  other : ∀ (b : Nat) (ob : Obj), w.heap[b]? = some ob → (∀ arr el fr, ob ≠ Obj.cells arr el fr) → w'.heap[b]? = some ob
/-! ### types -/
def ofCell : Value → AV
  | .bool b => .bool b
  | .int k n => .int k n
  | .string s => .str s
  | .pointer none => .nilp
  | .slice none 0 0 => .nils
  | .nilFunc => .nilfn
  | .nilIface => .nilif
  | _ => .undef
def ofValue : Value → AV
  | .agg cs => .agg (cs.toList.map ofCell)
  | v => ofCell v
def isAggD : TypeDesc → Bool
  | .struct _ | .array _ _ => true
  | _ => false
def tyAgg (P : Program) (t : TypeId) : Option (Bool × Nat) :=
  match P.underlying t, P.info? t with
  | some d, some i => some (isAggD d, i.size)
  | _, _ => none
def tyField (P : Program) (s f : Nat) : Option Nat :=
  match P.underlying s with
  | some (.struct fs) => match fs[f]? with
    | some fd => match P.info? fd.type with
      | some i => if i.size = 0 then none else some fd.offset
      | none => none
    | none => none
  | _ => none
def tySlice (P : Program) (t : TypeId) : Option (Nat × Nat × List AV) :=
  match P.underlying t with
  | some (.slice e) => match P.info? e with
    | some i => match i.zero with
      | some z => if z.cells.size = i.size ∧ 0 < i.size then some (i.size, i.bytes, z.cells.toList.map ofCell) else none
      | none => none
    | none => none
  | _ => none
def tyArr (P : Program) (t : TypeId) : Option (Nat × Nat) :=
  match P.underlying t with
  | some (.array n e) => match P.info? e with
    | some i => some (n, i.size)
    | none => none
  | _ => none
def tyZero (P : Program) (t : TypeId) : Option (List AV) :=
  match P.info? t with
  | some i => match i.zero with
    | some z => some (z.cells.toList.map ofCell)
    | none => none
  | none => none
/-- The places of a struct's fields: where each begins, and its size. -/
def tyPlaces (P : Program) (t : TypeId) : Option (List (Nat × Nat)) :=
  match P.underlying t with
  | some (.struct fs) => fs.toList.mapM fun f => (P.info? f.type).map fun i => (f.offset, i.size)
  | _ => none
/-! ### operations without memory -/
def AV.cells : AV → Option (List AV)
  | .agg cs => some cs
  | .tup _ | .undef => none
  | v => some [v]
def AV.one : AV → Bool
  | .agg _ | .tup _ | .undef => false
  | _ => true
/-- 'vs' laid over 'cs' from place k on. -/
def splice {α : Type} (cs : List α) (k : Nat) (vs : List α) : List α := cs.take k ++ vs ++ cs.drop (k + vs.length)
def afill (place : Nat → Option (Nat × Nat)) (cells : List AV) : List (Nat × AV) → Option (List AV)
  | [] => some cells
  | (i, v) :: rest =>
    match place i, v.cells with
    | some (off, size), some vs => if vs.length = size ∧ off + size ≤ cells.length then afill place (splice cells off vs) rest else none
    | _, _ => none
def aeqList (f : TypeId → AV → AV → Option Bool) : List Field → List AV → List AV → Option Bool
  | [], _, _ => some true
  | fd :: fs, xs, ys =>
    if fd.name = "_" then none else
    match xs[fd.offset]?, ys[fd.offset]? with
    | some a, some b => match f fd.type a b with
      | some true => aeqList f fs xs ys
      | some false => some false
      | none => none
    | _, _ => none
/-- '==' of two cells. -/
def aeq0 (P : Program) (t : TypeId) (a b : AV) : Option Bool :=
  match P.underlying t, a, b with
  | some .bool, .bool x, .bool y => some (x == y)
  | some (.int _), .int k x, .int k' y => if k = k' then some (x == y) else none
  | some .string, .str x, .str y => some (x == y)
  | _, _, _ => none
/-- '==' of two structs whose fields are cells. -/
def aeqS (P : Program) (t : TypeId) (xs ys : List AV) : Option Bool :=
  match P.underlying t with
  | some (.struct fs) => if P.stoodInHeld t = false ∧ P.eqGuardType P.depth t = false then aeqList (aeq0 P) fs.toList xs ys else none
  | _ => none
def aint (op : BinOp) (k : IntKind) (a b : Int) : Option AV :=
  match op with
  | .add => some (.int k (k.wrap (a + b)))
  | .sub => some (.int k (k.wrap (a - b)))
  | .mul => some (.int k (k.wrap (a * b)))
  | .quo => if b = 0 then none else some (.int k (k.wrap (a.tdiv b)))
  | .rem => if b = 0 then none else some (.int k (a.tmod b))
  | .and => some (.int k (k.wrap (BitVec.ofInt k.bits a &&& BitVec.ofInt k.bits b).toNat))
  | .or => some (.int k (k.wrap (BitVec.ofInt k.bits a ||| BitVec.ofInt k.bits b).toNat))
  | .xor => some (.int k (k.wrap (BitVec.ofInt k.bits a ^^^ BitVec.ofInt k.bits b).toNat))
  | .eql => some (.bool (a == b))
  | .neq => some (.bool (a != b))
  | .lss => some (.bool (decide (a < b)))
  | .leq => some (.bool (decide (a ≤ b)))
  | .gtr => some (.bool (decide (a > b)))
  | .geq => some (.bool (decide (a ≥ b)))
  | _ => none
def ashift (op : BinOp) (k : IntKind) (a b : Int) : Option AV :=
  if b < 0 then none else
  match op with
  | .shl => some (.int k (k.wrap (a * 2 ^ (min b.toNat k.bits))))
  | .shr => some (.int k (a.fdiv (2 ^ (min b.toNat k.bits))))
  | _ => none
def abin (P : Program) (op : BinOp) (t : TypeId) (x y : AV) : Option AV :=
  match x, y with
  | .int k a, .int k' b =>
    if op = .shl ∨ op = .shr then ashift op k a b else if k = k' then aint op k a b else none
  | .bool a, .bool b => match op with
    | .eql => (aeq0 P t (.bool a) (.bool b)).map .bool
    | .neq => (aeq0 P t (.bool a) (.bool b)).map fun r => .bool (!r)
    | _ => none
  | .agg xs, .agg ys => match op with
    | .eql => (aeqS P t xs ys).map .bool
    | .neq => (aeqS P t xs ys).map fun r => .bool (!r)
    | _ => none
  | .str a, .str b => match op with
    | .eql => some (.bool (a == b))
    | .neq => some (.bool (a != b))
    | .add => if a.size + b.size ≤ 9223372036854775807 then some (.str (a ++ b)) else none
    | _ => none
  | a, .nils => match P.underlying t, op, a with
    | some (.slice _), .eql, .nils => some (.bool true)
    | some (.slice _), .eql, .sl .. => some (.bool false)
    | some (.slice _), .neq, .nils => some (.bool false)
    | some (.slice _), .neq, .sl .. => some (.bool true)
    | _, _, _ => none
  | _, _ => none
def aindex (P : Program) (t : TypeId) (x i : AV) : Option AV :=
  match i with
  | .int _ i => match x with
    | .agg cs => match P.underlying t with
      | some (.array n el) => match tyAgg P el with
        | some (false, e) => if 0 ≤ i ∧ i < n then cs[i.toNat * e]? else none
        | _ => none
      | _ => none
    | .str s => match P.underlying t with
      | some .string => if 0 ≤ i then (s[i.toNat]?).map fun b => .int .u8 b.toNat else none
      | _ => none
    | _ => none
  | _ => none
def aun (op : UnOp) (x : AV) : Option AV :=
  match op, x with
  | .neg, .int k n => some (.int k (k.wrap (0 - n)))
  | .not, .bool b => some (.bool !b)
  | _, _ => none
def abound (d : Int) : Option AV → Option Int
  | none => some d
  | some (.int _ q) => some q
  | some _ => none
def aslice (e' : Nat) (x : AV) (lo hi : Option AV) : Option AV :=
  match x with
  | .sl i k n e =>
    match abound 0 lo, abound n hi with
    | some l, some h => if e = e' ∧ 0 ≤ l ∧ l ≤ h ∧ h ≤ n then some (.sl i (k + l.toNat * e) (h.toNat - l.toNat) e) else none
    | _, _ => none
  | _ => none
def amax2 : AV → AV → Option AV
  | .int k x, .int _ y => some (.int k (if y > x then y else x))
  | _, _ => none
def amin2 : AV → AV → Option AV
  | .int k x, .int _ y => some (.int k (if y < x then y else x))
  | _, _ => none
/-! ### memory -/
def aload (P : Program) (t : TypeId) (a : AV) (σ : AHeap) : Option AV :=
  match a with
  | .ptr i k => match σ.get i, tyAgg P t with
    | some B, some (true, n) => if k + n ≤ B.cells.length then some (.agg ((B.cells.drop k).take n)) else none
    | some B, some (false, _) => B.cells[k]?
    | _, _ => none
  | _ => none
def astore (P : Program) (t : TypeId) (a v : AV) (σ : AHeap) : Option AHeap :=
  match a, v.cells, tyAgg P t with
  | .ptr i k, some vs, some (_, n) => match σ.get i with
    | some B => if B.rw = true ∧ vs.length = n ∧ k + n ≤ B.cells.length ∧ vs.all AV.one = true then some (σ.set i ⟨splice B.cells k vs, true⟩) else none
    | none => none
  | _, _, _ => none
/-- The elements of a slice that is appended or copied. -/
def aelems (e : Nat) (x : AV) (σ : AHeap) : Option (List AV) :=
  match x with
  | .nils => some []
  | .sl j k m e' => if m = 0 then some [] else match σ.get j with
    | some B => if e' = e ∧ k + m * e ≤ B.cells.length ∧ ((B.cells.drop k).take (m * e)).all AV.one = true then some ((B.cells.drop k).take (m * e)) else none
    | none => none
  | _ => none
def alen : AV → Option Nat
  | .nils => some 0
  | .sl _ _ n _ => some n
  | .str s => some s.size
  | _ => none
def aappend (P : Program) (t : TypeId) (s x : AV) (σ : AHeap) : Option (AV × AHeap) :=
  match tySlice P t with
  | none => none
  | some (e, by', _) =>
    match aelems e x σ, alen x with
    | some vs, some m =>
      match s with
      | .nils => if m = 0 then some (.nils, σ) else
        if m * by' ≤ 140737488355328 ∧ m ≤ 9223372036854775807 then some (.sl σ.n 0 m e, σ.push ⟨vs, true⟩) else none
      | .sl i k n e' =>
        match σ.get i with
        | some B => if B.rw = true ∧ e' = e ∧ k + n * e = B.cells.length ∧ (n + m) * by' ≤ 140737488355328 ∧ n + m ≤ 9223372036854775807 then
            some (.sl σ.n 0 (n + m) e, (σ.kill i).push ⟨B.cells.drop k ++ vs, true⟩) else if m = 0 then some (.sl i k n e', σ) else none
        | none => if m = 0 then some (.sl i k n e', σ) else none
      | _ => none
    | _, _ => none
def acopy (P : Program) (t : TypeId) (d x : AV) (σ : AHeap) : Option (AV × AHeap) :=
  match tySlice P t, d, alen x with
  | some (e, _), .sl i k n e', some m =>
    if min m n = 0 then some (.int .i64 0, σ) else
    match x with
    | .sl j k' _ ex => match aelems e (.sl j k' (min m n) ex) σ, σ.get i with
      | some vs, some B => if B.rw = true ∧ e' = e ∧ k + n * e ≤ B.cells.length then some (.int .i64 (min m n : Nat), σ.set i ⟨splice B.cells k vs, true⟩) else none
      | _, _ => none
    | _ => none
  | some _, .nils, some _ => some (.int .i64 0, σ)
  | _, _, _ => none
def amake (P : Program) (t : TypeId) (l c : AV) (σ : AHeap) : Option (AV × AHeap) :=
  match tySlice P t, l, c with
  | some (e, by', z), .int .i64 l, .int .i64 c =>
    if 0 ≤ l ∧ l ≤ c ∧ c < 9223372036854775807 ∧ by' * c ≤ 140737488355328 then some (.sl σ.n 0 l.toNat e, σ.push ⟨(List.replicate l.toNat z).flatten, true⟩) else none
  | _, _, _ => none
/-- An operation that calls no Go function. -/
def aop (P : Program) (ρ : Operand → AV) (op : Op) (σ : AHeap) : Option (AV × AHeap) :=
  match op with
  | .move x | .assign x => some (ρ x, σ)
  | .pick c a b => match ρ c with
    | .bool t => some (if t then ρ a else ρ b, σ)
    | _ => none
  | .alloc e => (tyZero P e).map fun z => (.ptr σ.n 0, σ.push ⟨z, true⟩)
  | .box _ x => (ρ x).cells.map fun cs => (.ptr σ.n 0, σ.push ⟨cs, true⟩)
  | .build t parts => match tyZero P t, tyPlaces P t with
    | some z, some pl => (afill (pl[·]?) z (parts.toList.map fun (i, x) => (i, ρ x))).map fun cs => (.agg cs, σ)
    | _, _ => none
  | .buildSlice t len parts => match tySlice P t with
    | some (e, _, z) => if len * e ≤ 16777216 then
        (afill (fun i => some (i * e, e)) (List.replicate len z).flatten (parts.toList.map fun (i, x) => (i, ρ x))).map fun cs => (.sl σ.n 0 len e, σ.push ⟨cs, true⟩)
      else none
    | none => none
  | .load t a => (aload P t (ρ a) σ).map fun v => (v, σ)
  | .store t a x => (astore P t (ρ a) (ρ x) σ).map fun σ' => (.undef, σ')
  | .nilCheck x => match ρ x with
    | .ptr i k => some (.ptr i k, σ)
    | .fn f a b => some (.fn f a b, σ)
    | _ => none
  | .binOp op t x y _ => (abin P op t (ρ x) (ρ y)).map fun v => (v, σ)
  | .unOp op _ x => (aun op (ρ x)).map fun v => (v, σ)
  | .convert src dst x => match P.underlying src, P.underlying dst, ρ x with
    | some _, some (.int k), .int _ n => some (.int k (k.wrap n), σ)
    | _, _, _ => none
  | .makeFunc (.func f) a b => some (.fn f (a.toList.map ρ) (b.toList.map ρ), σ)
  | .makeSlice t l c => amake P t (ρ l) (ρ c) σ
  | .slice t x lo hi none => match tySlice P t with
    | some (e, _) => (aslice e (ρ x) (lo.map ρ) (hi.map ρ)).map fun v => (v, σ)
    | none => none
  | .fieldAddr s x f => match ρ x, tyField P s f with
    | .ptr i k, some off => some (.ptr i (k + off), σ)
    | _, _ => none
  | .indexAddr t x ix => match ρ ix with
    | .int _ i => match ρ x with
      | .sl b k n e => match tySlice P t with
        | some (e', _) => if e = e' ∧ 0 ≤ i ∧ i < n then some (.ptr b (k + i.toNat * e), σ) else none
        | none => none
      | .ptr b k => match tyArr P t with
        | some (n, e) => if 0 ≤ i ∧ i < n then some (.ptr b (k + i.toNat * e), σ) else none
        | none => none
      | _ => none
    | _ => none
  | .index t x ix => (aindex P t (ρ x) (ρ ix)).map fun v => (v, σ)
  | .extract t i => match ρ t with
    | .tup vs => (vs[i]?).map fun v => (v, σ)
    | _ => none
  | .call ⟨.builtin b, args, ts⟩ => match b, args.toList, ts.toList with
    | .len, [x], [t] => match P.underlying t, alen (ρ x), ρ x with
      | some (.slice _), some n, .sl .. => some (.int .i64 n, σ)
      | some (.slice _), some n, .nils => some (.int .i64 n, σ)
      | some .string, some n, .str _ => some (.int .i64 n, σ)
      | _, _, _ => none
    | .append, [s, x], [t, tx] => if tx = t then aappend P t (ρ s) (ρ x) σ else none
    | .copy, [d, x], [t, _] => acopy P t (ρ d) (ρ x) σ
    | .max, x :: xs, _ => (xs.foldlM (fun a y => amax2 a (ρ y)) (ρ x)).map fun v => (v, σ)
    | .min, x :: xs, _ => (xs.foldlM (fun a y => amin2 a (ρ y)) (ρ x)).map fun v => (v, σ)
    | _, _, _ => none
  | _ => none
end AH
/- THE ABSTRACT MACHINE: how its memory stands for the world's. -/
namespace AH
open Go
def Mu.upd (μ : Mu) (i : Nat) (l : Loc) : Mu := fun j => if j = i then some l else μ j
theorem VR.mono {μ μ' : Mu} {a : AV} {u : Value} (h : VR μ a u) (hm : ∀ i l, μ i = some l → μ' i = some l) : VR μ' a u := by
  induction h with
  | bool b => exact .bool b
  | int k n => exact .int k n
  | str s => exact .str s
  | ptr i k l h => exact .ptr i k l (hm _ _ h)
  | nilp => exact .nilp
  | sl i k n e cap l off h hn ho => exact .sl i k n e cap l off (hm _ _ h) hn ho
  | nils => exact .nils
  | fn f xs ys us vs hx hy _ _ ih ih' => exact .fn f xs ys us vs hx hy ih ih'
  | nilfn => exact .nilfn
  | iface t a u _ ih => exact .iface t a u ih
  | nilif => exact .nilif
  | agg cs us hl _ ih => exact .agg cs us hl ih
  | tup cs us hl _ ih => exact .tup cs us hl ih
  | undef u => exact .undef u
theorem VRs.mono {μ μ' : Mu} {cs : List AV} {us : List Value} (h : VRs μ cs us) (hm : ∀ i l, μ i = some l → μ' i = some l) : VRs μ' cs us :=
  ⟨h.1, fun j a u ha hu => (h.2 j a u ha hu).mono hm⟩
theorem VRs.nil (μ : Mu) : VRs μ [] [] := ⟨rfl, fun j a u ha _ => by simp at ha⟩
theorem VRs.cons {μ : Mu} {a : AV} {u : Value} {cs : List AV} {us : List Value} (h : VR μ a u) (hs : VRs μ cs us) : VRs μ (a :: cs) (u :: us) := by
  refine ⟨by simp [hs.1], fun j b v hb hv => ?_⟩
  cases j with
  | zero => simp at hb hv; subst hb; subst hv; exact h
  | succ j => exact hs.2 j b v (by simpa using hb) (by simpa using hv)
theorem VRs.append {μ : Mu} {cs ds : List AV} {us vs : List Value} (h : VRs μ cs us) (h' : VRs μ ds vs) : VRs μ (cs ++ ds) (us ++ vs) := by
  refine ⟨by simp [h.1, h'.1], fun j a u ha hu => ?_⟩
  by_cases hj : j < cs.length
  · rw [List.getElem?_append_left hj] at ha
    rw [List.getElem?_append_left (h.1 ▸ hj)] at hu
    exact h.2 j a u ha hu
  · rw [List.getElem?_append_right (by omega)] at ha
    rw [List.getElem?_append_right (by rw [← h.1]; omega)] at hu
    rw [← h.1] at hu
    exact h'.2 _ a u ha hu
theorem VRs.drop {μ : Mu} {cs : List AV} {us : List Value} (h : VRs μ cs us) (k : Nat) : VRs μ (cs.drop k) (us.drop k) :=
  ⟨by simp [h.1], fun j a u ha hu => h.2 (k + j) a u (by simpa [List.getElem?_drop] using ha) (by simpa [List.getElem?_drop] using hu)⟩
theorem VRs.take {μ : Mu} {cs : List AV} {us : List Value} (h : VRs μ cs us) (k : Nat) : VRs μ (cs.take k) (us.take k) := by
  refine ⟨by simp [h.1], fun j a u ha hu => ?_⟩
  rw [List.getElem?_take] at ha hu
  split at ha
  · rename_i hj
    rw [if_pos hj] at hu
    exact h.2 j a u ha hu
  · cases ha
theorem VRs.of_agg {μ : Mu} {cs : List AV} {us : Array Value} (hl : cs.length = us.size)
    (h : ∀ (j : Nat) (a : AV) (u : Value), cs[j]? = some a → us[j]? = some u → VR μ a u) : VRs μ cs us.toList :=
  ⟨by simpa using hl, fun j a u ha hu => h j a u ha (by simpa using hu)⟩
theorem VRs.agg {μ : Mu} {cs : List AV} {us : List Value} (h : VRs μ cs us) : VR μ (.agg cs) (.agg us.toArray) :=
  .agg cs _ (by simp [h.1]) fun j a u ha hu => h.2 j a u ha (by simpa using hu)
theorem VRs.tup {μ : Mu} {cs : List AV} {us : List Value} (h : VRs μ cs us) : VR μ (.tup cs) (.tuple us.toArray) :=
  .tup cs _ (by simp [h.1]) fun j a u ha hu => h.2 j a u ha (by simpa using hu)
theorem VRs.map {μ : Mu} {α : Type} (l : List α) (f : α → AV) (g : α → Value) (h : ∀ x ∈ l, VR μ (f x) (g x)) : VRs μ (l.map f) (l.map g) := by
  induction l with
  | nil => exact VRs.nil μ
  | cons x l ih => exact VRs.cons (h x (by simp)) (ih fun y hy => h y (by simp [hy]))
theorem VRs.get {μ : Mu} {cs : List AV} {us : List Value} (h : VRs μ cs us) {j : Nat} {a : AV} (ha : cs[j]? = some a) : ∃ u, us[j]? = some u ∧ VR μ a u := by
  have hj : j < cs.length := by
    rcases Nat.lt_or_ge j cs.length with h' | h'
    · exact h'
    · rw [List.getElem?_eq_none h'] at ha; cases ha
  have hu : us[j]? = some (us[j]'(h.1 ▸ hj)) := List.getElem?_eq_getElem _
  exact ⟨_, hu, h.2 j a _ ha hu⟩
theorem VRs.splice {μ : Mu} {cs : List AV} {us : List Value} (h : VRs μ cs us) {vs : List AV} {ws : List Value} (h' : VRs μ vs ws) (k : Nat) :
    VRs μ (splice cs k vs) (splice us k ws) := by
  unfold AH.splice
  rw [← h'.1]
  exact ((h.take k).append h').append (h.drop _)
theorem VR_ofCell (μ : Mu) (c : Value) : VR μ (ofCell c) c := by
  unfold ofCell
  split <;> constructor
theorem VRs_ofCell (μ : Mu) (us : List Value) : VRs μ (us.map ofCell) us := by
  have := VRs.map (μ := μ) us ofCell id fun x _ => VR_ofCell μ x
  simpa using this
theorem VR_ofValue (μ : Mu) (v : Value) : VR μ (ofValue v) v := by
  unfold ofValue
  split
  · rename_i cs
    have := (VRs_ofCell μ cs.toList).agg
    simpa using this
  · exact VR_ofCell μ v
/-- A value's cells. -/
theorem VR.cells {μ : Mu} {a : AV} {u : Value} (h : VR μ a u) {cs : List AV} (hc : a.cells = some cs) : VRs μ cs u.cells.toList := by
  cases h <;> simp only [AV.cells, Option.some.injEq, reduceCtorEq] at hc <;> subst hc <;> simp only [Value.cells]
  case agg us hl h => exact VRs.of_agg hl h
  all_goals refine VRs.cons ?_ (VRs.nil μ)
  case bool => exact .bool _
  case int => exact .int _ _
  case str => exact .str _
  case ptr i k l h => exact .ptr i k l h
  case nilp => exact .nilp
  case sl i k n e cap l off h hn ho => exact .sl i k n e cap l off h hn ho
  case nils => exact .nils
  case fn f xs ys us vs hx hy h h' => exact .fn f xs ys us vs hx hy h h'
  case nilfn => exact .nilfn
  case iface t a u h => exact .iface t a u h
  case nilif => exact .nilif
theorem VR.oneCell {μ : Mu} {a : AV} {u : Value} (h : VR μ a u) (ha : a.one = true) : u.oneCell' = true := by
  cases h <;> simp_all [AV.one, Value.oneCell']
theorem VRs.oneCells {μ : Mu} {cs : List AV} {us : List Value} (h : VRs μ cs us) (ha : cs.all AV.one = true) : ∀ u ∈ us, u.oneCell' = true := by
  intro u hu
  obtain ⟨j, hj, rfl⟩ := List.mem_iff_getElem.1 hu
  have hj' : j < cs.length := h.1 ▸ hj
  have h1 : cs[j]? = some cs[j] := List.getElem?_eq_getElem hj'
  have h2 : us[j]? = some us[j] := List.getElem?_eq_getElem hj
  exact (h.2 j _ _ h1 h2).oneCell (by rw [List.all_eq_true] at ha; exact ha _ (List.getElem_mem hj'))
/-! ### steps of the world -/
theorem Step.refl (μ : Mu) (σ : AHeap) (w : World) : Step μ σ w μ σ w :=
  ⟨rfl, rfl, rfl, Nat.le_refl _, Nat.le_refl _, fun _ _ => rfl, fun _ _ _ h => h, fun _ arr _ _ h => ⟨arr, h, rfl, fun _ _ => rfl⟩, fun _ B _ h h' => ⟨B, h, h'⟩, fun _ _ h h' => absurd h' (Nat.not_lt.2 h), fun _ _ h _ => h⟩
theorem Step.trans {μ μ' μ'' : Mu} {σ σ' σ'' : AHeap} {w w' w'' : World} (h : Step μ σ w μ' σ' w') (h' : Step μ' σ' w' μ'' σ'' w'') : Step μ σ w μ'' σ'' w'' := by
  refine ⟨h'.os.trans h.os, h'.tape.trans h.tape, h'.output.trans h.output, Nat.le_trans h.size h'.size, Nat.le_trans h.n h'.n,
    fun i hi => (h'.ext i (Nat.lt_of_lt_of_le hi h.n)).trans (h.ext i hi), fun b o hb ht => h.terr b o hb (h'.terr b o (Nat.lt_of_lt_of_le hb h.size) ht), ?_, ?_, ?_, ?_⟩
  · intro b arr el fr hb
    have hbl : b < w.heap.size := (Array.getElem?_eq_some_iff.1 hb).1
    obtain ⟨arr', hb', hs', ho'⟩ := h.cells b arr el fr hb
    obtain ⟨arr'', hb'', hs'', ho''⟩ := h'.cells b arr' el fr hb'
    exact ⟨arr'', hb'', hs''.trans hs', fun o ht => (ho'' o fun h2 => ht (h.terr b o hbl h2)).trans (ho' o ht)⟩
  · intro i B hi hB hr
    obtain ⟨B', hB', hr'⟩ := h'.ro i B (Nat.lt_of_lt_of_le hi h.n) hB hr
    exact h.ro i B' hi hB' hr'
  · intro i B hi hi' hB
    rcases Nat.lt_or_ge i σ'.n with hlt | hge
    · cases hr : B.rw with
      | true => rfl
      | false =>
        obtain ⟨B', hB', hr'⟩ := h'.ro i B hlt hB hr
        rw [h.ronew i B' hi hlt hB'] at hr'
        cases hr'
    · exact h'.ronew i B hge hi' hB
  · intro b ob hb hn
    exact h'.other b ob (h.other b ob hb hn) hn
theorem Step.drew (μ : Mu) (σ : AHeap) (w : World) : Step μ σ w μ σ w.drew :=
  ⟨rfl, rfl, rfl, Nat.le_refl _, Nat.le_refl _, fun _ _ => rfl, fun _ _ _ h => h, fun _ arr _ _ h => ⟨arr, h, rfl, fun _ _ => rfl⟩, fun _ B _ h h' => ⟨B, h, h'⟩, fun _ _ h h' => absurd h' (Nat.not_lt.2 h), fun _ _ h _ => h⟩
theorem Rel.drew {μ : Mu} {σ : AHeap} {w : World} (h : Rel μ σ w) : Rel μ σ w.drew := ⟨h.dom, fun i B l hB hl => ⟨(h.blk i B l hB hl).ex⟩, h.sep⟩
/-- What a live block's cells are. -/
theorem BlkR.rows {μ : Mu} {w : World} {B : ABlk} {l : Loc} (h : BlkR μ w B l) : ∃ us, VRs μ B.cells us ∧ ∀ (j : Nat) (u : Value), us[j]? = some u → w.cell? ⟨l.b, l.o + j, none⟩ = some u := by
  obtain ⟨arr, el, fr, hb, hs, hlen, _, hc⟩ := h.ex
  refine ⟨(arr.toList.drop l.o).take B.cells.length, ⟨by simp; omega, ?_⟩, ?_⟩
  · intro j a u ha hu
    obtain ⟨u', hu', hv⟩ := hc j a ha
    rw [List.getElem?_take] at hu
    split at hu
    · rw [List.getElem?_drop] at hu
      simp only [Array.getElem?_toList] at hu
      rw [hu'] at hu
      cases hu
      exact hv
    · cases hu
  · intro j u hu
    rw [List.getElem?_take] at hu
    split at hu
    · rw [List.getElem?_drop] at hu
      simp only [Array.getElem?_toList] at hu
      simp [World.cell?, hb, hu]
    · cases hu
theorem BlkR.lt {μ : Mu} {w : World} {B : ABlk} {l : Loc} (h : BlkR μ w B l) : l.b < w.heap.size := by
  obtain ⟨arr, el, fr, hb, _⟩ := h.ex
  exact (Array.getElem?_eq_some_iff.1 hb).1
theorem Rel.upd_mono {μ : Mu} {σ : AHeap} {w : World} (h : Rel μ σ w) (l : Loc) : ∀ i m, μ i = some m → Mu.upd μ σ.n l i = some m := by
  intro i m hm
  have := h.dom i m hm
  simp [Mu.upd, hm, Nat.ne_of_lt this]
theorem BlkR.mono {μ μ' : Mu} {w : World} {B : ABlk} {l : Loc} (h : BlkR μ w B l) (hm : ∀ i l, μ i = some l → μ' i = some l) : BlkR μ' w B l := by
  obtain ⟨arr, el, fr, hb, hs, hlen, hrw, hc⟩ := h.ex
  exact ⟨arr, el, fr, hb, hs, hlen, hrw, fun j a ha => let ⟨u, hu, hv⟩ := hc j a ha; ⟨u, hu, hv.mono hm⟩⟩
/-- A new block. -/
theorem Rel.alloc {μ : Mu} {σ : AHeap} {w : World} (h : Rel μ σ w) (cs : List AV) (us : List Value) (rest : List Value) (el : TypeId) (hv : VRs μ cs us) :
    Rel (μ.upd σ.n ⟨w.heap.size, 0, (us ++ rest).length⟩) (σ.push ⟨cs, true⟩) (w.alloc (.cells (us ++ rest).toArray el)) ∧
    Step μ σ w (μ.upd σ.n ⟨w.heap.size, 0, (us ++ rest).length⟩) (σ.push ⟨cs, true⟩) (w.alloc (.cells (us ++ rest).toArray el)) := by
  have hmono := h.upd_mono ⟨w.heap.size, 0, (us ++ rest).length⟩
  have hnew : (w.alloc (.cells (us ++ rest).toArray el)).heap[w.heap.size]? = some (.cells (us ++ rest).toArray el) := by
    show (w.heap.push _)[w.heap.size]? = _
    simp
  have hold : ∀ (b : Nat), b < w.heap.size → (w.alloc (.cells (us ++ rest).toArray el)).heap[b]? = w.heap[b]? := by
    intro b hb
    show (w.heap.push _)[b]? = _
    simp [Array.getElem?_push, Nat.ne_of_lt hb]
  have hblk : ∀ i B l, i ≠ σ.n → (σ.push ⟨cs, true⟩).get i = some B → (μ.upd σ.n ⟨w.heap.size, 0, (us ++ rest).length⟩) i = some l → σ.get i = some B ∧ μ i = some l := by
    intro i B l hi hB hl
    simp only [AHeap.push, Mu.upd, if_neg hi] at hB hl
    exact ⟨hB, hl⟩
  refine ⟨⟨?_, ?_, ?_⟩, ?_⟩
  · intro i l hl
    simp only [Mu.upd] at hl
    simp only [AHeap.push]
    split at hl
    · omega
    · have := h.dom i l hl; omega
  · intro i B l hB hl
    by_cases hi : i = σ.n
    · subst hi
      simp only [AHeap.push, Mu.upd, if_true, Option.some.injEq] at hB hl
      subst hB; subst hl
      refine ⟨_, _, _, hnew, by simp, by simp [hv.1], fun _ => rfl, ?_⟩
      intro j a ha
      obtain ⟨u, hu, hvr⟩ := hv.get ha
      have hj : j < us.length := (List.getElem?_eq_some_iff.1 hu).1
      exact ⟨u, by simp [List.getElem?_append_left hj, hu], hvr.mono hmono⟩
    · obtain ⟨hB, hl⟩ := hblk i B l hi hB hl
      obtain ⟨arr, el', fr, hb, rest'⟩ := ((h.blk i B l hB hl).mono hmono).ex
      exact ⟨arr, el', fr, (hold _ (h.blk i B l hB hl).lt).trans hb, rest'⟩
  · intro i j B C l m hij hB hC hrw hl hm
    by_cases hi : i = σ.n
    · have hj : j ≠ σ.n := fun e => hij (hi.trans e.symm)
      obtain ⟨hC, hm⟩ := hblk j C m hj hC hm
      subst hi
      simp only [Mu.upd, if_true, Option.some.injEq] at hl
      subst hl
      intro b o h1 h2
      have := (h.blk j C m hC hm).lt
      have e1 := h1.1; have e2 := h2.1
      dsimp only at e1
      omega
    · obtain ⟨hB, hl⟩ := hblk i B l hi hB hl
      by_cases hj : j = σ.n
      · subst hj
        simp only [Mu.upd, if_true, Option.some.injEq] at hm
        subst hm
        intro b o h1 h2
        have := (h.blk i B l hB hl).lt
        have e1 := h1.1; have e2 := h2.1
        dsimp only at e2
        omega
      · obtain ⟨hC, hm⟩ := hblk j C m hj hC hm
        exact h.sep i j B C l m hij hB hC hrw hl hm
  · refine ⟨rfl, rfl, rfl, by simp, by simp [AHeap.push], ?_, ?_, ?_, ?_, ?_, ?_⟩
    · intro i hi; simp [Mu.upd, Nat.ne_of_lt hi]
    · rintro b o hb ⟨i, B, l, hB, hrw, hl, h1⟩
      by_cases hi : i = σ.n
      · subst hi
        simp only [Mu.upd, if_true, Option.some.injEq] at hl
        subst hl
        have := h1.1
        dsimp only at this
        omega
      · obtain ⟨hB, hl⟩ := hblk i B l hi hB hl
        exact ⟨i, B, l, hB, hrw, hl, h1⟩
    · intro b arr el' fr hb
      exact ⟨arr, (hold _ (Array.getElem?_eq_some_iff.1 hb).1).trans hb, rfl, fun _ _ => rfl⟩
    · intro i B hi hB hr
      rw [AHeap.push_get, if_neg (Nat.ne_of_lt hi)] at hB
      exact ⟨B, hB, hr⟩
    · intro i B hi hi' hB
      have : i = σ.n := by rw [AHeap.push_n] at hi'; omega
      rw [AHeap.push_get, if_pos this] at hB
      cases hB; rfl
    · intro b ob hb _
      exact (hold _ (Array.getElem?_eq_some_iff.1 hb).1).trans hb
/-- A block's cells written anew, its row being the whole world's. -/
theorem Rel.write {μ : Mu} {σ : AHeap} {w w' : World} (h : Rel μ σ w) {i : Nat} {B : ABlk} {l : Loc} (hB : σ.get i = some B) (hrw : B.rw = true) (hl : μ i = some l)
    (cs : List AV) {arr arr' : Array Value} {el : TypeId} {fr : Nat × Nat} (harr : w.heap[l.b]? = some (.cells arr el fr)) (harr' : w'.heap[l.b]? = some (.cells arr' el fr)) (hsize : arr'.size = arr.size)
    (hlen : cs.length ≤ l.c)
    (hin : ∀ (j : Nat) (a : AV), cs[j]? = some a → ∃ u, arr'[l.o + j]? = some u ∧ VR μ a u)
    (hout : ∀ o, o < l.o ∨ l.o + l.c ≤ o → arr'[o]? = arr[o]?)
    (hother : ∀ b, b ≠ l.b → w'.heap[b]? = w.heap[b]?) (hos : w'.os = w.os) (htape : w'.tape = w.tape) (houtput : w'.output = w.output) (hsz : w'.heap.size = w.heap.size) :
    Rel μ (σ.set i ⟨cs, true⟩) w' ∧ Step μ σ w μ (σ.set i ⟨cs, true⟩) w' := by
  have hget : ∀ j C, j ≠ i → (σ.set i ⟨cs, true⟩).get j = some C → σ.get j = some C := by
    intro j C hj hC
    simpa only [AHeap.set, if_neg hj] using hC
  refine ⟨⟨h.dom, ?_, ?_⟩, ?_⟩
  · intro j C m hC hm
    by_cases hj : j = i
    · subst hj
      rw [hl] at hm; cases hm
      simp only [AHeap.set, if_true, Option.some.injEq] at hC
      subst hC
      obtain ⟨arr0, el0, fr0, hb0, hs0, _, hfr0, _⟩ := (h.blk j B l hB hl).ex
      rw [harr] at hb0; cases hb0
      exact ⟨arr', el, fr, harr', by omega, hlen, fun _ => hfr0 hrw, hin⟩
    · have hC := hget j C hj hC
      obtain ⟨arr0, el0, fr0, hb0, hs0, hlen0, hfr0, hc0⟩ := (h.blk j C m hC hm).ex
      have hap := h.sep i j B C l m (Ne.symm hj) hB hC hrw hl hm
      by_cases hb : m.b = l.b
      · rw [hb, harr] at hb0; cases hb0
        refine ⟨arr', el, fr, hb ▸ harr', by omega, hlen0, hfr0, ?_⟩
        intro k a ha
        obtain ⟨u, hu, hv⟩ := hc0 k a ha
        refine ⟨u, ?_, hv⟩
        have hk : k < C.cells.length := (List.getElem?_eq_some_iff.1 ha).1
        rw [hout, hu]
        by_cases hq : l.o ≤ m.o + k ∧ m.o + k < l.o + l.c
        · exact absurd (⟨hb.symm, by omega, by omega⟩ : m.has l.b (m.o + k)) (hap l.b (m.o + k) ⟨rfl, hq.1, hq.2⟩)
        · omega
      · exact ⟨arr0, el0, fr0, (hother _ hb).trans hb0, hs0, hlen0, hfr0, hc0⟩
  · intro j k C D m n hjk hC hD hrw' hm hn
    have key : ∀ j C, (σ.set i ⟨cs, true⟩).get j = some C → ∃ C', σ.get j = some C' ∧ (C.rw = true → C'.rw = true) := by
      intro j C hC
      by_cases hj : j = i
      · subst hj; exact ⟨B, hB, fun _ => hrw⟩
      · exact ⟨C, hget j C hj hC, id⟩
    obtain ⟨C', hC', hCr⟩ := key j C hC
    obtain ⟨D', hD', _⟩ := key k D hD
    exact h.sep j k C' D' m n hjk hC' hD' (hCr hrw') hm hn
  · refine ⟨hos, htape, houtput, Nat.le_of_eq hsz.symm, Nat.le_refl _, fun _ _ => rfl, ?_, ?_, ?_, fun _ _ h h' => absurd h' (Nat.not_lt.2 h), ?_⟩
    · rintro b o _ ⟨j, C, m, hC, hr, hm, h1⟩
      by_cases hj : j = i
      · subst hj; exact ⟨j, B, m, hB, hrw, hm, h1⟩
      · exact ⟨j, C, m, hget j C hj hC, hr, hm, h1⟩
    · intro b arr0 el0 fr0 hb
      by_cases hbl : b = l.b
      · subst hbl
        rw [harr] at hb; cases hb
        refine ⟨arr', harr', hsize, fun o ho => hout o ?_⟩
        by_cases h1 : l.o ≤ o ∧ o < l.o + l.c
        · exact absurd ⟨i, B, l, hB, hrw, hl, rfl, h1.1, h1.2⟩ ho
        · omega
      · exact ⟨arr0, (hother b hbl).trans hb, rfl, fun _ _ => rfl⟩
    · intro j C _ hC hr
      by_cases hj : j = i
      · subst hj
        rw [AHeap.set_get, if_pos rfl] at hC
        cases hC; cases hr
      · exact ⟨C, hget j C hj hC, hr⟩
    · intro b ob hb hn
      have hbl : b ≠ l.b := by
        rintro rfl
        rw [harr] at hb; cases hb
        exact hn _ _ _ rfl
      exact (hother b hbl).trans hb
/-- A block forgotten. -/
theorem Rel.kill {μ : Mu} {σ : AHeap} {w : World} (h : Rel μ σ w) (i : Nat) : Rel μ (σ.kill i) w ∧ Step μ σ w μ (σ.kill i) w := by
  have hget : ∀ j C, (σ.kill i).get j = some C → σ.get j = some C := by
    intro j C hC
    simp only [AHeap.kill] at hC
    split at hC
    · cases hC
    · exact hC
  refine ⟨⟨h.dom, fun j C m hC hm => h.blk j C m (hget j C hC) hm, fun j k C D m n hjk hC hD => h.sep j k C D m n hjk (hget j C hC) (hget k D hD)⟩, ?_⟩
  refine ⟨rfl, rfl, rfl, Nat.le_refl _, Nat.le_refl _, fun _ _ => rfl, ?_, fun _ arr _ _ h => ⟨arr, h, rfl, fun _ _ => rfl⟩, fun j C _ hC hr => ⟨C, hget j C hC, hr⟩, fun _ _ h h' => absurd h' (Nat.not_lt.2 h), fun _ _ h _ => h⟩
  rintro b o _ ⟨j, C, m, hC, rest⟩
  exact ⟨j, C, m, hget j C hC, rest⟩
/-- A block's tail under a new name, the old name forgotten. -/
theorem Rel.move {μ : Mu} {σ : AHeap} {w : World} (h : Rel μ σ w) {i : Nat} {B : ABlk} {l : Loc} (hB : σ.get i = some B) (hrw : B.rw = true) (hl : μ i = some l)
    (k c : Nat) (hc : k + c ≤ l.c) (hk : k ≤ B.cells.length) (hlen : B.cells.length ≤ k + c) :
    Rel (μ.upd σ.n ⟨l.b, l.o + k, c⟩) ((σ.kill i).push ⟨B.cells.drop k, true⟩) w ∧ Step μ σ w (μ.upd σ.n ⟨l.b, l.o + k, c⟩) ((σ.kill i).push ⟨B.cells.drop k, true⟩) w := by
  have hmono := h.upd_mono ⟨l.b, l.o + k, c⟩
  have hblk : ∀ j C m, j ≠ σ.n → ((σ.kill i).push ⟨B.cells.drop k, true⟩).get j = some C → (μ.upd σ.n ⟨l.b, l.o + k, c⟩) j = some m → j ≠ i ∧ σ.get j = some C ∧ μ j = some m := by
    intro j C m hj hC hm
    simp only [Mu.upd, if_neg hj] at hm
    rw [AHeap.push_get, AHeap.kill_n, if_neg hj, AHeap.kill_get] at hC
    split at hC
    · cases hC
    · rename_i hji; exact ⟨hji, hC, hm⟩
  obtain ⟨arr, el, fr, hb, hs, hlen0, hfr, hcell⟩ := (h.blk i B l hB hl).ex
  refine ⟨⟨?_, ?_, ?_⟩, ?_⟩
  · intro j m hm
    simp only [Mu.upd] at hm
    simp only [AHeap.push, AHeap.kill]
    split at hm
    · omega
    · have := h.dom j m hm; omega
  · intro j C m hC hm
    by_cases hj : j = σ.n
    · subst hj
      simp only [AHeap.push, AHeap.kill, Mu.upd, if_true, Option.some.injEq] at hC hm
      subst hC; subst hm
      refine ⟨arr, el, fr, hb, by dsimp only; omega, by simp; omega, fun _ => hfr hrw, ?_⟩
      intro q a ha
      obtain ⟨u, hu, hv⟩ := hcell (k + q) a (by simpa [List.getElem?_drop] using ha)
      exact ⟨u, by rw [Nat.add_assoc]; exact hu, hv.mono hmono⟩
    · obtain ⟨_, hC, hm⟩ := hblk j C m hj hC hm
      exact (h.blk j C m hC hm).mono hmono
  · intro j q C D m n hjq hC hD hr hm hn
    by_cases hj : j = σ.n
    · have hq : q ≠ σ.n := fun e => hjq (hj.trans e.symm)
      obtain ⟨hqi, hD, hn⟩ := hblk q D n hq hD hn
      subst hj
      simp only [Mu.upd, if_true, Option.some.injEq] at hm
      subst hm
      intro b o h1 h2
      refine h.sep i q B D l n (Ne.symm hqi) hB hD hrw hl hn b o ?_ h2
      simp only [Loc.has] at h1 ⊢
      omega
    · obtain ⟨hji, hC, hm⟩ := hblk j C m hj hC hm
      by_cases hq : q = σ.n
      · subst hq
        simp only [Mu.upd, if_true, Option.some.injEq] at hn
        subst hn
        intro b o h1 h2
        refine h.sep j i C B m l hji hC hB hr hm hl b o h1 ?_
        simp only [Loc.has] at h2 ⊢
        omega
      · obtain ⟨_, hD, hn⟩ := hblk q D n hq hD hn
        exact h.sep j q C D m n hjq hC hD hr hm hn
  · refine ⟨rfl, rfl, rfl, Nat.le_refl _, by simp [AHeap.push, AHeap.kill], ?_, ?_, fun _ arr _ _ h => ⟨arr, h, rfl, fun _ _ => rfl⟩, ?_, ?_, fun _ _ h _ => h⟩
    rotate_right 2
    · intro j C hj hC hr
      rw [AHeap.push_get, AHeap.kill_n, if_neg (Nat.ne_of_lt hj), AHeap.kill_get] at hC
      split at hC
      · cases hC
      · exact ⟨C, hC, hr⟩
    · intro j C hj hj' hC
      have : j = σ.n := by rw [AHeap.push_n, AHeap.kill_n] at hj'; omega
      rw [AHeap.push_get, AHeap.kill_n, if_pos this] at hC
      cases hC; rfl
    · intro j hj; simp [Mu.upd, Nat.ne_of_lt hj]
    · rintro b o _ ⟨j, C, m, hC, hr, hm, h1⟩
      by_cases hj : j = σ.n
      · subst hj
        simp only [Mu.upd, if_true, Option.some.injEq] at hm
        subst hm
        exact ⟨i, B, l, hB, hrw, hl, by simp only [Loc.has] at h1 ⊢; omega⟩
      · obtain ⟨_, hC, hm⟩ := hblk j C m hj hC hm
        exact ⟨j, C, m, hC, hr, hm, h1⟩
theorem AHeap.set_kill (σ : AHeap) (i : Nat) (B : ABlk) : (σ.set i B).kill i = σ.kill i := by
  unfold AHeap.set AHeap.kill
  congr 1
  funext j
  dsimp only
  split <;> rfl
end AH
/- THE ABSTRACT MACHINE: each operation that calls no function does in the world what it does in the abstract memory. -/
namespace AH
open Go
/-- What an operation is to come to. -/
def OpR (P : Program) (μ : Mu) (σ : AHeap) (w : World) (s : Sem Next) (v : AV) (σ' : AHeap) : Prop :=
  ∃ r u w' μ', s.run P w = .ok r w' ∧ (r = .value u ∨ r = .skip ∧ u = undef) ∧ VR μ' v u ∧ Rel μ' σ' w' ∧ Step μ σ w μ' σ' w'
def SemR (P : Program) (μ : Mu) (σ : AHeap) (w : World) (s : Sem Value) (v : AV) (σ' : AHeap) : Prop :=
  ∃ u w' μ', s.run P w = .ok u w' ∧ VR μ' v u ∧ Rel μ' σ' w' ∧ Step μ σ w μ' σ' w'
section
variable {P : Program} {μ : Mu} {σ σ' : AHeap} {w : World} {v : AV}
theorem SemR.op {s : Sem Value} (h : SemR P μ σ w s v σ') : OpR P μ σ w (do pure (.value (← s))) v σ' := by
  obtain ⟨u, w', μ', hr, hv, hR, hS⟩ := h
  exact ⟨.value u, u, w', μ', by simp [hr], .inl rfl, hv, hR, hS⟩
theorem SemR.quiet {s : Sem Value} {u : Value} (hR : Rel μ σ w) (hr : s.run P w = .ok u w) (hv : VR μ v u) : SemR P μ σ w s v σ :=
  ⟨u, w, μ, hr, hv, hR, Step.refl _ _ _⟩
theorem run_underlying' {t : TypeId} {d : TypeDesc} (h : P.underlying t = some d) (w : World) : (underlying t).run P w = .ok d w := by
  simp [underlying, h]
theorem run_typeInfo' {t : TypeId} {i : TypeInfo} (h : P.info? t = some i) (w : World) : (typeInfo t).run P w = .ok i w := by
  simp [typeInfo, h]
theorem run_sizeOf' {t : TypeId} {i : TypeInfo} (h : P.info? t = some i) (w : World) : (Go.sizeOf t).run P w = .ok i.size w := by
  simp [Go.sizeOf, run_typeInfo' h]
theorem add_lit (b o k : Nat) : (⟨b, o, none⟩ : Addr).add k = ⟨b, o + k, none⟩ := by
  unfold Addr.add; split <;> simp_all
theorem tyAgg_some {t : TypeId} {g : Bool} {n : Nat} (h : tyAgg P t = some (g, n)) : ∃ d i, P.underlying t = some d ∧ P.info? t = some i ∧ isAggD d = g ∧ i.size = n := by
  unfold tyAgg at h
  split at h
  · rename_i d i hd hi
    simp at h
    exact ⟨d, i, hd, hi, h.1, h.2⟩
  · cases h
theorem run_isAgg {t : TypeId} {d : TypeDesc} (h : P.underlying t = some d) (w : World) : (isAgg t).run P w = .ok (isAggD d) w := by
  unfold isAgg
  simp only [Sem.run_bind, run_underlying' h, Result.andThen_ok]
  cases d <;> rfl
theorem tySlice_some {t : TypeId} {e b : Nat} {z : List AV} (h : tySlice P t = some (e, b, z)) :
    ∃ el i zv, P.underlying t = some (.slice el) ∧ P.info? el = some i ∧ i.zero = some zv ∧ i.size = e ∧ i.bytes = b ∧ zv.cells.size = e ∧ 0 < e ∧ z = zv.cells.toList.map ofCell := by
  unfold tySlice at h
  split at h
  · rename_i el hu
    split at h
    · rename_i i hi
      split at h
      · rename_i zv hz
        split at h
        · rename_i hc
          simp at h
          exact ⟨el, i, zv, hu, hi, hz, h.1, h.2.1, hc.1.trans h.1, h.1 ▸ hc.2, h.2.2.symm⟩
        · cases h
      · cases h
    · cases h
  · cases h
/-! ### load, store -/
/-- A computation that leaves the world as it is. -/
def SemQ (P : Program) (μ : Mu) (w : World) (s : Sem Value) (v : AV) : Prop := ∃ u, s.run P w = .ok u w ∧ VR μ v u
theorem SemQ.mk' {s : Sem Value} {u : Value} (hr : s.run P w = .ok u w) (hv : VR μ v u) : SemQ P μ w s v := ⟨u, hr, hv⟩
theorem SemQ.toR {s : Sem Value} (hR : Rel μ σ w) (h : SemQ P μ w s v) : SemR P μ σ w s v σ := let ⟨_, hr, hv⟩ := h; SemR.quiet hR hr hv
theorem load_quiet (hR : Rel μ σ w) {t : TypeId} {a : AV} {u : Value} (ha : VR μ a u) (h : aload P t a σ = some v) :
    SemQ P μ w (Instr.loadAt t u) v := by
  unfold aload at h
  split at h
  next i k =>
    cases ha
    rename_i l hl
    split at h
    next B n hB ht =>
      split at h
      next hk =>
        cases h
        obtain ⟨d, inf, hd, hi, hag, hsz⟩ := tyAgg_some ht
        obtain ⟨us, hus, hc⟩ := (hR.blk i B l hB hl).rows
        have hrow := (hus.drop k).take n
        have hlen : ((us.drop k).take n).length = n := by rw [← hrow.1]; simp; omega
        have hr := run_loadCells_list (P := P) w ⟨l.b, l.o + k, none⟩ ((us.drop k).take n) (by
          intro j x hx
          rw [add_lit, Nat.add_assoc]
          apply hc
          rw [List.getElem?_take] at hx
          split at hx
          · simpa [List.getElem?_drop] using hx
          · cases hx)
        rw [hlen] at hr
        refine SemQ.mk' (u := .agg ((us.drop k).take n).toArray) ?_ hrow.agg
        simp [Instr.loadAt, Instr.sureAddr, loadVar, run_isAgg hd, hag, run_sizeOf' hi, hsz, hr]
      next => cases h
    next B n hB ht =>
      obtain ⟨d, inf, hd, hi, hag, hsz⟩ := tyAgg_some ht
      obtain ⟨us, hus, hc⟩ := (hR.blk i B l hB hl).rows
      obtain ⟨x, hx, hv⟩ := hus.get h
      refine SemQ.mk' (u := x) ?_ hv
      have := hc k x hx
      simp [Instr.loadAt, Instr.sureAddr, loadVar, run_isAgg hd, hag, this]
    next => cases h
  next => cases h
theorem load_sound (hR : Rel μ σ w) {t : TypeId} {a : AV} {u : Value} (ha : VR μ a u) (h : aload P t a σ = some v) :
    SemR P μ σ w (Instr.loadAt t u) v σ := (load_quiet hR ha h).toR hR
theorem store_sound (hR : Rel μ σ w) {t : TypeId} {a x : AV} {u y : Value} (ha : VR μ a u) (hx : VR μ x y) (h : astore P t a x σ = some σ') :
    ∃ w', (Instr.storeAt t u y).run P w = .ok () w' ∧ Rel μ σ' w' ∧ Step μ σ w μ σ' w' := by
  unfold astore at h
  split at h
  next i k vs g n hvs ht =>
    cases ha
    rename_i l hl
    split at h
    next B hB =>
      split at h
      next hc =>
        cases h
        obtain ⟨hrw, hn, hk, hone⟩ := hc
        obtain ⟨d, inf, hd, hi, hag, hsz⟩ := tyAgg_some ht
        have hys := hx.cells hvs
        obtain ⟨arr, el, fr, hb, hs, hlen, hfr, hcell⟩ := (hR.blk i B l hB hl).ex
        have hfr0 := hfr hrw
        subst hfr0
        have hst := run_storeCells_at P l.b (l.o + k) el y.cells.toList 0 arr w hb (by rw [← hys.1]; omega) (hys.oneCells hone)
        have hysz : y.cells.size = n := by have := hys.1; simp at this; omega
        refine ⟨w.setRow l.b (arr.toList.take (l.o + k + 0) ++ y.cells.toList ++ arr.toList.drop (l.o + k + 0 + y.cells.toList.length)).toArray, ?_, ?_⟩
        · simp only [Instr.storeAt, Instr.sureAddr, storeVar, Sem.run_bind, Sem.run_pure, Result.andThen_ok, run_sizeOf' hi, hysz, hsz, ne_eq, not_true, if_false]
          simpa using hst
        · have hyl : y.cells.toList.length = n := by simp [hysz]
          have hnew := setRow_heap w l.b arr (arr.toList.take (l.o + k + 0) ++ y.cells.toList ++ arr.toList.drop (l.o + k + 0 + y.cells.toList.length)).toArray el (0, 0) hb
          have hget : ∀ o, (arr.toList.take (l.o + k + 0) ++ y.cells.toList ++ arr.toList.drop (l.o + k + 0 + y.cells.toList.length)).toArray[o]? =
              if l.o + k ≤ o ∧ o < l.o + k + n then y.cells.toList[o - (l.o + k)]? else arr[o]? := by
            intro o
            simp only [List.getElem?_toArray, List.getElem?_append, List.length_append, List.length_take, Array.length_toList, List.getElem?_take, List.getElem?_drop, hyl, Nat.add_zero]
            have hmin : min (l.o + k) arr.size = l.o + k := by omega
            rw [hmin]
            by_cases h1 : o < l.o + k
            · rw [if_pos (by omega), if_pos h1, if_pos h1, if_neg (by omega)]; simp
            · by_cases h2 : o < l.o + k + n
              · rw [if_pos (by omega), if_neg h1, if_pos (by omega)]
              · rw [if_neg (by omega), if_neg (by omega), show l.o + k + n + (o - (l.o + k + n)) = o by omega]; simp
          refine hR.write hB hrw hl (splice B.cells k vs) hb hnew ?_ ?_ ?_ ?_ ?_ rfl rfl rfl (by simp [World.setRow])
          · simp; omega
          · unfold splice; simp; omega
          · intro j a ha
            unfold splice at ha
            rw [hget]
            have hj : j < B.cells.length := by
              have := (List.getElem?_eq_some_iff.1 ha).1
              simp at this; omega
            simp only [List.getElem?_append, List.length_append, List.length_take, List.getElem?_take, List.getElem?_drop, hn] at ha
            have hmin : min k B.cells.length = k := by omega
            rw [hmin] at ha
            by_cases h1 : j < k
            · rw [if_pos (by omega), if_pos h1, if_pos h1] at ha
              rw [if_neg (by omega)]
              exact hcell j a ha
            · by_cases h2 : j < k + n
              · rw [if_pos (by omega), if_neg h1] at ha
                rw [if_pos (by omega), show l.o + j - (l.o + k) = j - k by omega]
                exact hys.get ha
              · rw [if_neg (by omega), show k + n + (j - (k + n)) = j by omega] at ha
                rw [if_neg (by omega)]
                exact hcell j a ha
          · intro o ho
            rw [hget, if_neg (by omega)]
          · intro b hb'
            exact setRow_other w l.b b _ hb'
      next => cases h
    next => cases h
  next => cases h
/-! ### new blocks -/
theorem alloc_sound (hR : Rel μ σ w) (cs : List AV) (us rest : List Value) (el : TypeId) (hv : VRs μ cs us) :
    ∃ μ', (newRow el (us ++ rest).toArray).run P w = .ok ⟨w.heap.size, 0, none⟩ (w.alloc (.cells (us ++ rest).toArray el)) ∧
      μ' σ.n = some ⟨w.heap.size, 0, (us ++ rest).length⟩ ∧ (∀ i l, μ i = some l → μ' i = some l) ∧
      Rel μ' (σ.push ⟨cs, true⟩) (w.alloc (.cells (us ++ rest).toArray el)) ∧ Step μ σ w μ' (σ.push ⟨cs, true⟩) (w.alloc (.cells (us ++ rest).toArray el)) := by
  obtain ⟨h1, h2⟩ := hR.alloc cs us rest el hv
  exact ⟨_, rfl, by simp [Mu.upd], hR.upd_mono _, h1, h2⟩
/-- An allocation: the value at whatever name the block gets, and the block's cells. -/
def AllocR (P : Program) (μ : Mu) (w : World) (s : Sem Value) (f : Nat → AV) (cs : List AV) : Prop :=
  ∃ u us rest el, s.run P w = .ok u (w.alloc (.cells (us ++ rest).toArray el)) ∧ VRs μ cs us ∧
    ∀ (y : Nat) (μ' : Mu), μ' y = some ⟨w.heap.size, 0, (us ++ rest).length⟩ → VR μ' (f y) u
theorem AllocR.toR (hR : Rel μ σ w) {s : Sem Value} {f : Nat → AV} {cs : List AV} (h : AllocR P μ w s f cs) : SemR P μ σ w s (f σ.n) (σ.push ⟨cs, true⟩) := by
  obtain ⟨u, us, rest, el, hr, hv, hf⟩ := h
  obtain ⟨h1, h2⟩ := hR.alloc cs us rest el hv
  exact ⟨u, _, _, hr, hf _ _ (by simp [Mu.upd]), h1, h2⟩
theorem tyZero_some {t : TypeId} {z : List AV} (h : tyZero P t = some z) : ∃ i zv, P.info? t = some i ∧ i.zero = some zv ∧ z = zv.cells.toList.map ofCell := by
  unfold tyZero at h
  split at h
  · rename_i i hi
    split at h
    · rename_i zv hz
      simp at h
      exact ⟨i, zv, hi, hz, h.symm⟩
    · cases h
  · cases h
theorem box_alloc {el : TypeId} {x : AV} {y : Value} {cs : List AV} (hx : VR μ x y) (hc : x.cells = some cs) :
    AllocR P μ w (Instr.box el y) (fun n => .ptr n 0) cs := by
  refine ⟨.pointer (some ⟨w.heap.size, 0, none⟩), y.cells.toList, [], el, ?_, hx.cells hc, fun n μ' h => .ptr n 0 _ h⟩
  simp only [Instr.box, newVar, Sem.run_bind, Sem.run_pure, List.append_nil, Array.toArray_toList]
  rfl
theorem alloc_alloc {el : TypeId} {z : List AV} (hz : tyZero P el = some z) :
    AllocR P μ w (Instr.alloc el true (.tuple #[])) (fun n => .ptr n 0) z := by
  obtain ⟨i, zv, hi, hzv, rfl⟩ := tyZero_some hz
  refine ⟨.pointer (some ⟨w.heap.size, 0, none⟩), zv.cells.toList, [], el, ?_, VRs_ofCell μ _, fun n μ' h => .ptr n 0 _ h⟩
  simp only [Instr.alloc, zeroValue, Sem.run_bind, run_typeInfo' hi, Result.andThen_ok, hzv, Sem.run_pure, newVar, List.append_nil, Array.toArray_toList]
  rfl
/-! ### structs and slices that are built -/
theorem fold_splice (cells : Array Value) (off : Nat) (vs : List Value) (h : off + vs.length ≤ cells.size) :
    (vs.toArray.zipIdx.foldl (fun cs (c, j) => cs.setIfInBounds (off + j) c) cells).toList = splice cells.toList off vs := by
  rw [← Array.foldl_toList]
  have key : ∀ (vs : List Value) (n : Nat) (cells : Array Value), off + n + vs.length ≤ cells.size →
      ((vs.zipIdx n).foldl (fun (cs : Array Value) (p : Value × Nat) => cs.setIfInBounds (off + p.2) p.1) cells).toList = splice cells.toList (off + n) vs := by
    intro vs
    induction vs with
    | nil => intro n cells _; simp [splice]
    | cons v vs ih =>
      intro n cells h
      simp only [List.length_cons] at h
      simp only [List.zipIdx_cons, List.foldl_cons]
      rw [ih (n + 1) _ (by simp; omega)]
      unfold splice
      have e := list_seg_step cells.toList (off + n) v vs (by simp; omega)
      simpa [Array.toList_setIfInBounds, Nat.add_assoc] using e
  have := key vs 0 cells (by simpa using h)
  simpa [Array.toList_zipIdx] using this
theorem fill_sound {place place' : Nat → Option (Nat × Nat)} (hp : ∀ i p, place i = some p → place' i = some p) :
    ∀ (parts : List (Nat × AV)) (parts' : List (Nat × Value)) (cells : List AV) (cells' : Array Value) (out : List AV),
      parts.length = parts'.length → (∀ (j : Nat) (p : Nat × AV) (q : Nat × Value), parts[j]? = some p → parts'[j]? = some q → p.1 = q.1 ∧ VR μ p.2 q.2) →
      VRs μ cells cells'.toList → afill place cells parts = some out → ∃ out', Instr.fill place' cells' parts' = some out' ∧ VRs μ out out'.toList ∧ out'.size = cells'.size := by
  intro parts
  induction parts with
  | nil =>
    intro parts' cells cells' out hl _ hc h
    cases parts' with
    | nil => simp [afill] at h; subst h; exact ⟨cells', rfl, hc, rfl⟩
    | cons _ _ => simp at hl
  | cons p parts ih =>
    intro parts' cells cells' out hl hq hc h
    cases parts' with
    | nil => simp at hl
    | cons q parts' =>
      obtain ⟨i, x⟩ := p
      obtain ⟨i', y⟩ := q
      obtain ⟨rfl, hxy⟩ := hq 0 (i, x) (i', y) rfl rfl
      simp only [afill] at h
      split at h
      next off size vs hpl hvs =>
        split at h
        next hcond =>
          have hys := hxy.cells hvs
          have hlen : cells.length = cells'.size := by have := hc.1; simpa using this
          have hysl : y.cells.size = vs.length := by have := hys.1; simp at this; omega
          have hfold := fold_splice cells' off y.cells.toList (by simp; omega)
          have hs : (y.cells.zipIdx.foldl (fun cs (c, j) => cs.setIfInBounds (off + j) c) cells').size = cells'.size := by
            have := congrArg List.length hfold
            simp only [Array.toArray_toList, Array.length_toList] at this
            rw [this]; unfold splice; simp; omega
          obtain ⟨out', h1, h2, h3⟩ := ih parts' (splice cells off vs) (y.cells.zipIdx.foldl (fun cs (c, j) => cs.setIfInBounds (off + j) c) cells') out (by simpa using hl)
            (fun j p q hp hq' => hq (j + 1) p q (by simpa using hp) (by simpa using hq'))
            (by
              have hfold' := hfold
              simp only [Array.toArray_toList] at hfold'
              rw [hfold']; exact hc.splice hys off) h
          refine ⟨out', ?_, h2, h3.trans hs⟩
          simp only [Instr.fill, hp _ _ hpl]
          rw [if_neg (by simp; omega)]
          exact h1
        next => cases h
      next => cases h
theorem parts_eval {ρ : Operand → AV} {ρ' : Operand → Value} (hρ : ∀ x, VR μ (ρ x) (ρ' x)) (parts : Array (Nat × Operand)) :
    (parts.toList.map fun (i, x) => (i, ρ x)).length = (parts.map fun (i, x) => (i, ρ' x)).toList.length ∧
    ∀ (j : Nat) (p : Nat × AV) (q : Nat × Value), (parts.toList.map fun (i, x) => (i, ρ x))[j]? = some p → (parts.map fun (i, x) => (i, ρ' x)).toList[j]? = some q → p.1 = q.1 ∧ VR μ p.2 q.2 := by
  refine ⟨by simp, fun j p q hp hq => ?_⟩
  simp only [Array.toList_map, List.getElem?_map] at hp hq
  cases hj : parts.toList[j]? with
  | none => simp [hj] at hp
  | some x =>
    simp only [hj, Option.map_some, Option.some.injEq] at hp hq
    subst hp; subst hq
    exact ⟨rfl, hρ _⟩
theorem mapM_places (P : Program) (w : World) : ∀ (fs : List Field) (pl : List (Nat × Nat)), fs.mapM (fun f => (P.info? f.type).map fun i => (f.offset, i.size)) = some pl →
    (fs.mapM (m := Sem) fun f => Prod.mk f.offset <$> Go.sizeOf f.type).run P w = .ok pl w := by
  intro fs
  induction fs with
  | nil => intro pl h; simp at h; subst h; simp
  | cons f fs ih =>
    intro pl h
    simp only [List.mapM_cons] at h
    cases hi : P.info? f.type with
    | none => simp [hi] at h
    | some i =>
      cases hm : fs.mapM (fun f => (P.info? f.type).map fun i => (f.offset, i.size)) with
      | none => simp [hi, hm] at h
      | some pl' =>
        simp [hi, hm] at h
        subst h
        have := ih pl' hm
        simp only [List.mapM_cons, Sem.run_bind, Sem.run_map, run_sizeOf' hi, Sem.run_pure, Result.andThen_ok, this]
theorem build_quiet {ρ : Operand → AV} {ρ' : Operand → Value} (hρ : ∀ x, VR μ (ρ x) (ρ' x)) {t : TypeId} {parts : Array (Nat × Operand)} {z : List AV} {pl : List (Nat × Nat)} {cs : List AV}
    (hz : tyZero P t = some z) (hpl : tyPlaces P t = some pl) (hf : afill (pl[·]?) z (parts.toList.map fun (i, x) => (i, ρ x)) = some cs) :
    SemQ P μ w (Instr.build t (parts.map fun (i, x) => (i, ρ' x))) (.agg cs) := by
  obtain ⟨i, zv, hi, hzv, rfl⟩ := tyZero_some hz
  unfold tyPlaces at hpl
  split at hpl
  next fs hu =>
    obtain ⟨hl, hq⟩ := parts_eval hρ parts
    have hm := mapM_places P w fs.toList pl hpl
    have hm' : (fs.mapM (m := Sem) fun f => Prod.mk f.offset <$> Go.sizeOf f.type).run P w = .ok pl.toArray w := by
      rw [show fs = fs.toList.toArray by simp, List.mapM_toArray]
      simp [hm]
    obtain ⟨out', h1, h2, _⟩ := fill_sound (μ := μ) (place := (pl[·]?)) (place' := (pl.toArray[·]?)) (fun i p hp => by simpa using hp) _ _ _ zv.cells cs hl hq (VRs_ofCell μ _) hf
    refine SemQ.mk' (u := .agg out') ?_ (by have := h2.agg; simpa using this)
    have h1' : Instr.fill (fun x => pl[x]?) zv.cells (parts.map fun (i, x) => (i, ρ' x)).toList = some out' := by simpa using h1
    simp only [Instr.build, zeroValue, Sem.run_bind, run_typeInfo' hi, Result.andThen_ok, hzv, Sem.run_pure, run_underlying' hu]
    simp only [bind_pure_comp, hm', Sem.run_bind, Result.andThen_ok, List.getElem?_toArray, h1', Sem.run_pure]
  next => cases hpl
theorem range_zero (z : Array Value) (len : Nat) (hz : 0 < z.size) :
    ((Array.range (len * z.size)).map (z[· % z.size]!)).toList = (List.replicate len z.toList).flatten := by
  apply List.ext_getElem
  · simp
  · intro j h1 h2
    simp only [Array.toList_map, Array.toList_range, List.getElem_map, List.getElem_range]
    have hj : j < len * z.size := by simpa using h1
    have hm : j % z.size < z.size := Nat.mod_lt _ hz
    have key : ∀ (len j : Nat) (h : j < (List.replicate len z.toList).flatten.length), (List.replicate len z.toList).flatten[j] = z[j % z.size]! := by
      intro len
      induction len with
      | zero => intro j h; simp at h
      | succ len ih =>
        intro j h
        simp only [List.replicate_succ, List.flatten_cons, List.getElem_append, Array.length_toList]
        split
        · rename_i hlt
          rw [Nat.mod_eq_of_lt hlt]
          simp [hlt]
        · rename_i hge
          rw [ih]
          rw [Nat.mod_eq_sub_mod (Nat.le_of_not_lt hge)]
    rw [key]
theorem VRs_replicate {μ : Mu} {cs : List AV} {us : List Value} (h : VRs μ cs us) (n : Nat) : VRs μ (List.replicate n cs).flatten (List.replicate n us).flatten := by
  induction n with
  | zero => exact VRs.nil μ
  | succ n ih => simp only [List.replicate_succ, List.flatten_cons]; exact h.append ih
theorem buildSlice_alloc {ρ : Operand → AV} {ρ' : Operand → Value} (hρ : ∀ x, VR μ (ρ x) (ρ' x)) {t : TypeId} {len : Nat} {parts : Array (Nat × Operand)} {e by' : Nat} {z cs : List AV}
    (ht : tySlice P t = some (e, by', z)) (hlen : len * e ≤ 16777216)
    (hf : afill (fun i => some (i * e, e)) (List.replicate len z).flatten (parts.toList.map fun (i, x) => (i, ρ x)) = some cs) :
    AllocR P μ w (Instr.buildSlice t len (parts.map fun (i, x) => (i, ρ' x))) (fun n => .sl n 0 len e) cs := by
  obtain ⟨el, i, zv, hu, hi, hz, he, _, hzs, hpos, rfl⟩ := tySlice_some ht
  obtain ⟨hl, hq⟩ := parts_eval hρ parts
  have hz0 : (if len * e = 0 then (pure #[] : Sem (Array Value)) else do pure (← zeroValue el).cells).run P w = .ok (if len * e = 0 then #[] else zv.cells) w := by
    split
    · rfl
    · simp [zeroValue, run_typeInfo' hi, hz]
  have hcells : ((Array.range (len * e)).map ((if len * e = 0 then #[] else zv.cells)[· % (if len * e = 0 then #[] else zv.cells).size]!)).toList = (List.replicate len zv.cells.toList).flatten := by
    by_cases h0 : len * e = 0
    · have hl0 : len = 0 := by
        rcases Nat.mul_eq_zero.1 h0 with h | h
        · exact h
        · omega
      subst hl0
      simp
    · simp only [h0, if_false]
      rw [← hzs]
      exact range_zero _ _ (by omega)
  obtain ⟨out', h1, h2, h3⟩ := fill_sound (μ := μ) (place := fun i => some (i * e, e)) (place' := fun i => some (i * e, e)) (fun i p hp => hp) _ _ _
    ((Array.range (len * e)).map ((if len * e = 0 then #[] else zv.cells)[· % (if len * e = 0 then #[] else zv.cells).size]!)) cs hl hq
    (by rw [hcells]; exact VRs_replicate (VRs_ofCell μ _) len) hf
  have hr : (newRow el out').run P w = .ok ⟨w.heap.size, 0, none⟩ (w.alloc (.cells out' el)) := rfl
  have hsize : out'.size = len * e := by rw [h3]; simp
  refine ⟨.slice (some ⟨w.heap.size, 0, none⟩) len len, out'.toList, [], el, ?_, h2, fun n μ' hn => .sl n 0 len e len _ 0 hn (Nat.le_refl _) (.inl ⟨rfl, by simp [hsize]⟩)⟩
  simp only [List.append_nil, Array.toArray_toList]
  have hbig : ¬ len * e > 2 ^ 24 := by simpa using hlen
  simp only [Instr.buildSlice, Sem.run_bind, run_underlying' hu, Result.andThen_ok, run_sizeOf' hi, he]
  rw [if_neg hbig]
  have h1' : Instr.fill (fun i => some (i * e, e)) ((Array.range (len * e)).map ((if len * e = 0 then #[] else zv.cells)[· % (if len * e = 0 then #[] else zv.cells).size]!)) (parts.map fun (i, x) => (i, ρ' x)).toList = some out' := h1
  by_cases h0 : len * e = 0
  · simp only [h0, ↓reduceIte] at h1' ⊢
    simp only [Sem.run_bind, Sem.run_pure, Result.andThen_ok, h1', hr]
  · simp only [h0, ↓reduceIte] at h1' ⊢
    simp only [Sem.run_bind, Sem.run_pure, Result.andThen_ok, zeroValue, run_typeInfo' hi, hz, h1', hr]
/-! ### slices: make, append, copy -/
theorem make_alloc {t : TypeId} {l c : AV} {u y : Value} (hl : VR μ l u) (hc : VR μ c y) (h : amake P t l c σ = some (v, σ')) :
    ∃ f cs, v = f σ.n ∧ σ' = σ.push ⟨cs, true⟩ ∧ (∀ τ, amake P t l c τ = some (f τ.n, τ.push ⟨cs, true⟩)) ∧ AllocR P μ w (Instr.makeSlice t u y) f cs := by
  unfold amake at h
  split at h
  next e by' z l c ht =>
    cases hl; cases hc
    split at h
    next hcond =>
      cases h
      obtain ⟨h0, h1, h2, h3⟩ := hcond
      obtain ⟨el, i, zv, hu, hi, hz, he, hby, hzs, hpos, rfl⟩ := tySlice_some ht
      have hl64 : IntKind.i64.wrap l = l := by simp [IntKind.wrap, IntKind.signed, IntKind.bits]; omega
      have hc64 : IntKind.i64.wrap c = c := by simp [IntKind.wrap, IntKind.signed, IntKind.bits]; omega
      have hz0 : (if c.toNat * e = 0 then (pure #[] : Sem (Array Value)) else do pure (← zeroValue el).cells).run P w = .ok (if c.toNat * e = 0 then #[] else zv.cells) w := by
        split
        · rfl
        · simp [zeroValue, run_typeInfo' hi, hz]
      have hcells : ((Array.range (c.toNat * e)).map ((if c.toNat * e = 0 then #[] else zv.cells)[· % (if c.toNat * e = 0 then #[] else zv.cells).size]!)).toList = (List.replicate c.toNat zv.cells.toList).flatten := by
        by_cases hq : c.toNat * e = 0
        · have hl0 : c.toNat = 0 := by
            rcases Nat.mul_eq_zero.1 hq with h | h
            · exact h
            · omega
          simp [hl0]
        · simp only [hq, if_false]
          rw [← hzs]
          exact range_zero _ _ (by omega)
      have hsplit : (List.replicate c.toNat zv.cells.toList).flatten = (List.replicate l.toNat zv.cells.toList).flatten ++ (List.replicate (c.toNat - l.toNat) zv.cells.toList).flatten := by
        rw [← List.flatten_append, List.replicate_append_replicate, show l.toNat + (c.toNat - l.toNat) = c.toNat by omega]
      have hr : (newRow el (List.replicate c.toNat zv.cells.toList).flatten.toArray).run P w = .ok ⟨w.heap.size, 0, none⟩ (w.alloc (.cells (List.replicate c.toNat zv.cells.toList).flatten.toArray el)) := rfl
      have hlen : (List.replicate c.toNat zv.cells.toList).flatten.length = c.toNat * e := by simp [hzs]
      refine ⟨fun n => .sl n 0 l.toNat e, _, rfl, rfl, fun τ => by simp only [amake, ht, h0, h1, h2, h3, and_self, if_true], .slice (some ⟨w.heap.size, 0, none⟩) l.toNat c.toNat,
        (List.replicate l.toNat zv.cells.toList).flatten, (List.replicate (c.toNat - l.toNat) zv.cells.toList).flatten, el, ?_, VRs_replicate (VRs_ofCell μ _) l.toNat,
        fun n μ' hn => .sl n 0 l.toNat e c.toNat _ 0 hn (by omega) (.inl ⟨rfl, by rw [← hsplit]; simp [hzs]⟩)⟩
      rw [← hsplit]
      have harr : (Array.range (c.toNat * e)).map ((if c.toNat * e = 0 then #[] else zv.cells)[· % (if c.toNat * e = 0 then #[] else zv.cells).size]!) = (List.replicate c.toNat zv.cells.toList).flatten.toArray := by
        apply Array.ext'; rw [hcells]
      rw [← harr] at hr ⊢
      have g1 : ¬ (c < 0) := by omega
      have g2 : ¬ ((by' : Int) * c > 2 ^ 48) := by omega
      have g3 : ¬ (l < 0) := by omega
      have g4 : ¬ (l > c) := by omega
      simp only [Instr.makeSlice, Sem.run_bind, run_underlying' hu, Result.andThen_ok, asInt, asIntOf, Sem.run_pure, run_typeInfo' hi, hl64, hc64, hby, g1, g2, g3, g4, decide_false, Bool.or_self, Bool.false_eq_true, if_false, run_askRoom, run_sizeOf' hi, he]
      by_cases hq : c.toNat * e = 0
      · simp only [hq, ↓reduceIte] at hr ⊢
        simp only [Sem.run_bind, Sem.run_pure, Result.andThen_ok, hr]
      · simp only [hq, ↓reduceIte] at hr ⊢
        simp only [Sem.run_bind, Sem.run_pure, Result.andThen_ok, zeroValue, run_typeInfo' hi, hz, hr]
    next => cases h
  next => cases h
theorem elems_sound (hR : Rel μ σ w) {e : Nat} {x : AV} {y : Value} {vs : List AV} {m : Nat} (hx : VR μ x y) (h : aelems e x σ = some vs) (hm : alen x = some m) :
    ∃ us, VRs μ vs us ∧ us.length = m * e ∧ (∀ u ∈ us, u.oneCell' = true) ∧
      ((y = .slice none 0 0 ∧ m = 0) ∨ ∃ a cap, y = .slice (some a) m cap ∧ ∀ (j : Nat) (u : Value), us[j]? = some u → w.cell? (a.add j) = some u) := by
  unfold aelems at h
  split at h
  next =>
    cases h; cases hx
    simp [alen] at hm
    subst hm
    exact ⟨[], VRs.nil μ, by simp, by simp, .inl ⟨rfl, rfl⟩⟩
  next j k n e' =>
    simp [alen] at hm
    subst hm
    cases hx
    rename_i cap l off hl hn ho
    split at h
    next h0 =>
      subst h0; cases h
      exact ⟨[], VRs.nil μ, by simp, by simp, .inr ⟨_, _, rfl, by simp⟩⟩
    next h0 =>
      split at h
      next B hB =>
        split at h
        next hc =>
          cases h
          obtain ⟨rfl, hk, hone⟩ := hc
          obtain ⟨us, hus, hcell⟩ := (hR.blk j B l hB hl).rows
          have hrow := (hus.drop k).take (n * e')
          rcases ho with ⟨rfl, _⟩ | h1
          · refine ⟨_, hrow, ?_, hrow.oneCells hone, .inr ⟨_, _, rfl, ?_⟩⟩
            · rw [← hrow.1]; simp; omega
            · intro q u hu
              rw [add_lit, Nat.add_assoc]
              apply hcell
              rw [List.getElem?_take] at hu
              split at hu
              · simpa [List.getElem?_drop] using hu
              · cases hu
          · omega
        next => cases h
      next => cases h
  next => cases h
theorem append_none_sound {t el : TypeId} {i : TypeInfo} (hu : P.underlying t = some (.slice el)) (hi : P.info? el = some i) (ty : TypeId)
    {y : Value} {base : Option Addr} {n cap : Nat} (hn : n ≤ cap) (hy : y = .slice none 0 0 ∨ ∃ a c, y = .slice (some a) 0 c) :
    (Builtin.append_ #[t, t] ty #[.slice base n cap, y]).run P w = .ok (.slice base n cap) w := by
  rcases hy with rfl | ⟨a, c, rfl⟩
  · cases base <;> simp [Builtin.append_, run_underlying' hu, run_sizeOf' hi, Builtin.lenOf, hn, Builtin.firstCells, storeCells]
  · cases base <;> simp [Builtin.append_, run_underlying' hu, run_sizeOf' hi, Builtin.lenOf, hn, Builtin.firstCells, loadCells, loadCellsFrom, storeCells]
theorem append_room_run {t el : TypeId} {i : TypeInfo} (hu : P.underlying t = some (.slice el)) (hi : P.info? el = some i) (ty : TypeId)
    {b off n cap m c : Nat} {a : Addr} {us : List Value} {arr : Array Value} {et : TypeId} (hb : w.heap[b]? = some (.cells arr et (0, 0)))
    (hus : us.length = m * i.size) (hcell : ∀ (j : Nat) (u : Value), us[j]? = some u → w.cell? (a.add j) = some u) (hone : ∀ u ∈ us, u.oneCell' = true)
    (hroom : n + m ≤ cap) (hfit : off + n * i.size + us.length ≤ arr.size) :
    (Builtin.append_ #[t, t] ty #[.slice (some ⟨b, off, none⟩) n cap, .slice (some a) m c]).run P w =
      .ok (.slice (some ⟨b, off, none⟩) (n + m) cap) (w.setRow b (splice arr.toList (off + n * i.size) us).toArray) := by
  have hf := run_firstCells_some (P := P) w i.size m a m c us hus hcell
  have hst := run_storeCells_at P b (off + n * i.size) et us 0 arr w hb (by simpa using hfit) hone
  simp only [Nat.add_zero] at hst
  simp [Builtin.append_, run_underlying' hu, run_sizeOf' hi, Builtin.lenOf, hroom, hf, add_lit, hst, splice]
theorem append_sound (hR : Rel μ σ w) {t : TypeId} (ty : TypeId) {s x : AV} {u y : Value} (hs : VR μ s u) (hx : VR μ x y) (h : aappend P t s x σ = some (v, σ')) :
    SemR P μ σ w (Builtin.append_ #[t, t] ty #[u, y]) v σ' := by
  unfold aappend at h
  split at h
  next => cases h
  next e by' z ht =>
    obtain ⟨el, i, zv, hu, hi, hz, he, hby, hzs, hpos, rfl⟩ := tySlice_some ht
    split at h
    next vs m hvs hm =>
      obtain ⟨us, hus, husl, hone, hy⟩ := elems_sound hR hx hvs hm
      split at h
      next =>
        cases hs
        split at h
        next h0 =>
          cases h
          refine SemR.quiet hR (append_none_sound hu hi ty (Nat.le_refl 0) ?_) .nils
          rcases hy with ⟨rfl, _⟩ | ⟨a, cap, rfl, _⟩
          · exact .inl rfl
          · subst h0; exact .inr ⟨a, cap, rfl⟩
        next h0 =>
          split at h
          next hc =>
            cases h
            rcases hy with ⟨_, h1⟩ | ⟨a, cap, rfl, hcell⟩
            · exact absurd h1 h0
            · have hr := run_append_nil (P := P) w t ty el i zv hu hi hz a m cap us (by rw [he]; exact husl) hcell (by omega) (by omega) (by have := hc.1; rw [hby]; omega)
              obtain ⟨μ', hr', hn, hmm, hR', hS⟩ := alloc_sound (P := P) hR.drew vs us (Builtin.zeroCells zv.cells (grownCap w m 0 el - m)).toList el hus
              have hge := grownCap_ge w m 0 el
              have harr : (us ++ (Builtin.zeroCells zv.cells (grownCap w m 0 el - m)).toList).toArray = us.toArray ++ Builtin.zeroCells zv.cells (grownCap w m 0 el - m) := by apply Array.ext'; simp
              rw [harr] at hR' hS
              refine ⟨_, _, μ', hr, ?_, hR', (Step.drew μ σ w).trans hS⟩
              refine .sl σ.n 0 m e _ _ 0 (by simpa using hn) hge (.inl ⟨rfl, ?_⟩)
              simp only [List.length_append, Array.length_toList, size_zeroCells, hzs, husl, Nat.zero_add, ← Nat.add_mul]
              exact Nat.mul_le_mul_right _ (by omega)
          next => cases h
      next bi k n e' =>
        have hs0 := hs
        cases hs
        rename_i cap l off hl hnc ho
        have hquiet : m = 0 → SemR P μ σ w (Builtin.append_ #[t, t] ty #[.slice (some ⟨l.b, off, none⟩) n cap, y]) (.sl bi k n e') σ := by
          intro h0
          refine SemR.quiet hR (append_none_sound hu hi ty hnc ?_) hs0
          rcases hy with ⟨rfl, _⟩ | ⟨a, cap, rfl, _⟩
          · exact .inl rfl
          · subst h0; exact .inr ⟨a, cap, rfl⟩
        split at h
        next B hB =>
            split at h
            next hc =>
              cases h
              obtain ⟨hrw, rfl, hk, hb1, hb2⟩ := hc
              by_cases h0 : m = 0
              · subst h0
                have hv0 : vs = [] := by
                  have := hus.1
                  rw [husl, Nat.zero_mul] at this
                  exact List.eq_nil_of_length_eq_zero this
                subst hv0
                rw [List.append_nil]
                have hrun := append_none_sound (P := P) (w := w) hu hi ty (base := some ⟨l.b, off, none⟩) (y := y) hnc (by
                  rcases hy with ⟨rfl, _⟩ | ⟨a, cap, rfl, _⟩
                  · exact .inl rfl
                  · exact .inr ⟨a, cap, rfl⟩)
                have hlenc : B.cells.length ≤ l.c := by
                  obtain ⟨arr, et, fr, _, _, hlen, _⟩ := (hR.blk bi B l hB hl).ex
                  exact hlen
                rcases ho with ⟨rfl, hkc⟩ | hcap
                · have hmul : n * e' ≤ cap * e' := Nat.mul_le_mul_right _ hnc
                  obtain ⟨hR2, hS2⟩ := hR.move hB hrw hl k (cap * e') hkc (by omega) (by omega)
                  exact ⟨_, _, _, hrun, .sl σ.n 0 n e' cap ⟨l.b, l.o + k, cap * e'⟩ (l.o + k) (by simp [Mu.upd]) hnc (.inl ⟨rfl, by simp⟩), hR2, hS2⟩
                · have hn0 : n = 0 := by omega
                  subst hn0
                  rw [Nat.zero_mul] at hk
                  obtain ⟨hR2, hS2⟩ := hR.move hB hrw hl k 0 (by omega) (by omega) (by omega)
                  exact ⟨_, _, _, hrun, .sl σ.n 0 0 e' cap ⟨l.b, l.o + k, 0⟩ off (by simp [Mu.upd]) hnc (.inr hcap), hR2, hS2⟩
              rcases hy with ⟨_, h1⟩ | ⟨a, ca, rfl, hcell⟩
              · exact absurd h1 h0
              · by_cases hroom : n + m ≤ cap
                · have ho : off = l.o + k ∧ k + cap * e' ≤ l.c := by
                    rcases ho with h1 | h1
                    · exact h1
                    · omega
                  obtain ⟨rfl, hkc⟩ := ho
                  obtain ⟨arr, et, fr, hb, hsz, hlen, hfr, hcl⟩ := (hR.blk bi B l hB hl).ex
                  have hfr0 := hfr hrw
                  subst hfr0
                  have hmul : (n + m) * e' ≤ cap * e' := Nat.mul_le_mul_right _ hroom
                  rw [Nat.add_mul] at hmul
                  have hfit : l.o + B.cells.length + us.length ≤ arr.size := by rw [husl]; omega
                  have hsp : (splice arr.toList (l.o + B.cells.length) us).toArray.size = arr.size := by unfold splice; simp; omega
                  have hr := append_room_run (P := P) hu hi ty (off := l.o + k) (n := n) (cap := cap) (c := ca) hb (by rw [he]; exact husl) hcell hone hroom (by rw [he]; omega)
                  rw [he, show l.o + k + n * e' = l.o + B.cells.length by omega] at hr
                  have hnew := setRow_heap w l.b arr (splice arr.toList (l.o + B.cells.length) us).toArray et (0, 0) hb
                  have hvl : vs.length = m * e' := by rw [hus.1, husl]
                  have hget : ∀ o, (splice arr.toList (l.o + B.cells.length) us).toArray[o]? =
                      if l.o + B.cells.length ≤ o ∧ o < l.o + B.cells.length + us.length then us[o - (l.o + B.cells.length)]? else arr[o]? := by
                    intro o
                    unfold splice
                    simp only [List.getElem?_toArray, List.getElem?_append, List.length_append, List.length_take, Array.length_toList, List.getElem?_take, List.getElem?_drop]
                    rw [show min (l.o + B.cells.length) arr.size = l.o + B.cells.length by omega]
                    by_cases h1 : o < l.o + B.cells.length
                    · rw [if_pos (by omega), if_pos h1, if_pos h1, if_neg (by omega)]; simp
                    · by_cases h2 : o < l.o + B.cells.length + us.length
                      · rw [if_pos (by omega), if_neg h1, if_pos (by omega)]
                      · rw [if_neg (by omega), if_neg (by omega), show l.o + B.cells.length + us.length + (o - (l.o + B.cells.length + us.length)) = o by omega]; simp
                  obtain ⟨hR1, hS1⟩ := hR.write hB hrw hl (B.cells ++ vs) hb hnew hsp (by rw [List.length_append, hvl]; omega)
                    (by
                      intro j q hq
                      rw [hget]
                      by_cases hj : j < B.cells.length
                      · rw [List.getElem?_append_left hj] at hq
                        rw [if_neg (by omega)]
                        exact hcl j q hq
                      · rw [List.getElem?_append_right (by omega)] at hq
                        obtain ⟨u', hu', hv'⟩ := hus.get hq
                        have := (List.getElem?_eq_some_iff.1 hu').1
                        rw [if_pos (by omega), show l.o + j - (l.o + B.cells.length) = j - B.cells.length by omega]
                        exact ⟨u', hu', hv'⟩)
                    (by intro o ho; rw [hget, if_neg (by omega)])
                    (fun b hb' => setRow_other w l.b b _ hb') rfl rfl rfl (by simp [World.setRow])
                  have hB1 : (σ.set bi ⟨B.cells ++ vs, true⟩).get bi = some ⟨B.cells ++ vs, true⟩ := by simp [AHeap.set]
                  obtain ⟨hR2, hS2⟩ := hR1.move hB1 rfl hl k (cap * e') hkc (by simp; omega) (by simp; omega)
                  rw [AHeap.set_kill, show (B.cells ++ vs).drop k = B.cells.drop k ++ vs by rw [List.drop_append_of_le_length (by omega)]] at hR2 hS2
                  refine ⟨_, _, _, hr, ?_, hR2, hS1.trans hS2⟩
                  refine .sl σ.n 0 (n + m) e' cap ⟨l.b, l.o + k, cap * e'⟩ (l.o + k) (by simp [Mu.upd, AHeap.set]) hroom (.inl ⟨rfl, by simp⟩)
                · obtain ⟨ws, hws, hwc⟩ := (hR.blk bi B l hB hl).rows
                  have hold := hws.drop k
                  have holdl : (ws.drop k).length = n * e' := by rw [← hold.1]; simp; omega
                  have hoff : ∀ (j : Nat) (u : Value), (ws.drop k)[j]? = some u → w.cell? ((⟨l.b, off, none⟩ : Addr).add j) = some u := by
                    intro j u hu'
                    rcases ho with ⟨rfl, _⟩ | h1
                    · rw [add_lit, Nat.add_assoc]
                      exact hwc _ _ (by simpa [List.getElem?_drop] using hu')
                    · have : n = 0 := by omega
                      subst this
                      have := (List.getElem?_eq_some_iff.1 hu').1
                      omega
                  have hr := run_append_grow (P := P) w t ty el i zv hu hi hz ⟨l.b, off, none⟩ n cap (ws.drop k) (by rw [he]; exact holdl) hoff a m ca us (by rw [he]; exact husl) hcell (by omega) (by omega) (growslice_fits (by omega) (by rw [hby]; exact hb1))
                  obtain ⟨hRk, hSk⟩ := hR.kill bi
                  obtain ⟨μ', hr', hn, hmm, hR', hS⟩ := alloc_sound (P := P) hRk.drew (B.cells.drop k ++ vs) (ws.drop k ++ us) (Builtin.zeroCells zv.cells (grownCap w (n + m) cap el - (n + m))).toList el (hold.append hus)
                  have hge := grownCap_ge w (n + m) cap el
                  have hkn : (σ.kill bi).n = σ.n := rfl
                  have harr : (ws.drop k ++ us ++ (Builtin.zeroCells zv.cells (grownCap w (n + m) cap el - (n + m))).toList).toArray =
                      (ws.drop k).toArray ++ us.toArray ++ Builtin.zeroCells zv.cells (grownCap w (n + m) cap el - (n + m)) := by apply Array.ext'; simp
                  rw [harr] at hR' hS
                  refine ⟨_, _, μ', hr, ?_, hR', (hSk.trans (Step.drew _ _ _)).trans hS⟩
                  rw [hkn] at hn
                  have hlT : (ws.drop k ++ us ++ (Builtin.zeroCells zv.cells (grownCap w (n + m) cap el - (n + m))).toList).length = grownCap w (n + m) cap el * e' := by
                    rw [List.length_append, List.length_append, holdl, husl, Array.length_toList, size_zeroCells, hzs, ← Nat.add_mul, ← Nat.add_mul]
                    congr 1
                    omega
                  refine .sl σ.n 0 (n + m) e' _ ⟨w.heap.size, 0, _⟩ 0 hn hge (.inl ⟨rfl, ?_⟩)
                  dsimp only
                  rw [hlT]
                  omega
            next =>
              split at h
              next h0 => cases h; exact hquiet h0
              next => cases h
        next =>
          split at h
          next h0 => cases h; exact hquiet h0
          next => cases h
      next => cases h
    next => cases h
end
end AH
/- THE ABSTRACT MACHINE: the remaining operations, and all of them in one. -/
namespace AH
open Go
section
variable {P : Program} {μ : Mu} {σ σ' : AHeap} {w : World} {v : AV}
/-! ### cells laid over a block -/
theorem write_sound (hR : Rel μ σ w) {i : Nat} {B : ABlk} {l : Loc} (hB : σ.get i = some B) (hrw : B.rw = true) (hl : μ i = some l) (k : Nat) {vs : List AV} {us : List Value}
    (hvs : VRs μ vs us) (hone : ∀ u ∈ us, u.oneCell' = true) (hk : k + vs.length ≤ B.cells.length) :
    ∃ w', (storeCells ⟨l.b, l.o + k, none⟩ us).run P w = .ok () w' ∧ Rel μ (σ.set i ⟨splice B.cells k vs, true⟩) w' ∧ Step μ σ w μ (σ.set i ⟨splice B.cells k vs, true⟩) w' := by
  obtain ⟨arr, el, fr, hb, hs, hlen, hfr, hcell⟩ := (hR.blk i B l hB hl).ex
  have hfr0 := hfr hrw
  subst hfr0
  have hul : us.length = vs.length := hvs.1.symm
  have hst := run_storeCells_at P l.b (l.o + k) el us 0 arr w hb (by omega) hone
  simp only [Nat.add_zero] at hst
  refine ⟨_, hst, ?_⟩
  have hnew := setRow_heap w l.b arr (arr.toList.take (l.o + k) ++ us ++ arr.toList.drop (l.o + k + us.length)).toArray el (0, 0) hb
  have hget : ∀ o, (arr.toList.take (l.o + k) ++ us ++ arr.toList.drop (l.o + k + us.length)).toArray[o]? =
      if l.o + k ≤ o ∧ o < l.o + k + us.length then us[o - (l.o + k)]? else arr[o]? := by
    intro o
    simp only [List.getElem?_toArray, List.getElem?_append, List.length_append, List.length_take, Array.length_toList, List.getElem?_take, List.getElem?_drop]
    rw [show min (l.o + k) arr.size = l.o + k by omega]
    by_cases h1 : o < l.o + k
    · rw [if_pos (by omega), if_pos h1, if_pos h1, if_neg (by omega)]; simp
    · by_cases h2 : o < l.o + k + us.length
      · rw [if_pos (by omega), if_neg h1, if_pos (by omega)]
      · rw [if_neg (by omega), if_neg (by omega), show l.o + k + us.length + (o - (l.o + k + us.length)) = o by omega]; simp
  refine hR.write hB hrw hl (splice B.cells k vs) hb hnew ?_ ?_ ?_ ?_ ?_ rfl rfl rfl (by simp [World.setRow])
  · simp; omega
  · unfold splice; simp; omega
  · intro j a ha
    unfold splice at ha
    rw [hget]
    have hj : j < B.cells.length := by
      have := (List.getElem?_eq_some_iff.1 ha).1
      simp at this; omega
    simp only [List.getElem?_append, List.length_append, List.length_take, List.getElem?_take, List.getElem?_drop] at ha
    rw [show min k B.cells.length = k by omega] at ha
    by_cases h1 : j < k
    · rw [if_pos (by omega), if_pos h1, if_pos h1] at ha
      rw [if_neg (by omega)]
      exact hcell j a ha
    · by_cases h2 : j < k + vs.length
      · rw [if_pos (by omega), if_neg h1] at ha
        rw [if_pos (by omega), show l.o + j - (l.o + k) = j - k by omega]
        exact hvs.get ha
      · rw [if_neg (by omega), show k + vs.length + (j - (k + vs.length)) = j by omega] at ha
        rw [if_neg (by omega)]
        exact hcell j a ha
  · intro o ho
    rw [hget, if_neg (by omega)]
  · intro b hb'
    exact setRow_other w l.b b _ hb'
theorem copy_sound (hR : Rel μ σ w) {t tx : TypeId} (ty : TypeId) {d x : AV} {u y : Value} (hd : VR μ d u) (hx : VR μ x y) (h : acopy P t d x σ = some (v, σ')) :
    SemR P μ σ w (Builtin.copy_ #[t, tx] ty #[u, y]) v σ' := by
  have len : ∀ {m}, alen x = some m → (Builtin.lenOf y).run P w = .ok m w := by
    intro m hm
    cases hx <;> simp [alen] at hm <;> subst hm <;> simp [Builtin.lenOf]
  unfold acopy at h
  split at h
  next e z i k n e' m ht hm =>
    obtain ⟨el, inf, zv, hu, hi, hz, he, hby, hzs, hpos, _⟩ := tySlice_some ht
    cases hd
    rename_i cap l off hl hnc ho
    have hlen := len hm
    split at h
    next h0 =>
      cases h
      refine SemR.quiet hR (u := .int .i64 0) ?_ (.int _ _)
      have hmin : Nat.min m n = 0 := h0
      cases hx <;> simp [alen] at hm <;> subst hm <;>
        simp [Builtin.copy_, run_underlying' hu, run_sizeOf' hi, Builtin.lenOf, hmin, Builtin.firstCells, loadCells, loadCellsFrom, storeCells, goInt]
    next h0 =>
      split at h
      next j k' mx ex =>
        split at h
        next vs B hvs hB =>
          split at h
          next hc =>
            cases h
            obtain ⟨hrw, rfl, hk⟩ := hc
            simp [alen] at hm; subst hm
            cases hx
            rename_i capx lx offx hlx hnx hox
            have hx' : VR μ (.sl j k' (min mx n) ex) (.slice (some ⟨lx.b, offx, none⟩) (min mx n) capx) := .sl j k' _ ex capx lx offx hlx (by omega) hox
            obtain ⟨us, hus, husl, hone, hy⟩ := elems_sound hR hx' hvs (m := min mx n) rfl
            have hcell : ∀ (q : Nat) (u : Value), us[q]? = some u → w.cell? ((⟨lx.b, offx, none⟩ : Addr).add q) = some u := by
              rcases hy with ⟨h1, _⟩ | ⟨a, c, h1, h2⟩
              · cases h1
              · cases h1; exact h2
            have hof : off = l.o + k := by
              rcases ho with h1 | h1
              · exact h1.1
              · omega
            subst hof
            have hmul : min mx n * e' ≤ n * e' := Nat.mul_le_mul_right _ (Nat.min_le_right _ _)
            obtain ⟨w', hst, hR', hS'⟩ := write_sound (P := P) hR hB hrw hl k hus hone (by rw [hus.1, husl]; omega)
            have hf := run_firstCells_some (P := P) w inf.size (min mx n) ⟨lx.b, offx, none⟩ mx capx us (by rw [he]; exact husl) hcell
            refine ⟨.int .i64 (min mx n : Nat), w', μ, ?_, .int _ _, hR', hS'⟩
            have hmin : Nat.min mx n = min mx n := rfl
            simp only [Builtin.copy_, List.getElem?_toArray, List.getElem?_cons_zero, List.getElem?_cons_succ, Sem.run_bind, run_underlying' hu, Result.andThen_ok, Builtin.lenOf, Sem.run_pure, run_sizeOf' hi, hmin, hf, hst, goInt]
          next => cases h
        next => cases h
      next => cases h
  next q m ht hm =>
    cases h
    obtain ⟨el, inf, zv, hu, hi, hz, he, hby, hzs, hpos, _⟩ := tySlice_some ht
    cases hd
    refine SemR.quiet hR (u := .int .i64 0) ?_ (.int _ _)
    cases hx <;> simp [alen] at hm <;>
      simp [Builtin.copy_, run_underlying' hu, run_sizeOf' hi, Builtin.lenOf, Builtin.firstCells, loadCells, loadCellsFrom, goInt]
  next => cases h
/-! ### arithmetic and comparisons -/
theorem guard_int (op : BinOp) (t : TypeId) (x y : Operand) {a b : Value} (h1 : ∀ cs, a ≠ .agg cs) (h2 : a ≠ .nilIface) : (eqGuard op t x y a b).run P w = .ok () w := by
  unfold eqGuard
  cases op <;> simp
  all_goals (cases a <;> first | rfl | (exfalso; exact h2 rfl) | (exfalso; exact h1 _ rfl))
theorem aint_sound {op : BinOp} {k : IntKind} {a b : Int} (h : aint op k a b = some v) (hs : op ≠ .shl) (hs' : op ≠ .shr) (t : TypeId) :
    ∃ r, (binOp op t (.int k a) (.int k b)).run P w = .ok r w ∧ VR μ v r := by
  cases op <;> simp only [aint, Option.some.injEq, reduceCtorEq] at h <;> try (exact absurd rfl hs) <;> try (exact absurd rfl hs')
  case quo =>
    split at h
    · cases h
    · rename_i hb
      cases h
      exact ⟨_, by simp [binOp, Op.intDiv, hb], .int _ _⟩
  case rem =>
    split at h
    · cases h
    · rename_i hb
      cases h
      exact ⟨_, by simp [binOp, Op.intDiv, hb], .int _ _⟩
  all_goals subst h
  case add => exact ⟨_, by simp [binOp, Op.intArith], .int _ _⟩
  case sub => exact ⟨_, by simp [binOp, Op.intArith], .int _ _⟩
  case mul => exact ⟨_, by simp [binOp, Op.intArith], .int _ _⟩
  case and => exact ⟨_, by simp only [binOp, ne_eq, not_true, if_false, Op.intBits]; rfl, .int _ _⟩
  case or => exact ⟨_, by simp only [binOp, ne_eq, not_true, if_false, Op.intBits]; rfl, .int _ _⟩
  case xor => exact ⟨_, by simp only [binOp, ne_eq, not_true, if_false, Op.intBits]; rfl, .int _ _⟩
  all_goals exact ⟨_, by simp only [binOp, ne_eq, not_true, if_false, Op.intCmp]; rfl, .bool _⟩
theorem equal_slice_nil {t el : TypeId} (hu : P.underlying t = some (.slice el)) (a : Option Addr) (n c : Nat) :
    (Op.equal t (.slice a n c) (.slice none 0 0)).run P w = .ok a.isNone w := by
  have key : ∀ d, (Op.equalIn (d + 1) t (.slice a n c) (.slice none 0 0)).run P w = .ok a.isNone w := by
    intro d
    cases a <;> simp [Op.equalIn, run_underlying' hu]
  exact key 9999
theorem ashift_sound {op : BinOp} {k k' : IntKind} {a b : Int} (h : ashift op k a b = some v) (t : TypeId) :
    ∃ r, (binOp op t (.int k a) (.int k' b)).run P w = .ok r w ∧ VR μ v r := by
  unfold ashift at h
  split at h
  · cases h
  · rename_i hb
    have hb' : ¬ b < 0 := hb
    split at h
    · cases h; exact ⟨_, by simp [binOp, Op.shift, hb'], .int _ _⟩
    · cases h; exact ⟨_, by simp [binOp, Op.shift, hb'], .int _ _⟩
    · cases h
theorem aeq0_sound {t : TypeId} {a b : AV} {u y : Value} {r : Bool} (ha : VR μ a u) (hb : VR μ b y) (h : aeq0 P t a b = some r) (d : Nat) :
    (Op.equalIn (d + 1) t u y).run P w = .ok r w := by
  unfold aeq0 at h
  split at h
  next p q hu => cases h; cases ha; cases hb; exact run_equalIn_bool' w d t _ _ hu
  next k k' x k'' y' hu =>
    split at h
    · rename_i hk; subst hk; cases h; cases ha; cases hb; exact run_equalIn_int w d t _ _ _ _ hu
    · cases h
  next x y' hu =>
    cases h; cases ha; cases hb
    rw [run_equalIn_string w d t _ _ hu, beq_toListBytes]
  next => cases h
theorem part_sound {t : TypeId} {cs : List AV} {us : Array Value} (hl : cs.length = us.size) (hv : ∀ (j : Nat) (a : AV) (u : Value), cs[j]? = some a → us[j]? = some u → VR μ a u)
    {d : TypeDesc} (hd : P.underlying t = some d) (hag : isAggD d = false) {o : Nat} {a : AV} (ha : cs[o]? = some a) :
    ∃ u, (part t us o).run P w = .ok u w ∧ VR μ a u := by
  have ho : o < us.size := by
    have := (List.getElem?_eq_some_iff.1 ha).1; omega
  have hu : us[o]? = some us[o] := Array.getElem?_eq_getElem ho
  exact ⟨us[o], by simp [part, run_isAgg hd, hag, hu], hv o a _ ha hu⟩
theorem aeq0_desc {t : TypeId} {a b : AV} {r : Bool} (h : aeq0 P t a b = some r) : ∃ d, P.underlying t = some d ∧ isAggD d = false := by
  unfold aeq0 at h
  split at h
  next hu => exact ⟨_, hu, rfl⟩
  next hu => exact ⟨_, hu, rfl⟩
  next hu => exact ⟨_, hu, rfl⟩
  next => cases h
theorem aeqList_sound {xs ys : List AV} {us vs : Array Value} (hl : xs.length = us.size) (hv : ∀ (j : Nat) (a : AV) (u : Value), xs[j]? = some a → us[j]? = some u → VR μ a u)
    (hl' : ys.length = vs.size) (hv' : ∀ (j : Nat) (a : AV) (u : Value), ys[j]? = some a → vs[j]? = some u → VR μ a u) (d : Nat) :
    ∀ (fs : List Field) (r : Bool), aeqList (aeq0 P) fs xs ys = some r → (Op.eqFields (d + 1) us vs fs).run P w = .ok r w := by
  intro fs
  induction fs with
  | nil => intro r h; simp [aeqList] at h; subst h; rfl
  | cons f fs ih =>
    intro r h
    simp only [aeqList] at h
    split at h
    · cases h
    · rename_i hne
      split at h
      · rename_i a b ha hb
        cases hq : aeq0 P f.type a b with
        | none => rw [hq] at h; cases h
        | some r' =>
          obtain ⟨dd, hd, hag⟩ := aeq0_desc hq
          obtain ⟨u, hu, hau⟩ := part_sound (P := P) (w := w) hl hv hd hag ha
          obtain ⟨y, hy, hby⟩ := part_sound (P := P) (w := w) hl' hv' hd hag hb
          have he := aeq0_sound (P := P) (w := w) hau hby hq d
          rw [hq] at h
          cases r'
          · cases h
            simp [Op.eqFields, hne, hu, hy, he]
          · simp only at h
            simp [Op.eqFields, hne, hu, hy, he, ih r h]
      · cases h
theorem aeqS_sound {t : TypeId} {xs ys : List AV} {us vs : Array Value} (hl : xs.length = us.size) (hv : ∀ (j : Nat) (a : AV) (u : Value), xs[j]? = some a → us[j]? = some u → VR μ a u)
    (hl' : ys.length = vs.size) (hv' : ∀ (j : Nat) (a : AV) (u : Value), ys[j]? = some a → vs[j]? = some u → VR μ a u) {r : Bool} (h : aeqS P t xs ys = some r) (op : BinOp) (x y : Operand) :
    (eqGuard op t x y (.agg us) (.agg vs)).run P w = .ok () w ∧ (Op.equalIn 10000 t (.agg us) (.agg vs)).run P w = .ok r w := by
  unfold aeqS at h
  split at h
  next fs hu =>
    split at h
    · rename_i hc
      refine ⟨run_eqGuard_agg w op t x y us vs hc.2, ?_⟩
      have hf : P.fieldsOf t = fs := by simp [Program.fieldsOf, hu]
      rw [run_equalIn_struct w 9999 t us vs (by rw [hf]; exact hu) hc.1, hf]
      exact aeqList_sound hl hv hl' hv' 9998 fs.toList r h
    · cases h
  next => cases h
theorem bin_sound {op : BinOp} {t : TypeId} {a b : AV} {u y : Value} (ha : VR μ a u) (hb : VR μ b y) (h : abin P op t a b = some v) (x z : Operand) :
    ∃ r, (do eqGuard op t x z u y; binOp op t u y : Sem Value).run P w = .ok r w ∧ VR μ v r := by
  unfold abin at h
  split at h
  next k p k' q =>
    cases ha; cases hb
    rw [Sem.run_bind, guard_int op t x z (by simp) (by simp), Result.andThen_ok]
    split at h
    · exact ashift_sound h t
    · rename_i hs
      split at h
      · rename_i hk; subst hk
        exact aint_sound h (fun e => hs (.inl e)) (fun e => hs (.inr e)) t
      · cases h
  next p q =>
    cases ha; cases hb
    rw [Sem.run_bind, guard_int op t x z (by simp) (by simp), Result.andThen_ok]
    split at h
    · cases he : aeq0 P t (.bool p) (.bool q) with
      | none => rw [he] at h; cases h
      | some r =>
        rw [he] at h; cases h
        have := aeq0_sound (P := P) (w := w) (μ := μ) (.bool p) (.bool q) he 9999
        exact ⟨_, by simp [binOp, Op.equal, Op.maxDepth, this], .bool _⟩
    · cases he : aeq0 P t (.bool p) (.bool q) with
      | none => rw [he] at h; cases h
      | some r =>
        rw [he] at h; cases h
        have := aeq0_sound (P := P) (w := w) (μ := μ) (.bool p) (.bool q) he 9999
        exact ⟨_, by simp [binOp, Op.equal, Op.maxDepth, this], .bool _⟩
    · cases h
  next xs ys =>
    cases ha; cases hb
    rename_i us hl hv vs hl' hv'
    split at h
    · cases he : aeqS P t xs ys with
      | none => rw [he] at h; cases h
      | some r =>
        rw [he] at h; cases h
        obtain ⟨h1, h2⟩ := aeqS_sound (P := P) (w := w) hl hv hl' hv' he .eql x z
        exact ⟨_, by rw [Sem.run_bind, h1, Result.andThen_ok, run_eql_struct, h2]; rfl, .bool _⟩
    · cases he : aeqS P t xs ys with
      | none => rw [he] at h; cases h
      | some r =>
        rw [he] at h; cases h
        obtain ⟨h1, h2⟩ := aeqS_sound (P := P) (w := w) hl hv hl' hv' he .neq x z
        exact ⟨_, by rw [Sem.run_bind, h1, Result.andThen_ok, run_neq_struct, h2]; rfl, .bool _⟩
    · cases h
  next p q =>
    cases ha; cases hb
    rw [Sem.run_bind, guard_int op t x z (by simp) (by simp), Result.andThen_ok]
    split at h
    · cases h; exact ⟨_, by simp [binOp, Op.stringOp, beq_toListBytes], .bool _⟩
    · cases h; exact ⟨_, by simp [binOp, Op.stringOp, beq_toListBytes, bne], .bool _⟩
    · split at h
      · rename_i hlt
        cases h
        have : ¬ ((p.size + q.size : Nat) : Int) > IntKind.i64.max := by simp [IntKind.max, IntKind.signed, IntKind.bits]; omega
        exact ⟨_, by simp only [binOp, Op.stringOp, this, if_false]; rfl, .str _⟩
      · cases h
    · cases h
  next =>
    cases hb
    split at h
    · rename_i hu
      cases h; cases ha
      rw [Sem.run_bind, guard_int .eql t x z (by simp) (by simp), Result.andThen_ok]
      exact ⟨.bool true, by simp [binOp, equal_slice_nil hu], .bool _⟩
    · rename_i hu
      cases h; cases ha
      rw [Sem.run_bind, guard_int .eql t x z (by simp) (by simp), Result.andThen_ok]
      exact ⟨.bool false, by simp [binOp, equal_slice_nil hu], .bool _⟩
    · rename_i hu
      cases h; cases ha
      rw [Sem.run_bind, guard_int .neq t x z (by simp) (by simp), Result.andThen_ok]
      exact ⟨.bool false, by simp [binOp, equal_slice_nil hu], .bool _⟩
    · rename_i hu
      cases h; cases ha
      rw [Sem.run_bind, guard_int .neq t x z (by simp) (by simp), Result.andThen_ok]
      exact ⟨.bool true, by simp [binOp, equal_slice_nil hu], .bool _⟩
    · cases h
  next => cases h
end
end AH
/- THE ABSTRACT MACHINE: all operations in one. -/
namespace AH
open Go
def isE : Op → Bool
  | .store .. => true
  | .call ⟨.value _, _, _⟩ => true
  | .call ⟨.builtin .append, _, _⟩ => true
  | .call ⟨.builtin .copy, _, _⟩ => true
  | _ => false
def isL : Op → Bool
  | .load .. => true
  | _ => false
def isN : Op → Bool
  | .alloc _ | .box .. | .buildSlice .. | .makeSlice .. => true
  | _ => false
section
variable {P : Program} {μ : Mu} {σ σ' : AHeap} {w : World} {v : AV}
theorem bound_sound {d : Int} {lo : Option AV} {lo' : Option Value} (hlo : ∀ a, lo = some a → ∃ u, lo' = some u ∧ VR μ a u) (hlo0 : lo = none → lo' = none) {q : Int} (h : abound d lo = some q) :
    (lo' = none ∧ q = d) ∨ ∃ kk, lo' = some (.int kk q) := by
  cases lo with
  | none => simp [abound] at h; exact .inl ⟨hlo0 rfl, h.symm⟩
  | some a =>
    obtain ⟨u, hu, hv⟩ := hlo a rfl
    cases hv <;> simp [abound] at h
    subst h; exact .inr ⟨_, hu⟩
theorem slice_sound {t : TypeId} {e b : Nat} {z : List AV} (ht : tySlice P t = some (e, b, z)) {x : AV} {y : Value} (hx : VR μ x y)
    {lo hi : Option AV} {lo' hi' : Option Value} (hlo : ∀ a, lo = some a → ∃ u, lo' = some u ∧ VR μ a u) (hlo0 : lo = none → lo' = none)
    (hhi : ∀ a, hi = some a → ∃ u, hi' = some u ∧ VR μ a u) (hhi0 : hi = none → hi' = none) (h : aslice e x lo hi = some v) :
    SemQ P μ w (Instr.sliceAt t y lo' hi' none) v := by
  obtain ⟨el, inf, zv, hu, hinf, hz, he, hby, hzs, hpos, _⟩ := tySlice_some ht
  unfold aslice at h
  split at h
  next i k n e' =>
    cases hx
    rename_i cap l off hl hnc ho
    split at h
    next q p hq hp =>
      split at h
      next hc =>
        cases h
        obtain ⟨rfl, h0, h1, h2⟩ := hc
        have hb : (Instr.sliceBounds true n cap lo' hi' none).run P w = .ok (q.toNat, p.toNat, cap) w := by
          rcases bound_sound hlo hlo0 hq with ⟨rfl, rfl⟩ | ⟨kk, rfl⟩ <;> rcases bound_sound hhi hhi0 hp with ⟨rfl, rfl⟩ | ⟨kk', rfl⟩
          · simp [Instr.sliceBounds]
          · have : p ≤ (cap : Int) := by omega
            simp [Instr.sliceBounds, Instr.sliceBound, asIntOf, h1, this]
          · simp [Instr.sliceBounds, Instr.sliceBound, asIntOf, h0, h1]
          · have g1 : p ≤ (cap : Int) := by omega
            have g2 : 0 ≤ p := by omega
            have g3 : ((p.toNat : Nat) : Int) = p := by omega
            simp only [Instr.sliceBounds, Instr.sliceBound, asIntOf, Sem.run_bind, Sem.run_pure, Result.andThen_ok, h0, g1, g2, g3, h1, and_self, if_true]
        refine SemQ.mk' (u := .slice (if cap = q.toNat then some ⟨l.b, off, none⟩ else (some ⟨l.b, off, none⟩ : Option Addr).map (·.add (q.toNat * e'))) (p.toNat - q.toNat) (cap - q.toNat)) ?_ ?_
        · simp only [Instr.sliceAt, Sem.run_bind, run_underlying' hu, Result.andThen_ok, Instr.slice, hb, run_sizeOf' hinf, he, Sem.run_pure]
        · by_cases hcq : cap = q.toNat
          · rw [if_pos hcq]
            exact .sl i _ _ e' _ l off hl (by omega) (.inr (by omega))
          · rw [if_neg hcq]
            simp only [Option.map_some, add_lit]
            rcases ho with ⟨rfl, hkc⟩ | h3
            · refine .sl i _ _ e' _ l _ hl (by omega) (.inl ⟨by omega, ?_⟩)
              have hmul : q.toNat * e' + (cap - q.toNat) * e' = cap * e' := by
                rw [← Nat.add_mul]; congr 1; omega
              omega
            · exact .sl i _ _ e' _ l _ hl (by omega) (.inr (by omega))
      next => cases h
    next => cases h
  next => cases h
theorem fold_max {ρ : Operand → AV} {ρ' : Operand → Value} (hρ : ∀ x, VR μ (ρ x) (ρ' x)) : ∀ (xs : List Operand) (a : AV) (u : Value) (v : AV), VR μ a u →
    xs.foldlM (fun a y => amax2 a (ρ y)) a = some v → ∃ r, ((xs.map ρ').foldlM Builtin.max2 u).run P w = .ok r w ∧ VR μ v r := by
  intro xs
  induction xs with
  | nil => intro a u v h hf; simp at hf; subst hf; exact ⟨u, rfl, h⟩
  | cons x xs ih =>
    intro a u v h hf
    simp only [List.foldlM_cons] at hf
    cases hm : amax2 a (ρ x) with
    | none => rw [hm] at hf; cases hf
    | some b =>
      rw [hm] at hf
      have hx := hρ x
      unfold amax2 at hm
      split at hm
      · rename_i hb
        cases hm; cases h
        rw [hb] at hx
        generalize hq : ρ' x = q at hx
        cases hx
        obtain ⟨r, hr, hv⟩ := ih _ _ v (.int _ _) hf
        refine ⟨r, ?_, hv⟩
        simp only [List.map_cons, List.foldlM_cons, hq, Sem.run_bind, Builtin.max2, Sem.run_pure, Result.andThen_ok]
        exact hr
      · cases hm
theorem fold_min {ρ : Operand → AV} {ρ' : Operand → Value} (hρ : ∀ x, VR μ (ρ x) (ρ' x)) : ∀ (xs : List Operand) (a : AV) (u : Value) (v : AV), VR μ a u →
    xs.foldlM (fun a y => amin2 a (ρ y)) a = some v → ∃ r, ((xs.map ρ').foldlM Builtin.min2 u).run P w = .ok r w ∧ VR μ v r := by
  intro xs
  induction xs with
  | nil => intro a u v h hf; simp at hf; subst hf; exact ⟨u, rfl, h⟩
  | cons x xs ih =>
    intro a u v h hf
    simp only [List.foldlM_cons] at hf
    cases hm : amin2 a (ρ x) with
    | none => rw [hm] at hf; cases hf
    | some b =>
      rw [hm] at hf
      have hx := hρ x
      unfold amin2 at hm
      split at hm
      · rename_i hb
        cases hm; cases h
        rw [hb] at hx
        generalize hq : ρ' x = q at hx
        cases hx
        obtain ⟨r, hr, hv⟩ := ih _ _ v (.int _ _) hf
        refine ⟨r, ?_, hv⟩
        simp only [List.map_cons, List.foldlM_cons, hq, Sem.run_bind, Builtin.min2, Sem.run_pure, Result.andThen_ok]
        exact hr
      · cases hm
theorem index_sound {t : TypeId} {x i : AV} {u y : Value} (hx : VR μ x u) (hi : VR μ i y) (h : aindex P t x i = some v) :
    ∃ r, (Instr.index t u y).run P w = .ok r w ∧ VR μ v r := by
  unfold aindex at h
  split at h
  next kk i =>
    cases hi
    split at h
    next cs =>
      cases hx
      rename_i us hl hv
      split at h
      next n el hu =>
        split at h
        next e hag =>
          split at h
          next hc =>
            obtain ⟨d, inf, hd, hinf, hagd, hsz⟩ := tyAgg_some hag
            obtain ⟨r, hr, hvr⟩ := part_sound (P := P) (w := w) hl hv hd hagd h
            exact ⟨r, by simp [Instr.index, asIntOf, run_underlying' hu, hc.1, hc.2, run_sizeOf' hinf, hsz, hr], hvr⟩
          next => cases h
        next => cases h
      next => cases h
    next s =>
      cases hx
      split at h
      next hu =>
        split at h
        next hc =>
          cases hb : s[i.toNat]? with
          | none => rw [hb] at h; cases h
          | some b =>
            rw [hb] at h; cases h
            exact ⟨.int .u8 b.toNat, by simp [Instr.index, asIntOf, run_underlying' hu, hc, hb], .int _ _⟩
        next => cases h
      next => cases h
    next => cases h
  next => cases h
theorem indexAt_sl {t el : TypeId} {inf : TypeInfo} (hu : P.underlying t = some (.slice el)) (hi : P.info? el = some inf) {b off n cap : Nat} {kk : IntKind} {i : Int} (h0 : 0 ≤ i) (h1 : i < n) :
    (Instr.indexAt t (.slice (some ⟨b, off, none⟩) n cap) (.int kk i)).run P w = .ok (.pointer (some ⟨b, off + i.toNat * inf.size, none⟩)) w := by
  simp [Instr.indexAt, asIntOf, run_underlying' hu, run_sizeOf' hi, h0, h1, add_lit]
/-- What an operation that leaves the world alone comes to. -/
def OpQ (P : Program) (μ : Mu) (w : World) (s : Sem Next) (v : AV) : Prop := ∃ u, s.run P w = .ok (.value u) w ∧ VR μ v u
theorem SemQ.op {s : Sem Value} (h : SemQ P μ w s v) : OpQ P μ w (do pure (.value (← s))) v := by
  obtain ⟨u, hr, hv⟩ := h
  exact ⟨u, by simp [hr], hv⟩
/-- An operation that neither writes nor allocates leaves the world as it is. -/
theorem aopQ_sound (hR : Rel μ σ w) {ρ : Operand → AV} {ρ' : Operand → Value} (hρ : ∀ x, VR μ (ρ x) (ρ' x)) {o : Oper} (hE : isE o.op = false) (hN : isN o.op = false) (h : aop P ρ o.op σ = some (v, σ')) :
    OpQ P μ w (execOp ρ' o) v := by
  obtain ⟨dst, op, type, pos, after, guard⟩ := o
  dsimp only at h hE hN
  cases op <;> simp only [isE, isN, Bool.true_eq_false, reduceCtorEq] at hE hN <;> simp only [aop] at h <;> try (cases h; done)
  case move x => cases h; exact ⟨_, rfl, hρ x⟩
  case assign x => cases h; exact ⟨_, rfl, hρ x⟩
  case pick c a b =>
    split at h
    next t hc =>
      cases h
      have := hρ c
      rw [hc] at this
      generalize hq : ρ' c = q at this
      cases this
      refine ⟨if t then ρ' a else ρ' b, ?_, ?_⟩
      · simp only [execOp, hq, asBool]; rfl
      · cases t
        · exact hρ b
        · exact hρ a
    next => cases h
  case build t parts =>
    split at h
    next z pl hz hpl =>
      cases hf : afill (pl[·]?) z (parts.toList.map fun (i, x) => (i, ρ x)) with
      | none => rw [hf] at h; cases h
      | some cs => rw [hf] at h; cases h; exact (build_quiet hρ hz hpl hf).op
    next => cases h
  case load t a =>
    cases hl : aload P t (ρ a) σ with
    | none => rw [hl] at h; cases h
    | some r => rw [hl] at h; cases h; exact (load_quiet hR (hρ a) hl).op
  case nilCheck x =>
    have := hρ x
    split at h
    next i k hx =>
      cases h
      rw [hx] at this
      generalize hq : ρ' x = q at this
      have h0 := this
      cases this
      exact ⟨_, by simp only [execOp, hq]; rfl, h0⟩
    next f a b hx =>
      cases h
      rw [hx] at this
      generalize hq : ρ' x = q at this
      have h0 := this
      cases this
      exact ⟨_, by simp only [execOp, hq]; rfl, h0⟩
    next => cases h
  case binOp op t x y yt =>
    cases hb : abin P op t (ρ x) (ρ y) with
    | none => rw [hb] at h; cases h
    | some r =>
      rw [hb] at h; cases h
      obtain ⟨u, hr, hv⟩ := bin_sound (P := P) (w := w) (hρ x) (hρ y) hb x y
      exact (SemQ.mk' hr hv).op
  case unOp op t x =>
    cases hb : aun op (ρ x) with
    | none => rw [hb] at h; cases h
    | some r =>
      rw [hb] at h; cases h
      have hx := hρ x
      unfold aun at hb
      split at hb
      next k n he =>
        cases hb
        rw [he] at hx
        generalize hq : ρ' x = q at hx
        cases hx
        refine (SemQ.mk' (u := .int k (k.wrap (0 - n))) ?_ (.int _ _)).op
        simp [hq, Op.unary, Op.intArith]
      next b he =>
        cases hb
        rw [he] at hx
        generalize hq : ρ' x = q at hx
        cases hx
        refine (SemQ.mk' (u := .bool (!b)) ?_ (.bool _)).op
        simp [hq, Op.unary]
      next => cases hb
  case convert src dst x =>
    split at h
    next ds k kk n hs hd hx0 =>
      cases h
      have hx := hρ x
      rw [hx0] at hx
      generalize hq : ρ' x = q at hx
      cases hx
      refine (SemQ.mk' (u := .int k (k.wrap n)) ?_ (.int _ _)).op
      simp [convert, run_underlying' hs, run_underlying' hd, hq, Conv.intToInt]
    next => cases h
  case makeFunc fn a b =>
    cases fn <;> simp only at h <;> try (cases h; done)
    case func f =>
      cases h
      refine (SemQ.mk' (u := .func (.func f) (a.map ρ') (b.map ρ')) rfl ?_).op
      have key : ∀ (a : Array Operand) (j : Nat) (p : AV) (u : Value), (a.toList.map ρ)[j]? = some p → (a.map ρ')[j]? = some u → VR μ p u := by
        intro a j p u hp hu
        simp only [List.getElem?_map, Array.getElem?_toList, Array.getElem?_map] at hp hu
        cases hj : a[j]? with
        | none => simp [hj] at hp
        | some y =>
          simp only [hj, Option.map_some, Option.some.injEq] at hp hu
          subst hp; subst hu; exact hρ y
      exact .fn f _ _ _ _ (by simp) (by simp) (key a) (key b)
  case slice t x lo hi mx =>
    cases mx <;> simp only at h <;> try (cases h; done)
    split at h
    next e rest ht =>
      cases hs : aslice e (ρ x) (lo.map ρ) (hi.map ρ) with
      | none => rw [hs] at h; cases h
      | some r =>
        rw [hs] at h; cases h
        obtain ⟨b, z⟩ := rest
        refine (slice_sound (lo' := lo.map ρ') (hi' := hi.map ρ') ht (hρ x) ?_ ?_ ?_ ?_ hs).op
        · intro a ha
          cases lo with
          | none => cases ha
          | some y => cases ha; exact ⟨_, rfl, hρ y⟩
        · intro ha; cases lo <;> simp at ha ⊢
        · intro a ha
          cases hi with
          | none => cases ha
          | some y => cases ha; exact ⟨_, rfl, hρ y⟩
        · intro ha; cases hi <;> simp at ha ⊢
    next => cases h
  case fieldAddr s x f =>
    split at h
    next i k off hx0 hf =>
      cases h
      have hx := hρ x
      rw [hx0] at hx
      generalize hq : ρ' x = q at hx
      cases hx
      rename_i l hl
      unfold tyField at hf
      split at hf
      next fs hu =>
        split at hf
        next fd hfd =>
          split at hf
          next inf hinf =>
            split at hf
            next => cases hf
            next hne =>
              cases hf
              refine (SemQ.mk' (u := .pointer (some ⟨l.b, l.o + k + fd.offset, none⟩)) ?_ ?_).op
              · simp [hq, Instr.fieldAt, run_underlying' hu, hfd, Instr.sureAddr, fieldPlace, run_sizeOf' hinf, hne, add_lit]
              · rw [Nat.add_assoc]; exact .ptr i _ l hl
          next => cases hf
        next => cases hf
      next => cases hf
    next => cases h
  case indexAddr t x ix =>
    split at h
    next kk i hi0 =>
      have hi := hρ ix
      rw [hi0] at hi
      generalize hqi : ρ' ix = qi at hi
      cases hi
      split at h
      next b k n e hx0 =>
        have hx := hρ x
        rw [hx0] at hx
        generalize hq : ρ' x = q at hx
        cases hx
        rename_i cap l off hl hnc ho
        split at h
        next e' rest ht =>
          split at h
          next hc =>
            cases h
            obtain ⟨rfl, h0, h1⟩ := hc
            obtain ⟨b', z⟩ := rest
            obtain ⟨el, inf, zv, hu, hinf, hz, he, hby, hzs, hpos, _⟩ := tySlice_some ht
            have hof : off = l.o + k := by
              rcases ho with h2 | h2
              · exact h2.1
              · omega
            subst hof
            refine (SemQ.mk' (u := .pointer (some ⟨l.b, l.o + k + i.toNat * e, none⟩)) ?_ ?_).op
            · rw [hq, hqi, indexAt_sl hu hinf h0 h1, he]
            · rw [Nat.add_assoc]; exact .ptr b _ l hl
          next => cases h
        next => cases h
      next b k hx0 =>
        have hx := hρ x
        rw [hx0] at hx
        generalize hq : ρ' x = q at hx
        cases hx
        rename_i l hl
        split at h
        next n e ht =>
          split at h
          next hc =>
            cases h
            unfold tyArr at ht
            split at ht
            next n' el hu =>
              split at ht
              next inf hinf =>
                cases ht
                refine (SemQ.mk' (u := .pointer (some ⟨l.b, l.o + k + i.toNat * inf.size, none⟩)) ?_ ?_).op
                · simp [hq, hqi, Instr.indexAt, asIntOf, run_underlying' hu, run_sizeOf' hinf, Instr.sureAddr, hc.1, hc.2, add_lit]
                · rw [Nat.add_assoc]; exact .ptr b _ l hl
              next => cases ht
            next => cases ht
          next => cases h
        next => cases h
      next => cases h
    next => cases h
  case index t x ix =>
    cases hb : aindex P t (ρ x) (ρ ix) with
    | none => rw [hb] at h; cases h
    | some r =>
      rw [hb] at h; cases h
      obtain ⟨u, hr, hv⟩ := index_sound (P := P) (w := w) (hρ x) (hρ ix) hb
      exact (SemQ.mk' hr hv).op
  case extract t i =>
    split at h
    next vs hx0 =>
      have hx := hρ t
      rw [hx0] at hx
      generalize hq : ρ' t = q at hx
      cases hx
      rename_i us hl hv
      cases hi : vs[i]? with
      | none => rw [hi] at h; cases h
      | some a =>
        rw [hi] at h; cases h
        have hlt : i < us.size := by have := (List.getElem?_eq_some_iff.1 hi).1; omega
        refine (SemQ.mk' (u := us[i]) ?_ (hv i _ _ hi (Array.getElem?_eq_getElem hlt))).op
        simp [hq, Instr.extract, hlt]
    next => cases h
  case call c =>
    obtain ⟨callee, args, ts⟩ := c
    cases callee <;> simp only at h <;> try (cases h; done)
    case builtin b =>
      have hargs : args.map ρ' = (args.toList.map ρ').toArray := by apply Array.ext'; simp
      split at h
      next x t hx ht =>
        have e1 : args = #[x] := by apply Array.ext'; simpa using hx
        have e2 : ts = #[t] := by apply Array.ext'; simpa using ht
        subst e1; subst e2
        have hv := hρ x
        split at h
        next el n b k m e hu hn h0 =>
          cases h
          rw [h0] at hv hn
          simp [alen] at hn; subst hn
          generalize hq : ρ' x = q at hv
          cases hv
          refine ⟨.int .i64 m, ?_, .int _ _⟩
          simp [execOp, resolve, invoke, builtin, Builtin.len_, hq, run_underlying' hu, goInt]
        next el n hu hn h0 =>
          cases h
          rw [h0] at hv hn
          simp [alen] at hn; subst hn
          generalize hq : ρ' x = q at hv
          cases hv
          refine ⟨.int .i64 0, ?_, .int _ _⟩
          simp [execOp, resolve, invoke, builtin, Builtin.len_, hq, run_underlying' hu, goInt]
        next n s hu hn h0 =>
          cases h
          rw [h0] at hv hn
          simp [alen] at hn; subst hn
          generalize hq : ρ' x = q at hv
          cases hv
          refine ⟨.int .i64 s.size, ?_, .int _ _⟩
          simp [execOp, resolve, invoke, builtin, Builtin.len_, hq, run_underlying' hu, goInt]
        next => cases h
      next => cases hE
      next => cases hE
      next _ x xs hx =>
        cases hf : xs.foldlM (fun a y => amax2 a (ρ y)) (ρ x) with
        | none => rw [hf] at h; cases h
        | some r =>
          rw [hf] at h; cases h
          obtain ⟨u, hr, hv⟩ := fold_max (P := P) (w := w) hρ xs _ _ _ (hρ x) hf
          refine ⟨u, ?_, hv⟩
          simp only [execOp, resolve, Sem.run_bind, Sem.run_pure, Result.andThen_ok, invoke, builtin, Builtin.max_, hargs, hx, List.map_cons, hr]
      next _ x xs hx =>
        cases hf : xs.foldlM (fun a y => amin2 a (ρ y)) (ρ x) with
        | none => rw [hf] at h; cases h
        | some r =>
          rw [hf] at h; cases h
          obtain ⟨u, hr, hv⟩ := fold_min (P := P) (w := w) hρ xs _ _ _ (hρ x) hf
          refine ⟨u, ?_, hv⟩
          simp only [execOp, resolve, Sem.run_bind, Sem.run_pure, Result.andThen_ok, invoke, builtin, Builtin.min_, hargs, hx, List.map_cons, hr]
      next => cases h
theorem map_same {x : Option AV} {σ σ' : AHeap} {v : AV} (h : x.map (fun v => (v, σ)) = some (v, σ')) : σ' = σ ∧ ∀ τ : AHeap, x.map (fun v => (v, τ)) = some (v, τ) := by
  cases x with
  | none => cases h
  | some a => cases h; exact ⟨rfl, fun τ => rfl⟩
/-- Such an operation leaves the abstract memory as it is; and only a load looks at it. -/
theorem aopQ_free {ρ : Operand → AV} {op : Op} (hE : isE op = false) (hN : isN op = false) (h : aop P ρ op σ = some (v, σ')) :
    σ' = σ ∧ (isL op = false → ∀ τ, aop P ρ op τ = some (v, τ)) := by
  cases op <;> simp only [isE, isN, Bool.true_eq_false, reduceCtorEq] at hE hN <;> simp only [aop] at h ⊢ <;> try (cases h; done)
  case load t a => exact ⟨(map_same h).1, fun hL => by cases hL⟩
  case binOp => exact ⟨(map_same h).1, fun _ => (map_same h).2⟩
  case unOp => exact ⟨(map_same h).1, fun _ => (map_same h).2⟩
  case index => exact ⟨(map_same h).1, fun _ => (map_same h).2⟩
  case move => cases h; exact ⟨rfl, fun _ τ => rfl⟩
  case assign => cases h; exact ⟨rfl, fun _ τ => rfl⟩
  case pick => split at h <;> first | (cases h; exact ⟨rfl, fun _ τ => rfl⟩) | cases h
  case nilCheck => split at h <;> first | (cases h; exact ⟨rfl, fun _ τ => rfl⟩) | cases h
  case convert => split at h <;> first | (cases h; exact ⟨rfl, fun _ τ => rfl⟩) | cases h
  case fieldAddr => split at h <;> first | (cases h; exact ⟨rfl, fun _ τ => rfl⟩) | cases h
  case makeFunc fn a b => cases fn <;> simp only at h ⊢ <;> first | (cases h; exact ⟨rfl, fun _ τ => rfl⟩) | cases h
  case extract => split at h <;> first | exact ⟨(map_same h).1, fun _ => (map_same h).2⟩ | cases h
  case build =>
    split at h
    · refine ⟨?_, fun _ τ => ?_⟩
      · cases hf : afill _ _ _ with
        | none => rw [hf] at h; cases h
        | some cs => rw [hf] at h; cases h; rfl
      · cases hf : afill _ _ _ with
        | none => rw [hf] at h; cases h
        | some cs => rw [hf] at h; cases h; rfl
    · cases h
  case slice t x lo hi mx =>
    cases mx <;> simp only at h ⊢ <;> try (cases h; done)
    split at h
    · exact ⟨(map_same h).1, fun _ => (map_same h).2⟩
    · cases h
  case indexAddr t x ix =>
    (repeat' split at h) <;> first | (cases h; simp_all; done) | cases h
  case call c =>
    obtain ⟨callee, args, ts⟩ := c
    cases callee <;> (try simp only at h ⊢) <;> try (cases h; done)
    case builtin b =>
      split at h
      · split at h <;> first | (cases h; exact ⟨rfl, fun _ τ => rfl⟩) | cases h
      · cases hE
      · cases hE
      · exact ⟨(map_same h).1, fun _ => (map_same h).2⟩
      · exact ⟨(map_same h).1, fun _ => (map_same h).2⟩
      · cases h
theorem aopQ_same {ρ : Operand → AV} {op : Op} (hE : isE op = false) (hN : isN op = false) (h : aop P ρ op σ = some (v, σ')) : σ' = σ := (aopQ_free hE hN h).1
/-- An allocation: whatever the block's name is to be. -/
theorem aopN_sound {ρ : Operand → AV} {ρ' : Operand → Value} (hρ : ∀ x, VR μ (ρ x) (ρ' x)) {o : Oper} (hN : isN o.op = true) (h : aop P ρ o.op σ = some (v, σ')) :
    ∃ f cs s, v = f σ.n ∧ σ' = σ.push ⟨cs, true⟩ ∧ (∀ τ, aop P ρ o.op τ = some (f τ.n, τ.push ⟨cs, true⟩)) ∧ execOp ρ' o = (do pure (.value (← s))) ∧ AllocR P μ w s f cs := by
  obtain ⟨dst, op, type, pos, after, guard⟩ := o
  dsimp only at h hN
  cases op <;> simp only [isN, reduceCtorEq, Bool.false_eq_true] at hN <;> simp only [aop] at h
  case alloc e =>
    cases hz : tyZero P e with
    | none => rw [hz] at h; cases h
    | some z => rw [hz] at h; cases h; exact ⟨_, _, _, rfl, rfl, fun τ => by simp only [aop, hz, Option.map_some], rfl, alloc_alloc hz⟩
  case box e x =>
    cases hc : (ρ x).cells with
    | none => rw [hc] at h; cases h
    | some cs => rw [hc] at h; cases h; exact ⟨_, _, _, rfl, rfl, fun τ => by simp only [aop, hc, Option.map_some], rfl, box_alloc (hρ x) hc⟩
  case buildSlice t len parts =>
    split at h
    next e b z ht =>
      split at h
      next hlen =>
        cases hf : afill (fun i => some (i * e, e)) (List.replicate len z).flatten (parts.toList.map fun (i, x) => (i, ρ x)) with
        | none => rw [hf] at h; cases h
        | some cs => rw [hf] at h; cases h; exact ⟨_, _, _, rfl, rfl, fun τ => by simp only [aop, ht, hlen, if_true, hf, Option.map_some], rfl, buildSlice_alloc hρ ht hlen hf⟩
      next => cases h
    next => cases h
  case makeSlice t l c =>
    obtain ⟨f, cs, h1, h2, h3, h4⟩ := make_alloc (P := P) (w := w) (hρ l) (hρ c) h
    exact ⟨f, cs, _, h1, h2, fun τ => by simp only [aop, h3], rfl, h4⟩
theorem aop_sound (hR : Rel μ σ w) {ρ : Operand → AV} {ρ' : Operand → Value} (hρ : ∀ x, VR μ (ρ x) (ρ' x)) {o : Oper} (h : aop P ρ o.op σ = some (v, σ')) :
    OpR P μ σ w (execOp ρ' o) v σ' := by
  cases hN : isN o.op with
  | true =>
    obtain ⟨f, cs, s, rfl, rfl, _, he, ha⟩ := aopN_sound (w := w) hρ hN h
    rw [he]; exact (ha.toR hR).op
  | false =>
    cases hE : isE o.op with
    | false =>
      obtain ⟨u, hr, hv⟩ := aopQ_sound hR hρ hE hN h
      obtain ⟨rfl⟩ := aopQ_same hE hN h
      exact ⟨_, u, w, μ, hr, .inl rfl, hv, hR, Step.refl _ _ _⟩
    | true =>
      obtain ⟨dst, op, type, pos, after, guard⟩ := o
      dsimp only at h hE hN
      cases op <;> simp only [isE, Bool.false_eq_true] at hE <;> simp only [aop] at h <;> try (cases h; done)
      case store t a x =>
        cases hs : astore P t (ρ a) (ρ x) σ with
        | none => rw [hs] at h; cases h
        | some r =>
          rw [hs] at h; cases h
          obtain ⟨w', hr, hR', hS⟩ := store_sound (P := P) hR (hρ a) (hρ x) hs
          exact ⟨.skip, undef, w', μ, by simp only [execOp, Sem.run_bind, hr, Result.andThen_ok, Sem.run_pure], .inr ⟨rfl, rfl⟩, .undef _, hR', hS⟩
      case call c =>
        obtain ⟨callee, args, ts⟩ := c
        cases callee <;> (try simp only at h) <;> try (cases h; done)
        case builtin b =>
          split at h
          next => cases hE
          next s x t tx hx ht =>
            have e1 : args = #[s, x] := by apply Array.ext'; simpa using hx
            have e2 : ts = #[t, tx] := by apply Array.ext'; simpa using ht
            subst e1; subst e2
            split at h
            next he =>
              subst he
              obtain ⟨u, w', μ', hr, hv, hR', hS⟩ := append_sound (P := P) hR type (hρ s) (hρ x) h
              exact ⟨.value u, u, w', μ', by simp [execOp, resolve, invoke, builtin, hr], .inl rfl, hv, hR', hS⟩
            next => cases h
          next d x t tx hx ht =>
            have e1 : args = #[d, x] := by apply Array.ext'; simpa using hx
            have e2 : ts = #[t, tx] := by apply Array.ext'; simpa using ht
            subst e1; subst e2
            obtain ⟨u, w', μ', hr, hv, hR', hS⟩ := copy_sound (P := P) (tx := tx) hR type (hρ d) (hρ x) h
            exact ⟨.value u, u, w', μ', by simp [execOp, resolve, invoke, builtin, hr], .inl rfl, hv, hR', hS⟩
          next => cases hE
          next => cases hE
          next => cases h
end
end AH
/- THE ABSTRACT MACHINE: code, regions in the order of the text, and calls. -/
namespace AH
open Go
abbrev Env := Nat → AV
def Env.put (env : Env) (dst : Option Tmp) (v : AV) : Env :=
  match dst with
  | some d => fun t => if t = d then v else env t
  | none => env
def aeval (env : Env) : Operand → AV
  | .tmp t => env t
  | .const v => ofValue v
  | .global _ => .undef
  | .func f => .fn f [] []
structure EnvR (μ : Mu) (N : Nat) (env : Env) (a : Act) : Prop where
  defers : a.defers = []
  size : a.tmps.size = N
  tmps : ∀ t, VR μ (env t) (a.tmps.getD t undef)
/-- The function can be called at all. -/
def Enters (P : Program) (f : FuncId) : Prop := ∃ fn, P.funcs[f]? = some fn ∧ (fn.name == "runtime.NumGoroutine") = false ∧ fn.body.isNone = false
def CallQ (μ : Mu) (σ : AHeap) (w : World) (v : AV) (σ' : AHeap) : Ending → World → Prop := fun e w' =>
  ∃ u μ', e = .returned u ∧ VR μ' v u ∧ Rel μ' σ' w' ∧ Step μ σ w μ' σ' w'
/-- 'Called so, the function returns v, and leaves the memory σ'', whatever the world is. -/
def ACall (P : Program) (f : FuncId) (args : List AV) (σ : AHeap) (v : AV) (σ' : AHeap) : Prop :=
  Enters P f ∧ σ.n ≤ σ'.n ∧ ∀ (μ : Mu) (w : World) (us : Array Value), Rel μ σ w → VRs μ args us.toList → Calls P f us w (CallQ μ σ w v σ')
/-- One operation, calls too. -/
def AOp (P : Program) (ρ : Operand → AV) (o : Oper) (σ : AHeap) (v : AV) (σ' : AHeap) : Prop :=
  match o.op with
  | .call ⟨.value f, args, _⟩ => match ρ f with
    | .fn g first cap => ACall P g (first ++ args.toList.map ρ ++ cap) σ v σ'
    | _ => False
  | op => aop P ρ op σ = some (v, σ')
/-- Whether an operation is wanted. -/
def agate (ops : Array Oper) (env : Env) (o : Oper) : Option Bool :=
  match o.guard with
  | none => some true
  | some (j, want) => match (ops[j]?).bind (·.dst) with
    | some d => match env d with
      | .bool b => some (b == want)
      | .tup [] => some false
      | _ => none
    | none => none
theorem VR_skip (μ : Mu) : VR μ (.tup []) undef := .tup [] #[] rfl fun j a u ha _ => by simp at ha
/-- What goes on behind an operation: a class, so that a simplifier leaves it alone till it is reached. -/
class Kt (α : Sort _) where
  val : α
def bindO (x : Option (AV × AHeap)) [k : Kt (AV → AHeap → Prop)] : Prop :=
  match x with
  | some (v, σ) => k.val v σ
  | none => False
def callP (P : Program) (f : AV) (args : List AV) (σ : AHeap) [k : Kt (AV → AHeap → Prop)] : Prop :=
  match f with
  | .fn g first cap => ∃ v σ', ACall P g (first ++ args ++ cap) σ v σ' ∧ k.val v σ'
  | _ => False
def astep (P : Program) (o : Oper) (env : Env) (σ : AHeap) (K : Env → AHeap → Prop) : Prop :=
  match o.op with
  | .call ⟨.value f, args, _⟩ => @callP P (aeval env f) (args.toList.map (aeval env)) σ ⟨fun v σ' => K (env.put o.dst v) σ'⟩
  | op => @bindO (aop P (aeval env) op σ) ⟨fun v σ' => K (env.put o.dst v) σ'⟩
def agated (g : Option Bool) [yes : Kt Prop] [no : Kt Prop] : Prop :=
  match g with
  | some b => (b = true → yes.val) ∧ (b = false → no.val)
  | none => False
def aops (P : Program) (ops : Array Oper) : List Oper → Env → AHeap → (Env → AHeap → Prop) → Prop
  | [], env, σ, K => K env σ
  | o :: os, env, σ, K => @agated (agate ops env o) ⟨astep P o env σ fun env' σ' => aops P ops os env' σ' K⟩ ⟨aops P ops os (env.put o.dst (.tup [])) σ K⟩
/-! ### soundness of a step -/
section
variable {P : Program} {μ : Mu} {σ σ' : AHeap} {w : World} {v : AV} {N : Nat} {env : Env} {a : Act}
theorem EnvR.eval (h : EnvR μ N env a) (x : Operand) : VR μ (aeval env x) (a.eval x) := by
  cases x with
  | tmp t => exact h.tmps t
  | const v => exact VR_ofValue μ v
  | global g => exact .undef _
  | func f => exact .fn f [] [] #[] #[] rfl rfl (fun j a u h _ => by simp at h) (fun j a u h _ => by simp at h)
theorem EnvR.mono {μ' : Mu} (h : EnvR μ N env a) (hm : ∀ i l, μ i = some l → μ' i = some l) : EnvR μ' N env a :=
  ⟨h.defers, h.size, fun t => (h.tmps t).mono hm⟩
theorem EnvR.put (h : EnvR μ N env a) {dst : Option Tmp} (hd : ∀ d, dst = some d → d < N) {u : Value} (hv : VR μ v u) : EnvR μ N (env.put dst v) (a.put dst u) := by
  cases dst with
  | none => exact h
  | some d =>
    have hdN := hd d rfl
    refine ⟨h.defers, by simp [Act.put, h.size], fun t => ?_⟩
    simp only [Env.put, Act.put]
    by_cases ht : t = d
    · subst ht
      rw [if_pos rfl]
      have : t < a.tmps.size := by rw [h.size]; exact hdN
      have e : (a.tmps.setIfInBounds t u).getD t undef = u := by simp [Array.getD, this]
      rw [e]; exact hv
    · rw [if_neg ht]
      have e : (a.tmps.setIfInBounds d u).getD t undef = a.tmps.getD t undef := by
        simp only [Array.getD_eq_getD_getElem?]
        rw [Array.getElem?_setIfInBounds_ne (Ne.symm ht)]
      rw [e]; exact h.tmps t
theorem gate_sound (h : EnvR μ N env a) {ops : Array Oper} {o : Oper} {g : Bool} (hg : agate ops env o = some g) : Region.wanted o (yielded ops a.tmps) = g := by
  unfold agate at hg
  unfold Region.wanted
  split at hg
  next hgd => rw [hgd]; cases hg; rfl
  next j want hgd =>
    rw [hgd]
    split at hg
    next d hd =>
      split at hg
      next b hb =>
        cases hg
        have ht := h.tmps d
        rw [hb] at ht
        have hy : yielded ops a.tmps j = some b := by
          unfold yielded
          rw [hd]
          rw [Array.getD_eq_getD_getElem?] at ht
          cases hq : a.tmps[d]? with
          | none => rw [hq] at ht; simp only [Option.getD_none, undef] at ht; cases ht
          | some x =>
            rw [hq] at ht
            simp only [Option.getD_some] at ht
            cases ht
            simp [hq]
        simp [hy]
      next hb =>
        cases hg
        have ht := h.tmps d
        rw [hb] at ht
        have hy : yielded ops a.tmps j = none := by
          unfold yielded
          rw [hd]
          rw [Array.getD_eq_getD_getElem?] at ht
          cases hq : a.tmps[d]? with
          | none => simp [hq]
          | some x =>
            rw [hq] at ht
            simp only [Option.getD_some] at ht
            cases ht
            simp [hq]
        simp [hy]
      next => cases hg
    next => cases hg
/-- What follows a step in the world: the abstract memory as well. -/
def Post (P : Program) (N : Nat) (μ : Mu) (σ : AHeap) (w : World) (K : Env → AHeap → Prop) (a' : Act) (w' : World) : Prop :=
  ∃ env' σ' μ', K env' σ' ∧ EnvR μ' N env' a' ∧ Rel μ' σ' w' ∧ Step μ σ w μ' σ' w'
theorem Step.mono_mu {μ' : Mu} {w' : World} (hR : Rel μ σ w) (h : Step μ σ w μ' σ' w') : ∀ i l, μ i = some l → μ' i = some l := by
  intro i l hl
  rw [h.ext i (hR.dom i l hl)]; exact hl
theorem args_sound {ρ : Operand → AV} {ρ' : Operand → Value} (hρ : ∀ x, VR μ (ρ x) (ρ' x)) (xs : List Operand) : VRs μ (xs.map ρ) (xs.map ρ') := VRs.map xs ρ ρ' fun x _ => hρ x
/-- One operation that is wanted. -/
theorem AOp_sound (hR : Rel μ σ w) (hE : EnvR μ N env a) {o : Oper} (hd : ∀ d, o.dst = some d → d < N) (h : AOp P (aeval env) o σ v σ')
    {K : Act → World → Prop} {Q : Exit → Act → World → Prop}
    (hK : ∀ (u : Value) w' μ', VR μ' v u → Rel μ' σ' w' → Step μ σ w μ' σ' w' → K (a.put o.dst u) w') : o.wp P a w K Q := by
  unfold AOp at h
  split at h
  next f args ts ho =>
    split at h
    next g first cap hf =>
      have hv := hE.eval f
      rw [hf] at hv
      generalize hq : a.eval f = q at hv
      cases hv
      rename_i us vs hx h1 hy h2
      obtain ⟨⟨fn, hfn, hn, hb⟩, _, hc⟩ := h
      unfold Oper.wp
      have hargs : VRs μ (first ++ args.toList.map (aeval env) ++ cap) (us ++ args.map a.eval ++ vs).toList := by
        simp only [Array.toList_append, Array.toList_map]
        exact ((VRs.of_agg hx h1).append (args_sound (fun x => hE.eval x) _)).append (VRs.of_agg hy h2)
      have hrun : (execOp a.eval o).run P w = .ok (.enter g (us ++ args.map a.eval ++ vs)) w := by
        simp only [execOp, ho, resolve, hq, Deferred.ofValue, Sem.run_bind, Sem.run_pure, Result.andThen_ok, invoke, callFunc, run_program, hfn, hn, hb, Bool.false_eq_true, if_false]
      rw [hrun, Oper.upon_enter]
      refine (hc μ w _ hR hargs).mono ?_
      rintro e w' ⟨u, μ', rfl, hvu, hR', hS⟩
      exact hK u w' μ' hvu hR' hS
    next => exact h.elim
  next =>
    obtain ⟨r, u, w', μ', hr, hru, hvu, hR', hS⟩ := aop_sound (P := P) hR (fun x => hE.eval x) h
    unfold Oper.wp
    rw [hr]
    rcases hru with rfl | ⟨rfl, rfl⟩
    · exact hK u w' μ' hvu hR' hS
    · exact hK undef w' μ' hvu hR' hS
theorem astep_AOp {o : Oper} {K : Env → AHeap → Prop} (h : astep P o env σ K) : ∃ v σ', AOp P (aeval env) o σ v σ' ∧ K (env.put o.dst v) σ' := by
  unfold astep at h
  unfold AOp
  split at h
  next f args ts ho =>
    unfold callP at h
    split at h
    next g first cap hf =>
      obtain ⟨v, σ', hc, hK⟩ := h
      refine ⟨v, σ', ?_, hK⟩
      first
        | exact hc
        | (rw [hf]; exact hc)
    next => exact h.elim
  next op hop =>
    unfold bindO at h
    split at h
    next v σ' he => exact ⟨v, σ', he, h⟩
    next => exact h.elim
theorem Post.trans {μ' : Mu} {w' : World} {K : Env → AHeap → Prop} {a' : Act} {w'' : World} (hS : Step μ σ w μ' σ' w') (h : Post P N μ' σ' w' K a' w'') : Post P N μ σ w K a' w'' := by
  obtain ⟨e, s, m, hK, hE, hR, hS'⟩ := h
  exact ⟨e, s, m, hK, hE, hR, hS.trans hS'⟩
def dstOk (N : Nat) (o : Oper) : Bool :=
  match o.dst with
  | some d => decide (d < N)
  | none => true
theorem dstOk_lt {o : Oper} (h : dstOk N o = true) : ∀ d, o.dst = some d → d < N := by
  intro d hd
  unfold dstOk at h
  rw [hd] at h
  simpa using h
/-- A region in the order of its text. -/
theorem aops_sound (ops : Array Oper) (hd : ops.toList.all (dstOk N) = true) {K : Env → AHeap → Prop} {Q : Exit → Act → World → Prop} {μ₀ : Mu} {σ₀ : AHeap} {w₀ : World}
    (hQ : ∀ a w, Post P N μ₀ σ₀ w₀ K a w → Q .normal a w) :
    ∀ (n k : Nat), k + n = ops.size → ∀ (env : Env) (σ : AHeap) (μ : Mu) (a : Act) (w : World), aops P ops (ops.toList.drop k) env σ K → EnvR μ N env a → Rel μ σ w → Step μ₀ σ₀ w₀ μ σ w →
      wpOps P ops Q (List.range' k n) a w := by
  intro n
  induction n with
  | zero =>
    intro k hk env σ μ a w h hE hR hS
    have : ops.toList.drop k = [] := by rw [List.drop_eq_nil_iff]; simp; omega
    rw [this] at h
    exact hQ a w ⟨env, σ, μ, h, hE, hR, hS⟩
  | succ n ih =>
    intro k hk env σ μ a w h hE hR hS
    have hlt : k < ops.size := by omega
    have hdrop : ops.toList.drop k = ops[k] :: ops.toList.drop (k + 1) := by
      rw [List.drop_eq_getElem_cons (by simpa using hlt)]; simp
    rw [hdrop] at h
    simp only [aops] at h
    have hdk : ∀ d, ops[k].dst = some d → d < N := dstOk_lt (by rw [List.all_eq_true] at hd; exact hd _ (by simp))
    simp only [List.range'_succ, wpOps, Array.getElem?_eq_getElem hlt]
    unfold agated at h
    cases hgt : agate ops env ops[k] with
    | none => rw [hgt] at h; exact h.elim
    | some g =>
    rw [hgt] at h
    cases g with
    | true =>
      rw [gate_sound hE hgt, if_pos rfl]
      left
      obtain ⟨v, σ', hop, hK⟩ := astep_AOp (h.1 rfl)
      refine AOp_sound hR hE hdk hop ?_
      intro u w' μ' hv hR' hS'
      exact ih (k + 1) (by omega) _ _ _ _ _ hK ((hE.mono (hS'.mono_mu hR)).put hdk hv) hR' (hS.trans hS')
    | false =>
      rw [gate_sound hE hgt]
      exact ih (k + 1) (by omega) _ _ _ _ _ (h.2 rfl) (hE.put hdk (VR_skip _)) hR hS
theorem region_sound {id : Nat} {ops : Array Oper} (hd : ops.toList.all (dstOk N) = true) {K : Env → AHeap → Prop} {Q : Exit → Act → World → Prop}
    (hQ : ∀ a w', Post P N μ σ w K a w' → Q .normal a w') (h : aops P ops ops.toList env σ K) (hE : EnvR μ N env a) (hR : Rel μ σ w) : (Code.region id ops false).wp P Q a w := by
  refine wp_region ?_
  rw [List.range_eq_range']
  exact aops_sound ops hd hQ ops.size 0 (by omega) env σ μ a w (by simpa using h) hE hR (Step.refl _ _ _)
end
end AH
/- THE ABSTRACT MACHINE: regions whose order Go leaves open. The text's order stands for all of them where what a load looks at is the same ahead of each unordered writer and behind it. Definitions. -/
namespace AH
open Go
/-- What is told of a region that draws its order: of each operation those that surely come ahead of it (bits); the pairs (a load, or an allocation of 'res'; a writer) that must not meet; the allocations whose place is kept for them from the region's beginning on. -/
structure DOrd where
  bef : List Nat
  prs : List (Nat × Nat)
  res : List Nat
/-- One operation of a region: the block that it looks at or makes, the memory ahead of it and behind it. -/
structure DRec where
  at_ : Option Nat
  pre : AHeap
  post : AHeap
def AHeap.reserve (σ : AHeap) (c : Nat) : AHeap := ⟨σ.n + c, fun x => if σ.n ≤ x ∧ x < σ.n + c then none else σ.get x⟩
/-- An allocation at a place that was kept for it. -/
def aopAt (P : Program) (ρ : Operand → AV) (op : Op) (i : Nat) (σ : AHeap) : Option (AV × AHeap) :=
  match aop P ρ op ⟨i, fun _ => none⟩ with
  | some (v, τ) => match τ.get i with
    | some B => some (v, σ.set i B)
    | none => none
  | none => none
def touched (env : Env) (o : Oper) : Option Nat :=
  match o.op with
  | .load _ a => match aeval env a with
    | .ptr i _ => some i
    | _ => none
  | _ => none
/-- The place kept for operation k. -/
def keptAt (base : Nat) (res : List Nat) (k : Nat) : Option Nat := (res.findIdx? (· == k)).map (base + ·)
def astepT (P : Program) (o : Oper) (kept : Option Nat) (env : Env) (σ : AHeap) (K : Env → AHeap → Prop) : Prop :=
  match kept with
  | none => astep P o env σ K
  | some i => @bindO (aopAt P (aeval env) o.op i σ) ⟨fun v σ' => K (env.put o.dst v) σ'⟩
def atOf : Option Nat → Option Nat → Option Nat
  | none, t => t
  | some i, _ => some i
def aopsT (P : Program) (ops : Array Oper) (base : Nat) (res : List Nat) : Nat → List Oper → Env → AHeap → List DRec → (Env → AHeap → List DRec → Prop) → Prop
  | _, [], env, σ, tr, K => K env σ tr
  | k, o :: os, env, σ, tr, K => @agated (agate ops env o)
      ⟨astepT P o (keptAt base res k) env σ fun env' σ' => aopsT P ops base res (k + 1) os env' σ' (⟨atOf (keptAt base res k) (touched env o), σ, σ'⟩ :: tr) K⟩
      ⟨aopsT P ops base res (k + 1) os (env.put o.dst (.tup [])) σ (⟨keptAt base res k, σ, σ⟩ :: tr) K⟩
/-- The pair (j, i): what j looks at, or has made, is the same ahead of i and behind it. -/
def chkPair (n : Nat) (tr : List DRec) (p : Nat × Nat) : Prop :=
  match tr[n - 1 - p.1]?, tr[n - 1 - p.2]? with
  | some x, some y => match x.at_ with
    | some b => y.pre.get b = y.post.get b
    | none => True
  | _, _ => False
def chkAll (n : Nat) (tr : List DRec) : List (Nat × Nat) → Prop
  | [] => True
  | p :: ps => chkPair n tr p ∧ chkAll n tr ps
def adraw (P : Program) (ops : Array Oper) (d : DOrd) (env : Env) (σ : AHeap) [K : Kt (Env → AHeap → Prop)] : Prop :=
  aopsT P ops σ.n d.res 0 ops.toList env (if d.res = [] then σ else σ.reserve d.res.length) [] fun env' σ' tr => chkAll ops.size tr d.prs ∧ K.val env' σ'
/-! ### what is asked of DOrd -/
def befOk (ops : Array Oper) (B : List Nat) : Bool :=
  (List.range ops.size).all fun j => (List.range ops.size).all fun i =>
    !(B.getD j 0).testBit i || match ops[j]? with
      | some o => o.after.any fun e => Region.binds .any e && decide (e.on < j) && (e.on == i || (B.getD e.on 0).testBit i)
      | none => false
def ordered (B : List Nat) (i j : Nat) : Bool := if i < j then (B.getD j 0).testBit i else (B.getD i 0).testBit j
def isM (res : List Nat) (k : Nat) (op : Op) : Bool := !res.contains k && (isE op || isN op)
def dordOk (N : Nat) (ops : Array Oper) (d : DOrd) : Bool :=
  befOk ops d.bef && ops.toList.all (dstOk N) && (decide d.res.Nodup && d.res.all (fun k => decide (k < ops.size))) &&
  ((List.range ops.size).all fun j => match ops[j]? with
    | some x => (!d.res.contains j || isN x.op) && x.after.all fun e => !Region.binds .any e || decide (e.on < j)
    | none => true) &&
  (List.range ops.size).all fun j => (List.range ops.size).all fun i =>
    match ops[j]?, ops[i]? with
    | some x, some y =>
      i == j ||
      ((match y.dst with
        | some t => x.dst != some t && (!(x.looksAt ops).contains t || ordered d.bef i j)
        | none => true) &&
       (!(isM d.res j x.op && isM d.res i y.op) || ordered d.bef i j) &&
       (!(isL x.op && isM d.res i y.op) || ordered d.bef i j || d.prs.contains (j, i)) &&
       (!(d.res.contains j && isM d.res i y.op) || (decide (j < i) && ordered d.bef i j) || d.prs.contains (j, i)))
    | _, _ => true
end AH
/- THE ABSTRACT MACHINE: every order of a region that draws does what the order of its text does. -/
namespace AH
open Go
theorem aop_congr {P : Program} {ρ ρ' : Operand → AV} (op : Op) (σ : AHeap) (h : ∀ x ∈ op.operands, ρ x = ρ' x) : aop P ρ op σ = aop P ρ' op σ := by
  have pairs : ∀ ps : Array (Nat × Operand), (∀ x ∈ (ps.toList.map (·.2)).toArray, ρ x = ρ' x) → (ps.toList.map fun (i, x) => (i, ρ x)) = (ps.toList.map fun (i, x) => (i, ρ' x)) := by
    intro ps hp
    refine List.map_congr_left ?_
    rintro ⟨i, x⟩ hm
    show (i, ρ x) = (i, ρ' x)
    rw [hp x (by simp; exact ⟨i, by simpa using hm⟩)]
  have lst : ∀ xs : Array Operand, (∀ x ∈ xs, ρ x = ρ' x) → xs.toList.map ρ = xs.toList.map ρ' := fun xs hx => List.map_congr_left fun x hm => hx x (by simpa using hm)
  have opt : ∀ x : Option Operand, (∀ y ∈ x.toArray, ρ y = ρ' y) → x.map ρ = x.map ρ' := by
    intro x hx
    cases x with
    | none => rfl
    | some y => simp [hx y (by simp)]
  cases op <;> simp only [Op.operands] at h <;> simp only [aop]
  case move x => rw [h x (by simp)]
  case assign x => rw [h x (by simp)]
  case pick a b c => rw [h a (by simp), h b (by simp), h c (by simp)]
  case box e x => rw [h x (by simp)]
  case build t ps => rw [pairs ps h]
  case buildSlice t n ps => rw [pairs ps h]
  case load t x => rw [h x (by simp)]
  case store t x y => rw [h x (by simp), h y (by simp)]
  case nilCheck x => rw [h x (by simp)]
  case binOp op t x y u => rw [h x (by simp), h y (by simp)]
  case unOp op t x => rw [h x (by simp)]
  case convert s d x => rw [h x (by simp)]
  case makeFunc f a b =>
    cases f <;> simp only
    rw [lst a fun x hx => h x (by simp [hx]), lst b fun x hx => h x (by simp [hx])]
  case makeSlice t x y => rw [h x (by simp), h y (by simp)]
  case slice t x a b c =>
    cases c <;> simp only
    rw [h x (by simp), opt a fun y hy => h y (by simp at hy ⊢; simp [hy]), opt b fun y hy => h y (by simp at hy ⊢; simp [hy])]
  case fieldAddr t x f => rw [h x (by simp)]
  case indexAddr t x y => rw [h x (by simp), h y (by simp)]
  case index t x y => rw [h x (by simp), h y (by simp)]
  case extract x i => rw [h x (by simp)]
  case call c =>
    obtain ⟨callee, args, ts⟩ := c
    cases callee <;> simp only
    case builtin b =>
      have ha : ∀ x ∈ args.toList, ρ x = ρ' x := fun x hx => h x (by simp [Call.operands]; simpa using hx)
      generalize args.toList = as at ha
      split
      · rename_i x t _; rw [ha x (by simp)]
      · rename_i s x t tx _; rw [ha s (by simp), ha x (by simp)]
      · rename_i s x t tx _; rw [ha s (by simp), ha x (by simp)]
      · rename_i x xs
        have hx := ha x (by simp)
        have hxs : ∀ y ∈ xs, ρ y = ρ' y := fun y hy => ha y (by simp [hy])
        have key : ∀ (xs : List Operand) (a : AV), (∀ y ∈ xs, ρ y = ρ' y) → xs.foldlM (fun a y => amax2 a (ρ y)) a = xs.foldlM (fun a y => amax2 a (ρ' y)) a := by
          intro xs
          induction xs with
          | nil => intros; rfl
          | cons y ys ih =>
            intro a hy
            simp only [List.foldlM_cons, hy y (by simp)]
            congr 1
            funext b
            exact ih b fun z hz => hy z (by simp [hz])
        rw [hx, key xs _ hxs]
      · rename_i x xs
        have hx := ha x (by simp)
        have hxs : ∀ y ∈ xs, ρ y = ρ' y := fun y hy => ha y (by simp [hy])
        have key : ∀ (xs : List Operand) (a : AV), (∀ y ∈ xs, ρ y = ρ' y) → xs.foldlM (fun a y => amin2 a (ρ y)) a = xs.foldlM (fun a y => amin2 a (ρ' y)) a := by
          intro xs
          induction xs with
          | nil => intros; rfl
          | cons y ys ih =>
            intro a hy
            simp only [List.foldlM_cons, hy y (by simp)]
            congr 1
            funext b
            exact ih b fun z hz => hy z (by simp [hz])
        rw [hx, key xs _ hxs]
      · rfl
theorem aop_n {P : Program} {ρ : Operand → AV} {op : Op} {σ σ' : AHeap} {v : AV} (h : aop P ρ op σ = some (v, σ')) : σ.n ≤ σ'.n := by
  cases hN : isN op with
  | true =>
    cases op <;> simp only [isN, reduceCtorEq, Bool.false_eq_true] at hN <;> simp only [aop] at h
    case alloc e => cases hz : tyZero P e with
      | none => rw [hz] at h; cases h
      | some z => rw [hz] at h; cases h; simp
    case box e x => cases hc : (ρ x).cells with
      | none => rw [hc] at h; cases h
      | some z => rw [hc] at h; cases h; simp
    case buildSlice t len parts =>
      split at h
      · split at h
        · cases hf : afill _ _ _ with
          | none => rw [hf] at h; cases h
          | some cs => rw [hf] at h; cases h; simp
        · cases h
      · cases h
    case makeSlice t l c =>
      unfold amake at h
      split at h
      · split at h
        · cases h; simp
        · cases h
      · cases h
  | false =>
    cases hE : isE op with
    | false => rw [aopQ_same hE hN h]; exact Nat.le_refl _
    | true =>
      cases op <;> simp only [isE, Bool.false_eq_true] at hE <;> simp only [aop] at h <;> try (cases h; done)
      case store t a x =>
        cases hs : astore P t (ρ a) (ρ x) σ with
        | none => rw [hs] at h; cases h
        | some r =>
          rw [hs] at h; cases h
          unfold astore at hs
          split at hs
          · split at hs
            · split at hs
              · cases hs; simp
              · cases hs
            · cases hs
          · cases hs
      case call c =>
        obtain ⟨callee, args, ts⟩ := c
        cases callee <;> (try simp only at h) <;> try (cases h; done)
        case builtin b =>
          split at h
          · cases hE
          · split at h
            · unfold aappend at h
              split at h
              · cases h
              · split at h
                · split at h
                  · split at h
                    · cases h; exact Nat.le_refl _
                    · split at h
                      · cases h; simp
                      · cases h
                  · split at h
                    · split at h
                      · cases h; simp
                      · split at h
                        · cases h; exact Nat.le_refl _
                        · cases h
                    · split at h
                      · cases h; exact Nat.le_refl _
                      · cases h
                  · cases h
                · cases h
            · cases h
          · unfold acopy at h
            split at h
            · split at h
              · cases h; exact Nat.le_refl _
              · split at h
                · split at h
                  · split at h
                    · cases h; simp
                    · cases h
                  · cases h
                · cases h
            · cases h; exact Nat.le_refl _
            · cases h
          · cases hE
          · cases hE
          · cases h
theorem AOp_n {P : Program} {ρ : Operand → AV} {o : Oper} {σ σ' : AHeap} {v : AV} (h : AOp P ρ o σ v σ') : σ.n ≤ σ'.n := by
  unfold AOp at h
  split at h
  · split at h
    · exact h.2.1
    · exact h.elim
  · exact aop_n h
/-! ### the run in the text's order -/
def OpT (P : Program) (kept : Option Nat) (ρ : Operand → AV) (o : Oper) (σ : AHeap) (v : AV) (σ' : AHeap) : Prop :=
  match kept with
  | none => AOp P ρ o σ v σ'
  | some x => aopAt P ρ o.op x σ = some (v, σ')
def StepAt (P : Program) (ops : Array Oper) (base : Nat) (res : List Nat) (E : Nat → Env) (S : Nat → AHeap) (i : Nat) (o : Oper) : Prop :=
  (agate ops (E i) o = some true ∧ ∃ v, OpT P (keptAt base res i) (aeval (E i)) o (S i) v (S (i + 1)) ∧ E (i + 1) = (E i).put o.dst v) ∨
  (agate ops (E i) o = some false ∧ E (i + 1) = (E i).put o.dst (.tup []) ∧ S (i + 1) = S i)
def lookAt (ops : Array Oper) (base : Nat) (res : List Nat) (E : Nat → Env) (i : Nat) (o : Oper) : Option Nat :=
  if agate ops (E i) o = some true then atOf (keptAt base res i) (touched (E i) o) else keptAt base res i
theorem chain_of {P : Program} {ops : Array Oper} {base : Nat} {res : List Nat} {K : Env → AHeap → List DRec → Prop} : ∀ (m k : Nat) (env : Env) (σ : AHeap) (tr : List DRec), k + m = ops.size → tr.length = k →
    aopsT P ops base res k (ops.toList.drop k) env σ tr K →
    ∃ (E : Nat → Env) (S : Nat → AHeap) (trf : List DRec), E k = env ∧ S k = σ ∧ (∀ i o, k ≤ i → ops[i]? = some o → StepAt P ops base res E S i o) ∧
      (∀ i, i < k → trf[ops.size - 1 - i]? = tr[k - 1 - i]?) ∧ (∀ i o, k ≤ i → ops[i]? = some o → trf[ops.size - 1 - i]? = some ⟨lookAt ops base res E i o, S i, S (i + 1)⟩) ∧
      K (E ops.size) (S ops.size) trf := by
  intro m
  induction m with
  | zero =>
    intro k env σ tr hk htr h
    have hkn : k = ops.size := by omega
    have : ops.toList.drop k = [] := by rw [List.drop_eq_nil_iff]; simp; omega
    rw [this] at h
    refine ⟨fun _ => env, fun _ => σ, tr, rfl, rfl, ?_, ?_, ?_, h⟩
    · intro i o hi ho
      have := (Array.getElem?_eq_some_iff.1 ho).1
      omega
    · intro i hi; rw [hkn]
    · intro i o hi ho
      have := (Array.getElem?_eq_some_iff.1 ho).1
      omega
  | succ m ih =>
    intro k env σ tr hk htr h
    have hlt : k < ops.size := by omega
    have hok : ops[k]? = some ops[k] := Array.getElem?_eq_getElem hlt
    have hdrop : ops.toList.drop k = ops[k] :: ops.toList.drop (k + 1) := by
      rw [List.drop_eq_getElem_cons (by simpa using hlt)]; simp
    rw [hdrop] at h
    simp only [aopsT] at h
    have fin : ∀ (env' : Env) (σ' : AHeap) (at_ : Option Nat), aopsT P ops base res (k + 1) (ops.toList.drop (k + 1)) env' σ' (⟨at_, σ, σ'⟩ :: tr) K →
        (∀ (E : Nat → Env) (S : Nat → AHeap), E k = env → E (k + 1) = env' → S k = σ → S (k + 1) = σ' → StepAt P ops base res E S k ops[k] ∧ lookAt ops base res E k ops[k] = at_) →
        ∃ (E : Nat → Env) (S : Nat → AHeap) (trf : List DRec), E k = env ∧ S k = σ ∧ (∀ i o, k ≤ i → ops[i]? = some o → StepAt P ops base res E S i o) ∧
          (∀ i, i < k → trf[ops.size - 1 - i]? = tr[k - 1 - i]?) ∧ (∀ i o, k ≤ i → ops[i]? = some o → trf[ops.size - 1 - i]? = some ⟨lookAt ops base res E i o, S i, S (i + 1)⟩) ∧
          K (E ops.size) (S ops.size) trf := by
      intro env' σ' at_ hrun hstep
      obtain ⟨E, S, trf, hE, hS, h1, h2, h3, h4⟩ := ih (k + 1) env' σ' (⟨at_, σ, σ'⟩ :: tr) (by omega) (by simp [htr]) hrun
      let E' : Nat → Env := fun i => if i = k then env else E i
      let S' : Nat → AHeap := fun i => if i = k then σ else S i
      have eE : ∀ i, k + 1 ≤ i → E' i = E i := fun i hi => if_neg (by omega)
      have eS : ∀ i, k + 1 ≤ i → S' i = S i := fun i hi => if_neg (by omega)
      have hk0 := hstep E' S' (if_pos rfl) ((eE _ (Nat.le_refl _)).trans hE) (if_pos rfl) ((eS _ (Nat.le_refl _)).trans hS)
      refine ⟨E', S', trf, if_pos rfl, if_pos rfl, ?_, ?_, ?_, ?_⟩
      · intro i o hi ho
        by_cases hik : i = k
        · subst hik; rw [hok] at ho; cases ho; exact hk0.1
        · have := h1 i o (by omega) ho
          unfold StepAt at this ⊢
          rw [eE i (by omega), eE (i + 1) (by omega), eS i (by omega), eS (i + 1) (by omega)]
          exact this
      · intro i hi
        rw [h2 i (by omega), show k + 1 - 1 - i = (k - 1 - i) + 1 by omega, List.getElem?_cons_succ]
      · intro i o hi ho
        by_cases hik : i = k
        · subst hik; rw [hok] at ho; cases ho
          rw [h2 i (by omega), show i + 1 - 1 - i = 0 by omega, List.getElem?_cons_zero, hk0.2, eS (i + 1) (by omega), hS]
          simp [S']
        · rw [h3 i o (by omega) ho]
          unfold lookAt
          rw [eE i (by omega), eS i (by omega), eS (i + 1) (by omega)]
      · rw [eE _ (by omega), eS _ (by omega)]; exact h4
    unfold agated at h
    cases hg : agate ops env ops[k] with
    | none => rw [hg] at h; exact h.elim
    | some g =>
      rw [hg] at h
      cases g with
      | true =>
        have h := h.1 rfl
        have hop : ∃ v σ', OpT P (keptAt base res k) (aeval env) ops[k] σ v σ' ∧ aopsT P ops base res (k + 1) (ops.toList.drop (k + 1)) (env.put ops[k].dst v) σ' (⟨atOf (keptAt base res k) (touched env ops[k]), σ, σ'⟩ :: tr) K := by
          unfold astepT at h
          cases hkp : keptAt base res k with
          | none =>
            rw [hkp] at h
            obtain ⟨v, σ', h1, h2⟩ := astep_AOp h
            exact ⟨v, σ', h1, h2⟩
          | some x =>
            rw [hkp] at h
            simp only [bindO] at h
            split at h
            · rename_i v σ' he; exact ⟨v, σ', he, h⟩
            · exact h.elim
        obtain ⟨v, σ', h1, h2⟩ := hop
        refine fin _ _ _ h2 ?_
        intro E S e1 e2 e3 e4
        refine ⟨.inl ⟨by rw [e1]; exact hg, v, by rw [e1, e3, e4]; exact h1, by rw [e1, e2]⟩, ?_⟩
        unfold lookAt
        rw [e1, if_pos hg]
      | false =>
        have h := h.2 rfl
        refine fin _ _ _ h ?_
        intro E S e1 e2 e3 e4
        refine ⟨.inr ⟨by rw [e1]; exact hg, by rw [e1, e2], by rw [e3, e4]⟩, ?_⟩
        unfold lookAt
        rw [e1, hg, if_neg (by simp)]
end AH
/- THE ABSTRACT MACHINE: every order of a region that draws: the invariant. -/
namespace AH
open Go
structure DFacts (N : Nat) (ops : Array Oper) (d : DOrd) : Prop where
  bef : ∀ (j i : Nat), j < ops.size → i < ops.size → (d.bef.getD j 0).testBit i = true →
    ∃ (o : Oper) (e : Edge), ops[j]? = some o ∧ e ∈ o.after ∧ Region.binds .any e = true ∧ e.on < j ∧ (e.on = i ∨ (d.bef.getD e.on 0).testBit i = true)
  dst : ∀ (i : Nat) (o : Oper), ops[i]? = some o → ∀ t, o.dst = some t → t < N
  nodup : d.res.Nodup
  resn : ∀ k, k ∈ d.res → k < ops.size
  res : ∀ (j : Nat) (o : Oper), ops[j]? = some o → j ∈ d.res → isN o.op = true
  edge : ∀ (j : Nat) (o : Oper) (e : Edge), ops[j]? = some o → e ∈ o.after → Region.binds .any e = true → e.on < j
  dst1 : ∀ (j i : Nat) (x y : Oper) (t : Tmp), i ≠ j → ops[j]? = some x → ops[i]? = some y → y.dst = some t → x.dst ≠ some t
  names : ∀ (j i : Nat) (x y : Oper) (t : Tmp), i ≠ j → ops[j]? = some x → ops[i]? = some y → y.dst = some t → t ∈ x.looksAt ops → ordered d.bef i j = true
  mm : ∀ (j i : Nat) (x y : Oper), i ≠ j → ops[j]? = some x → ops[i]? = some y → isM d.res j x.op = true → isM d.res i y.op = true → ordered d.bef i j = true
  lm : ∀ (j i : Nat) (x y : Oper), i ≠ j → ops[j]? = some x → ops[i]? = some y → isL x.op = true → isM d.res i y.op = true → ordered d.bef i j = true ∨ (j, i) ∈ d.prs
  rm : ∀ (j i : Nat) (x y : Oper), i ≠ j → ops[j]? = some x → ops[i]? = some y → j ∈ d.res → isM d.res i y.op = true → (j < i ∧ ordered d.bef i j = true) ∨ (j, i) ∈ d.prs
theorem dfacts {N : Nat} {ops : Array Oper} {d : DOrd} (h : dordOk N ops d = true) : DFacts N ops d := by
  unfold dordOk at h
  simp only [Bool.and_eq_true, List.all_eq_true, List.mem_range, decide_eq_true_eq] at h
  obtain ⟨⟨⟨⟨h1, h2⟩, h3, h3'⟩, h4⟩, h5⟩ := h
  have pair : ∀ j i x y, i ≠ j → ops[j]? = some x → ops[i]? = some y → _ := fun j i x y hij hx hy => by
    have := h5 j (Array.getElem?_eq_some_iff.1 hx).1 i (Array.getElem?_eq_some_iff.1 hy).1
    rw [hx, hy] at this
    simp only [Bool.or_eq_true, beq_iff_eq, Bool.and_eq_true] at this
    exact this.resolve_left hij
  refine ⟨?_, ?_, h3, h3', ?_, ?_, ?_, ?_, ?_, ?_, ?_⟩
  · intro j i hj hi hb
    unfold befOk at h1
    simp only [List.all_eq_true, List.mem_range] at h1
    have := h1 j hj i hi
    rw [hb, Array.getElem?_eq_getElem hj] at this
    simp only [Bool.not_true, Bool.false_or, Array.any_eq_true', Bool.and_eq_true, decide_eq_true_eq, Bool.or_eq_true, beq_iff_eq] at this
    obtain ⟨e, he, ⟨hb', hlt⟩, hor⟩ := this
    exact ⟨_, e, Array.getElem?_eq_getElem hj, he, hb', hlt, hor⟩
  · intro i o ho
    refine dstOk_lt (h2 o ?_)
    rw [Array.mem_toList_iff]
    exact Array.mem_of_getElem? ho
  · intro j o ho hj
    have := h4 j (Array.getElem?_eq_some_iff.1 ho).1
    rw [ho] at this
    simp only [Bool.and_eq_true, Bool.or_eq_true, Bool.not_eq_true', List.contains_eq_mem, decide_eq_false_iff_not] at this
    exact this.1.resolve_left fun hn => hn hj
  · intro j o e ho he hb
    have := h4 j (Array.getElem?_eq_some_iff.1 ho).1
    rw [ho] at this
    simp only [Bool.and_eq_true, Array.all_eq_true', Bool.or_eq_true, Bool.not_eq_true', decide_eq_true_eq] at this
    rcases this.2 e he with hf | hlt
    · rw [hb] at hf; cases hf
    · exact hlt
  · intro j i x y t hij hx hy ht
    have := (pair j i x y hij hx hy).1.1.1
    rw [ht] at this
    simp only [Bool.and_eq_true, bne_iff_ne, ne_eq] at this
    exact this.1
  · intro j i x y t hij hx hy ht hm
    have := (pair j i x y hij hx hy).1.1.1
    rw [ht] at this
    simp only [Bool.and_eq_true, Bool.or_eq_true, Bool.not_eq_true', List.contains_eq_mem, decide_eq_false_iff_not] at this
    exact this.2.resolve_left fun hn => hn hm
  · intro j i x y hij hx hy hmx hmy
    have := (pair j i x y hij hx hy).1.1.2
    rw [hmx, hmy] at this
    simpa using this
  · intro j i x y hij hx hy hmx hmy
    have := (pair j i x y hij hx hy).1.2
    rw [hmx, hmy] at this
    simpa [or_assoc] using this
  · intro j i x y hij hx hy hmx hmy
    have := (pair j i x y hij hx hy).2
    rw [hmy, show d.res.contains j = true by simpa using hmx] at this
    simpa using this
theorem keptAt_mem {base : Nat} {res : List Nat} {k x : Nat} (h : keptAt base res k = some x) : k ∈ res ∧ base ≤ x ∧ x < base + res.length ∧ res[x - base]? = some k := by
  unfold keptAt at h
  cases hf : res.findIdx? (· == k) with
  | none => rw [hf] at h; cases h
  | some i =>
    rw [hf] at h
    obtain rfl : base + i = x := by simpa using h
    obtain ⟨hi, hk, _⟩ := List.findIdx?_eq_some_iff_getElem.1 hf
    have hk' : res[i] = k := by simpa using hk
    refine ⟨by rw [← hk']; exact List.getElem_mem hi, by omega, by omega, ?_⟩
    rw [show base + i - base = i by omega, List.getElem?_eq_getElem hi, hk']
theorem keptAt_inj {base : Nat} {res : List Nat} {k k' x : Nat} (h : keptAt base res k = some x) (h' : keptAt base res k' = some x) : k = k' := by
  have h1 := (keptAt_mem h).2.2.2
  have h2 := (keptAt_mem h').2.2.2
  rw [h1] at h2; cases h2; rfl
theorem keptAt_none {base : Nat} {res : List Nat} {k : Nat} (h : k ∉ res) : keptAt base res k = none := by
  cases hk : keptAt base res k with
  | none => rfl
  | some x => exact absurd (keptAt_mem hk).1 h
theorem keptAt_some {base : Nat} {res : List Nat} {k : Nat} (h : k ∈ res) : ∃ x, keptAt base res k = some x := by
  unfold keptAt
  cases hf : res.findIdx? (· == k) with
  | none =>
    rw [List.findIdx?_eq_none_iff] at hf
    have := hf k h
    simp at this
  | some i => exact ⟨_, rfl⟩
structure Ctx (P : Program) (N : Nat) (ops : Array Oper) (d : DOrd) (base : Nat) (E : Nat → Env) (S : Nat → AHeap) : Prop where
  F : DFacts N ops d
  step : ∀ (i : Nat) (o : Oper), ops[i]? = some o → StepAt P ops base d.res E S i o
  chk : ∀ (j i : Nat) (oj oi : Oper), (j, i) ∈ d.prs → ops[j]? = some oj → ops[i]? = some oi → ∀ x, lookAt ops base d.res E j oj = some x → (S i).get x = (S (i + 1)).get x
  none0 : ∀ k x, keptAt base d.res k = some x → (S 0).get x = none
  lt0 : ∀ k x, keptAt base d.res k = some x → x < (S 0).n
section
variable {P : Program} {N : Nat} {ops : Array Oper} {d : DOrd} {base : Nat} {E : Nat → Env} {S : Nat → AHeap}
theorem AOp_aop {ρ : Operand → AV} {o : Oper} {σ σ' : AHeap} {v : AV} (hE : isE o.op = false) (h : AOp P ρ o σ v σ') : aop P ρ o.op σ = some (v, σ') := by
  unfold AOp at h
  split at h
  next ho => rw [ho] at hE; cases hE
  next => exact h
theorem isM_false {res : List Nat} {i : Nat} {op : Op} (hM : isM res i op = false) (hr : i ∉ res) : isE op = false ∧ isN op = false := by
  unfold isM at hM
  simpa [hr] using hM
theorem Ctx.same (C : Ctx P N ops d base E S) {i : Nat} {o : Oper} (ho : ops[i]? = some o) (hM : isM d.res i o.op = false) (hr : i ∉ d.res) : S (i + 1) = S i := by
  obtain ⟨hE, hN⟩ := isM_false hM hr
  rcases C.step i o ho with ⟨_, v, hop, _⟩ | ⟨_, _, hs⟩
  · rw [keptAt_none hr] at hop
    exact aopQ_same hE hN (AOp_aop hE hop)
  · exact hs
theorem Ctx.kept (C : Ctx P N ops d base E S) {k x : Nat} {o : Oper} (ho : ops[k]? = some o) (hk : keptAt base d.res k = some x) :
    (agate ops (E k) o = some true ∧ ∃ v B τ, aop P (aeval (E k)) o.op ⟨x, fun _ => none⟩ = some (v, τ) ∧ τ.get x = some B ∧ S (k + 1) = (S k).set x B ∧ E (k + 1) = (E k).put o.dst v) ∨
    (agate ops (E k) o = some false ∧ E (k + 1) = (E k).put o.dst (.tup []) ∧ S (k + 1) = S k) := by
  rcases C.step k o ho with ⟨hg, v, hop, he⟩ | h
  · left
    rw [hk] at hop
    simp only [OpT, aopAt] at hop
    split at hop
    · rename_i v' τ hv
      split at hop
      · rename_i B hB
        simp only [Option.some.injEq, Prod.mk.injEq] at hop
        obtain ⟨rfl, hs⟩ := hop
        exact ⟨hg, v', B, τ, hv, hB, hs.symm, he⟩
      · cases hop
    · cases hop
  · exact .inr h
theorem Ctx.n_step (C : Ctx P N ops d base E S) {i : Nat} (hi : i < ops.size) : (S i).n ≤ (S (i + 1)).n := by
  have ho : ops[i]? = some ops[i] := Array.getElem?_eq_getElem hi
  cases hk : keptAt base d.res i with
  | some x =>
    rcases C.kept ho hk with ⟨_, v, B, τ, _, _, hs, _⟩ | ⟨_, _, hs⟩
    · rw [hs]; exact Nat.le_refl _
    · rw [hs]; exact Nat.le_refl _
  | none =>
    rcases C.step i _ ho with ⟨_, v, hop, _⟩ | ⟨_, _, hs⟩
    · rw [hk] at hop
      exact AOp_n hop
    · rw [hs]; exact Nat.le_refl _
theorem Ctx.n_mono (C : Ctx P N ops d base E S) {i j : Nat} (hij : i ≤ j) (hj : j ≤ ops.size) : (S i).n ≤ (S j).n := by
  induction j with
  | zero => rw [show i = 0 by omega]; exact Nat.le_refl _
  | succ j ih =>
    by_cases h : i = j + 1
    · rw [h]; exact Nat.le_refl _
    · exact Nat.le_trans (ih (by omega) (by omega)) (C.n_step (by omega))
theorem Ctx.get_range (C : Ctx P N ops d base E S) (x : Nat) {i j : Nat} (hij : i ≤ j) (hj : j ≤ ops.size)
    (hM : ∀ (q : Nat) (o : Oper), i ≤ q → q < j → ops[q]? = some o → isM d.res q o.op = true → (S q).get x = (S (q + 1)).get x)
    (hK : ∀ q, i ≤ q → q < j → keptAt base d.res q ≠ some x) : (S i).get x = (S j).get x := by
  induction j with
  | zero => rw [show i = 0 by omega]
  | succ j ih =>
    by_cases h : i = j + 1
    · rw [h]
    · have hlt : j < ops.size := by omega
      have ho : ops[j]? = some ops[j] := Array.getElem?_eq_getElem hlt
      rw [ih (by omega) (by omega) (fun q o h1 h2 => hM q o h1 (by omega)) (fun q h1 h2 => hK q h1 (by omega))]
      cases hm : isM d.res j ops[j].op with
      | true => exact hM j _ (by omega) (by omega) ho hm
      | false =>
        by_cases hr : j ∈ d.res
        · obtain ⟨y, hy⟩ := keptAt_some (base := base) hr
          have hne : x ≠ y := fun e => hK j (by omega) (by omega) (e ▸ hy)
          rcases C.kept ho hy with ⟨_, v, B, τ, _, _, hs, _⟩ | ⟨_, _, hs⟩
          · rw [hs, AHeap.set_get, if_neg hne]
          · rw [hs]
        · rw [C.same ho hm hr]
theorem Ctx.look_kept (C : Ctx P N ops d base E S) {k x : Nat} {o : Oper} (hk : keptAt base d.res k = some x) : lookAt ops base d.res E k o = some x := by
  unfold lookAt
  rw [hk]
  split <;> rfl
theorem Ctx.none_upto (C : Ctx P N ops d base E S) {k x : Nat} {o : Oper} (ho : ops[k]? = some o) (hk : keptAt base d.res k = some x) {i : Nat} (hi : i ≤ k) : (S i).get x = none := by
  have hkn : k < ops.size := (Array.getElem?_eq_some_iff.1 ho).1
  rw [← C.none0 k x hk]
  symm
  refine C.get_range x (Nat.zero_le i) (by omega) ?_ ?_
  · intro q oq _ hq hoq hm
    rcases C.F.rm k q o oq (by omega) ho hoq (keptAt_mem hk).1 hm with ⟨h1, _⟩ | h1
    · omega
    · exact C.chk k q o oq h1 ho hoq x (C.look_kept hk)
  · intro q _ hq e
    have := keptAt_inj hk e
    omega
/-! ### what is listed -/
def Lst (listed : Array Bool) (i : Nat) : Prop := listed.getD i false = true
theorem Lst_set {listed : Array Bool} {i k : Nat} (hi : i < listed.size) : Lst (listed.setIfInBounds i true) k ↔ k = i ∨ Lst listed k := by
  unfold Lst
  simp only [Array.getD_eq_getD_getElem?]
  by_cases h : k = i
  · subst h
    simp [Array.getElem?_setIfInBounds, hi]
  · rw [Array.getElem?_setIfInBounds_ne (Ne.symm h)]
    simp [h]
theorem ready_facts {listed : Array Bool} (hs : listed.size = ops.size) {i : Nat} (h : i ∈ Region.ready .any ops listed) :
    ∃ o, ops[i]? = some o ∧ ¬ Lst listed i ∧ ∀ e ∈ o.after, Region.binds .any e = true → Lst listed e.on := by
  unfold Region.ready at h
  simp only [List.mem_filter, List.mem_range, Bool.and_eq_true, Bool.not_eq_true'] at h
  obtain ⟨hi, hl, ha⟩ := h
  have ho : ops[i]? = some ops[i] := Array.getElem?_eq_getElem hi
  refine ⟨_, ho, ?_, ?_⟩
  · unfold Lst
    rw [Array.getD_eq_getD_getElem?] at hl ⊢
    rw [Array.getElem?_eq_getElem (by omega)] at hl ⊢
    simp only [Option.getD_some] at hl ⊢
    rw [hl]; simp
  · intro e he hb
    rw [ho] at ha
    simp only [Option.map_some, Option.getD_some, Array.all_eq_true', Bool.or_eq_true, Bool.not_eq_true'] at ha
    rcases ha e he with h1 | h1
    · rw [hb] at h1; cases h1
    · exact h1
theorem not_ready {listed : Array Bool} (hs : listed.size = ops.size) (F : DFacts N ops d) (h : Region.ready .any ops listed = []) : ∀ i, i < ops.size → Lst listed i := by
  intro i
  induction i using Nat.strongRecOn with
  | _ i ih =>
    intro hi
    by_cases hl : Lst listed i
    · exact hl
    · have ho : ops[i]? = some ops[i] := Array.getElem?_eq_getElem hi
      have hm : i ∈ Region.ready .any ops listed := by
        unfold Region.ready
        simp only [List.mem_filter, List.mem_range, Bool.and_eq_true, Bool.not_eq_true']
        refine ⟨hi, ?_, ?_⟩
        · unfold Lst at hl
          rw [Array.getD_eq_getD_getElem?] at hl ⊢
          rw [Array.getElem?_eq_getElem (by omega)] at hl ⊢
          simpa using hl
        · rw [ho]
          simp only [Option.map_some, Option.getD_some, Array.all_eq_true', Bool.or_eq_true, Bool.not_eq_true']
          intro e he
          cases hb : Region.binds .any e with
          | false => exact .inl rfl
          | true =>
            have hlt := F.edge i _ e ho he hb
            exact .inr (ih e.on hlt (by omega))
      rw [h] at hm; cases hm
theorem bit_listed {listed : Array Bool} (F : DFacts N ops d) (down : ∀ (k : Nat) (o : Oper) (e : Edge), ops[k]? = some o → Lst listed k → e ∈ o.after → Region.binds .any e = true → Lst listed e.on) :
    ∀ j i, j < ops.size → i < ops.size → (d.bef.getD j 0).testBit i = true → Lst listed j → Lst listed i := by
  intro j
  induction j using Nat.strongRecOn with
  | _ j ih =>
    intro i hj hi hb hl
    obtain ⟨o, e, ho, he, hbd, hlt, hor⟩ := F.bef j i hj hi hb
    have hle := down j o e ho hl he hbd
    rcases hor with rfl | h1
    · exact hle
    · exact ih e.on hlt i (by omega) hi h1 hle
theorem bit_ready {listed : Array Bool} (F : DFacts N ops d) (down : ∀ (k : Nat) (o : Oper) (e : Edge), ops[k]? = some o → Lst listed k → e ∈ o.after → Region.binds .any e = true → Lst listed e.on)
    {j i : Nat} {o : Oper} (ho : ops[j]? = some o) (hr : ∀ e ∈ o.after, Region.binds .any e = true → Lst listed e.on) (hi : i < ops.size) (hb : (d.bef.getD j 0).testBit i = true) : Lst listed i := by
  have hj := (Array.getElem?_eq_some_iff.1 ho).1
  obtain ⟨o', e, ho', he, hbd, hlt, hor⟩ := F.bef j i hj hi hb
  rw [ho] at ho'; cases ho'
  have hle := hr e he hbd
  rcases hor with rfl | h1
  · exact hle
  · exact bit_listed F down e.on i (by omega) hi h1 hle
structure Inv (P : Program) (N : Nat) (ops : Array Oper) (d : DOrd) (base : Nat) (E : Nat → Env) (S : Nat → AHeap) (μ₀ : Mu) (σ₀ : AHeap) (w₀ : World)
    (listed : Array Bool) (μ : Mu) (a : Act) (w : World) (p : Nat) : Prop where
  sz : listed.size = ops.size
  down : ∀ (k : Nat) (o : Oper) (e : Edge), ops[k]? = some o → Lst listed k → e ∈ o.after → Region.binds .any e = true → Lst listed e.on
  dfr : a.defers = []
  asz : a.tmps.size = N
  t0 : ∀ t, (∀ (i : Nat) (o : Oper), ops[i]? = some o → Lst listed i → o.dst ≠ some t) → VR μ (E 0 t) (a.tmps.getD t undef)
  t1 : ∀ (i : Nat) (o : Oper) (t : Tmp), ops[i]? = some o → Lst listed i → o.dst = some t → VR μ (E (i + 1) t) (a.tmps.getD t undef)
  ple : p ≤ ops.size
  mlt : ∀ (i : Nat) (o : Oper), i < p → ops[i]? = some o → isM d.res i o.op = true → Lst listed i
  mge : ∀ (i : Nat) (o : Oper), p ≤ i → ops[i]? = some o → isM d.res i o.op = true → ¬ Lst listed i
  rel : Rel μ (S p) w
  stp : Step μ₀ σ₀ w₀ μ (S p) w
  rnone : ∀ (k x : Nat) (o : Oper), keptAt base d.res k = some x → ops[k]? = some o → (¬ Lst listed k ∨ agate ops (E k) o ≠ some true) → μ x = none
  rge : ∀ (k x : Nat) (o : Oper), keptAt base d.res k = some x → ops[k]? = some o → Lst listed k → agate ops (E k) o = some true → p ≤ k →
    ∃ l B, μ x = some l ∧ (S (k + 1)).get x = some B ∧ B.rw = true ∧ BlkR μ w B l ∧ w₀.heap.size ≤ l.b ∧ ∀ y m C, y ≠ x → μ y = some m → (S p).get y = some C → m.apart l
  rgg : ∀ k k' x x' l l', k ≠ k' → keptAt base d.res k = some x → keptAt base d.res k' = some x' → p ≤ k → p ≤ k' → μ x = some l → μ x' = some l' → l.apart l'
theorem Loc.apart_symm {l m : Loc} (h : l.apart m) : m.apart l := fun b o h1 h2 => h b o h2 h1
theorem E_same (C : Ctx P N ops d base E S) {t : Nat} {i j : Nat} (hij : i ≤ j) (hj : j ≤ ops.size) (h : ∀ (q : Nat) (o : Oper), i ≤ q → q < j → ops[q]? = some o → o.dst ≠ some t) : E j t = E i t := by
  induction j with
  | zero => rw [show i = 0 by omega]
  | succ j ih =>
    by_cases hi : i = j + 1
    · rw [hi]
    · have hlt : j < ops.size := by omega
      have ho : ops[j]? = some ops[j] := Array.getElem?_eq_getElem hlt
      rw [← ih (by omega) (by omega) fun q o h1 h2 => h q o h1 (by omega)]
      have hd := h j _ (by omega) (by omega) ho
      have key : ∀ v, ((E j).put ops[j].dst v) t = E j t := by
        intro v
        cases hdd : ops[j].dst with
        | none => rfl
        | some dd =>
          have hne : t ≠ dd := fun e => hd (by rw [hdd, e])
          show (if t = dd then v else E j t) = E j t
          rw [if_neg hne]
      rcases C.step j _ ho with ⟨_, v, _, he⟩ | ⟨_, he, _⟩
      · rw [he, key]
      · rw [he, key]
/-- What an operation that is ready looks at stands for what the text's order has there. -/
theorem Inv.tmp {μ₀ : Mu} {σ₀ : AHeap} {w₀ : World} {listed : Array Bool} {μ : Mu} {a : Act} {w : World} {p : Nat} (C : Ctx P N ops d base E S) (I : Inv P N ops d base E S μ₀ σ₀ w₀ listed μ a w p)
    {i : Nat} {o : Oper} (ho : ops[i]? = some o) (hl : ¬ Lst listed i) (hr : ∀ e ∈ o.after, Region.binds .any e = true → Lst listed e.on) {t : Nat} (ht : t ∈ o.looksAt ops) :
    VR μ (E i t) (a.tmps.getD t undef) := by
  have hi : i < ops.size := (Array.getElem?_eq_some_iff.1 ho).1
  by_cases hw : ∃ q oq, ops[q]? = some oq ∧ oq.dst = some t ∧ q ≠ i
  · obtain ⟨q, oq, hoq, hdq, hqi⟩ := hw
    have hq : q < ops.size := (Array.getElem?_eq_some_iff.1 hoq).1
    have uniq : ∀ q' o', ops[q']? = some o' → o'.dst = some t → q' = q := by
      intro q' o' ho' hd'
      by_cases e : q' = q
      · exact e
      · exact absurd hd' (C.F.dst1 q' q o' oq t (Ne.symm e) ho' hoq hdq)
    have hord := C.F.names i q o oq t hqi ho hoq hdq ht
    unfold ordered at hord
    by_cases hlt : q < i
    · rw [if_pos hlt] at hord
      have hlq := bit_ready C.F I.down ho hr hq hord
      have := I.t1 q oq t hoq hlq hdq
      rw [E_same C (i := q + 1) (j := i) (by omega) (by omega) fun q' o' h1 h2 ho' hd' => by have := uniq q' o' ho' hd'; omega]
      exact this
    · rw [if_neg hlt] at hord
      have hnq : ¬ Lst listed q := fun h => hl (bit_listed C.F I.down q i hq hi hord h)
      rw [E_same C (i := 0) (j := i) (by omega) (by omega) fun q' o' h1 h2 ho' hd' => by have := uniq q' o' ho' hd'; omega]
      exact I.t0 t fun q' o' ho' hl' hd' => by
        have := uniq q' o' ho' hd'
        subst this
        exact hnq hl'
  · have hno : ∀ q' o', ops[q']? = some o' → o'.dst = some t → q' = i := by
      intro q' o' ho' hd'
      by_cases e : q' = i
      · exact e
      · exact absurd ⟨q', o', ho', hd', e⟩ hw
    rw [E_same C (i := 0) (j := i) (by omega) (by omega) fun q' o' h1 h2 ho' hd' => by have := hno q' o' ho' hd'; omega]
    exact I.t0 t fun q' o' ho' hl' hd' => by
      have := hno q' o' ho' hd'
      subst this
      exact hl hl'
end
end AH
/- THE ABSTRACT MACHINE: every order of a region that draws: one operation more. -/
namespace AH
open Go
theorem aopN_form {P : Program} {ρ : Operand → AV} {op : Op} {σ σ' : AHeap} {v : AV} (hN : isN op = true) (h : aop P ρ op σ = some (v, σ')) :
    ∃ (f : Nat → AV) (cs : List AV), v = f σ.n ∧ σ' = σ.push ⟨cs, true⟩ ∧ ∀ τ : AHeap, aop P ρ op τ = some (f τ.n, τ.push ⟨cs, true⟩) := by
  cases op <;> simp only [isN, reduceCtorEq, Bool.false_eq_true] at hN <;> simp only [aop] at h ⊢
  case alloc e => cases hz : tyZero P e with
    | none => rw [hz] at h; cases h
    | some z => rw [hz] at h; cases h; exact ⟨fun n => .ptr n 0, z, rfl, rfl, fun τ => rfl⟩
  case box e x => cases hc : (ρ x).cells with
    | none => rw [hc] at h; cases h
    | some z => rw [hc] at h; cases h; exact ⟨fun n => .ptr n 0, z, rfl, rfl, fun τ => rfl⟩
  case buildSlice t len parts =>
    split at h
    next e b z ht =>
      split at h
      next hlen =>
        cases hf : afill (fun i => some (i * e, e)) (List.replicate len z).flatten (parts.toList.map fun (i, x) => (i, ρ x)) with
        | none => rw [hf] at h; cases h
        | some cs => rw [hf] at h; cases h; exact ⟨fun n => .sl n 0 len e, cs, rfl, rfl, fun τ => by rw [if_pos hlen]; rfl⟩
      next => cases h
    next => cases h
  case makeSlice t l c =>
    unfold amake at h ⊢
    split at h
    next e by_ z l c ht hl hc0 =>
      split at h
      next hc => cases h; exact ⟨fun n => .sl n 0 l.toNat e, _, rfl, rfl, fun τ => by rw [if_pos hc]⟩
      next => cases h
    next => cases h
section
variable {P : Program} {N : Nat} {ops : Array Oper} {d : DOrd} {base : Nat} {E : Nat → Env} {S : Nat → AHeap} {μ₀ : Mu} {σ₀ : AHeap} {w₀ : World} {listed : Array Bool} {μ : Mu} {a : Act} {w : World} {p : Nat}
theorem Ctx.kept_rw (C : Ctx P N ops d base E S) {k x : Nat} {o : Oper} (ho : ops[k]? = some o) (hk : keptAt base d.res k = some x) (hg : agate ops (E k) o = some true) :
    ∃ (v : AV) (f : Nat → AV) (cs : List AV), v = f x ∧ (∀ τ : AHeap, aop P (aeval (E k)) o.op τ = some (f τ.n, τ.push ⟨cs, true⟩)) ∧ S (k + 1) = (S k).set x ⟨cs, true⟩ ∧ E (k + 1) = (E k).put o.dst v := by
  rcases C.kept ho hk with ⟨_, v, B, τ, hv, hB, hs, he⟩ | ⟨h, _⟩
  · obtain ⟨f, cs, h1, h2, h3⟩ := aopN_form (C.F.res k o ho (keptAt_mem hk).1) hv
    subst h2
    rw [AHeap.push_get, if_pos rfl] at hB
    cases hB
    exact ⟨v, f, cs, h1, h3, hs, he⟩
  · rw [hg] at h; cases h
/-- The position moves over an operation that writes nothing. -/
theorem Inv.adv (C : Ctx P N ops d base E S) (hb : σ₀.n ≤ base) (I : Inv P N ops d base E S μ₀ σ₀ w₀ listed μ a w p) (hp : p < ops.size) {o : Oper} (ho : ops[p]? = some o) (hm : isM d.res p o.op = false) :
    Inv P N ops d base E S μ₀ σ₀ w₀ listed μ a w (p + 1) := by
  have same : S (p + 1) = S p → Inv P N ops d base E S μ₀ σ₀ w₀ listed μ a w (p + 1) := by
    intro hs
    refine ⟨I.sz, I.down, I.dfr, I.asz, I.t0, I.t1, hp, ?_, ?_, hs ▸ I.rel, hs ▸ I.stp, I.rnone, ?_, ?_⟩
    · intro i oi hi hoi hmi
      by_cases e : i = p
      · subst e; rw [ho] at hoi; cases hoi; rw [hm] at hmi; cases hmi
      · exact I.mlt i oi (by omega) hoi hmi
    · exact fun i oi hi => I.mge i oi (by omega)
    · intro k x ok hk hok hl hg hpk
      obtain ⟨l, B, h1, h2, h3, h4, h5, h6⟩ := I.rge k x ok hk hok hl hg (by omega)
      exact ⟨l, B, h1, h2, h3, h4, h5, fun y m Cc hy hym hyC => h6 y m Cc hy hym (hs ▸ hyC)⟩
    · exact fun k k' x x' l l' h1 h2 h3 h4 h5 => I.rgg k k' x x' l l' h1 h2 h3 (by omega) (by omega)
  by_cases hr : p ∈ d.res
  · obtain ⟨x, hx⟩ := keptAt_some (base := base) hr
    cases hg : agate ops (E p) o with
    | none => rcases C.kept ho hx with ⟨h, _⟩ | ⟨h, _⟩ <;> rw [hg] at h <;> cases h
    | some g =>
      cases g with
      | false =>
        rcases C.kept ho hx with ⟨h, _⟩ | ⟨_, _, hs⟩
        · rw [hg] at h; cases h
        · exact same hs
      | true =>
        obtain ⟨v, f, cs, _, _, hs, _⟩ := C.kept_rw ho hx hg
        have hxb : base ≤ x := (keptAt_mem hx).2.1
        have hget : ∀ y, y ≠ x → (S (p + 1)).get y = (S p).get y := fun y hy => by rw [hs, AHeap.set_get, if_neg hy]
        have hgx : (S (p + 1)).get x = some ⟨cs, true⟩ := by rw [hs, AHeap.set_get, if_pos rfl]
        have hn : (S (p + 1)).n = (S p).n := by rw [hs]; rfl
        have live : ∀ l, μ x = some l → Lst listed p := by
          intro l hl
          by_cases h : Lst listed p
          · exact h
          · rw [I.rnone p x o hx ho (.inl h)] at hl; cases hl
        refine ⟨I.sz, I.down, I.dfr, I.asz, I.t0, I.t1, hp, ?_, ?_, ?_, ?_, I.rnone, ?_, ?_⟩
        · intro i oi hi hoi hmi
          by_cases e : i = p
          · subst e; rw [ho] at hoi; cases hoi; rw [hm] at hmi; cases hmi
          · exact I.mlt i oi (by omega) hoi hmi
        · exact fun i oi hi => I.mge i oi (by omega)
        · refine ⟨fun i l hl => by rw [hn]; exact I.rel.dom i l hl, ?_, ?_⟩
          · intro i B l hB hl
            by_cases e : i = x
            · subst e
              obtain ⟨l', B', h1, h2, _, h4, _⟩ := I.rge p i o hx ho (live l hl) hg (Nat.le_refl _)
              rw [hl] at h1; cases h1
              rw [hB] at h2; cases h2
              exact h4
            · exact I.rel.blk i B l (hget i e ▸ hB) hl
          · intro i j B Cc l m hij hB hC hrw hl hm'
            by_cases e : i = x
            · subst e
              obtain ⟨l', B', h1, _, _, _, _, h6⟩ := I.rge p i o hx ho (live l hl) hg (Nat.le_refl _)
              rw [hl] at h1; cases h1
              exact Loc.apart_symm (h6 j m Cc (Ne.symm hij) hm' (hget j (Ne.symm hij) ▸ hC))
            · by_cases e' : j = x
              · subst e'
                obtain ⟨l', B', h1, _, _, _, _, h6⟩ := I.rge p j o hx ho (live m hm') hg (Nat.le_refl _)
                rw [hm'] at h1; cases h1
                exact h6 i l B e hl (hget i e ▸ hB)
              · exact I.rel.sep i j B Cc l m hij (hget i e ▸ hB) (hget j e' ▸ hC) hrw hl hm'
        · refine ⟨I.stp.os, I.stp.tape, I.stp.output, I.stp.size, by rw [hn]; exact I.stp.n, I.stp.ext, ?_, I.stp.cells, ?_, ?_, I.stp.other⟩
          · rintro b q hbl ⟨i, B, l, hB, hrw, hl, hh⟩
            by_cases e : i = x
            · subst e
              obtain ⟨l', B', h1, _, _, _, h5, _⟩ := I.rge p i o hx ho (live l hl) hg (Nat.le_refl _)
              rw [hl] at h1; cases h1
              have := hh.1
              omega
            · exact I.stp.terr b q hbl ⟨i, B, l, hget i e ▸ hB, hrw, hl, hh⟩
          · intro i B hi hB hrw
            exact I.stp.ro i B hi (hget i (by omega) ▸ hB) hrw
          · intro i B hi hi' hB
            by_cases e : i = x
            · subst e; rw [hgx] at hB; cases hB; rfl
            · exact I.stp.ronew i B hi (by rw [← hn]; exact hi') (hget i e ▸ hB)
        · intro k y ok hk hok hl hgk hpk
          obtain ⟨l, B, h1, h2, h3, h4, h5, h6⟩ := I.rge k y ok hk hok hl hgk (by omega)
          refine ⟨l, B, h1, h2, h3, h4, h5, fun z m Cc hz hzm hzC => ?_⟩
          by_cases e : z = x
          · subst e
            exact I.rgg p k z y m l (by omega) hx hk (Nat.le_refl _) (by omega) hzm h1
          · exact h6 z m Cc hz hzm (hget z e ▸ hzC)
        · exact fun k k' x x' l l' h1 h2 h3 h4 h5 => I.rgg k k' x x' l l' h1 h2 h3 (by omega) (by omega)
  · exact same (C.same ho hm hr)
theorem Inv.advTo (C : Ctx P N ops d base E S) (hb : σ₀.n ≤ base) {q : Nat} (hq : q ≤ ops.size) : ∀ {p : Nat}, Inv P N ops d base E S μ₀ σ₀ w₀ listed μ a w p → p ≤ q →
    (∀ (i : Nat) (o : Oper), p ≤ i → i < q → ops[i]? = some o → isM d.res i o.op = false) → Inv P N ops d base E S μ₀ σ₀ w₀ listed μ a w q := by
  induction q with
  | zero => intro p I hpq _; rw [show p = 0 by omega] at I; exact I
  | succ q ih =>
    intro p I hpq hm
    by_cases e : p = q + 1
    · subst e; exact I
    · have I' := ih (by omega) I (by omega) fun i o h1 h2 => hm i o h1 (by omega)
      have ho : ops[q]? = some ops[q] := Array.getElem?_eq_getElem (by omega)
      exact I'.adv C hb (by omega) ho (hm q _ (by omega) (by omega) ho)
/-- What a load that is ready looks at lies in the world as the text's order has it. -/
theorem Inv.look (C : Ctx P N ops d base E S) (I : Inv P N ops d base E S μ₀ σ₀ w₀ listed μ a w p) {j x : Nat} {o : Oper} (ho : ops[j]? = some o) (hL : isL o.op = true)
    (hlk : lookAt ops base d.res E j o = some x) (hl : ¬ Lst listed j) (hr : ∀ e ∈ o.after, Region.binds .any e = true → Lst listed e.on) {l : Loc} (hμ : μ x = some l) {B : ABlk} (hB : (S j).get x = some B) : BlkR μ w B l := by
  have hjn : j < ops.size := (Array.getElem?_eq_some_iff.1 ho).1
  have hq : ∀ (q : Nat) (oq : Oper), (j ≤ q ∧ q < p ∨ p ≤ q ∧ q < j) → ops[q]? = some oq → isM d.res q oq.op = true → (S q).get x = (S (q + 1)).get x := by
    intro q oq hor hoq hmq
    have hqn : q < ops.size := (Array.getElem?_eq_some_iff.1 hoq).1
    have hne : q ≠ j := by
      rintro rfl
      rw [ho] at hoq; cases hoq
      cases hop : o.op <;> rw [hop] at hL <;> simp only [isL, Bool.false_eq_true] at hL
      rw [hop] at hmq
      simp [isM, isE, isN] at hmq
    rcases C.F.lm j q o oq hne ho hoq hL hmq with hord | hpr
    · exfalso
      unfold ordered at hord
      rcases hor with ⟨h1, h2⟩ | ⟨h1, h2⟩
      · rw [if_neg (by omega)] at hord
        exact hl (bit_listed C.F I.down q j hqn hjn hord (I.mlt q oq h2 hoq hmq))
      · rw [if_pos h2] at hord
        exact I.mge q oq h1 hoq hmq (bit_ready C.F I.down ho hr hqn hord)
    · exact C.chk j q o oq hpr ho hoq x hlk
  have atp : (∀ q, (j ≤ q ∧ q < p ∨ p ≤ q ∧ q < j) → keptAt base d.res q ≠ some x) → BlkR μ w B l := by
    intro hK
    have hSp : (S p).get x = some B := by
      rw [← hB]
      rcases Nat.le_total j p with h | h
      · exact (C.get_range x h I.ple (fun q oq h1 h2 => hq q oq (.inl ⟨h1, h2⟩)) (fun q h1 h2 => hK q (.inl ⟨h1, h2⟩))).symm
      · exact C.get_range x h (by omega) (fun q oq h1 h2 => hq q oq (.inr ⟨h1, h2⟩)) (fun q h1 h2 => hK q (.inr ⟨h1, h2⟩))
    exact I.rel.blk x B l hSp hμ
  by_cases hk : ∃ k, keptAt base d.res k = some x
  · obtain ⟨k, hk⟩ := hk
    have hkn : k < ops.size := C.F.resn k (keptAt_mem hk).1
    have hok : ops[k]? = some ops[k] := Array.getElem?_eq_getElem hkn
    have hlk' : Lst listed k ∧ agate ops (E k) ops[k] = some true := by
      refine ⟨?_, ?_⟩
      · by_cases h : Lst listed k
        · exact h
        · rw [I.rnone k x _ hk hok (.inl h)] at hμ; cases hμ
      · by_cases h : agate ops (E k) ops[k] = some true
        · exact h
        · rw [I.rnone k x _ hk hok (.inr h)] at hμ; cases hμ
    by_cases hjk : j ≤ k
    · rw [C.none_upto hok hk hjk] at hB; cases hB
    · by_cases hpk : p ≤ k
      · obtain ⟨l', B', h1, h2, _, h4, _⟩ := I.rge k x _ hk hok hlk'.1 hlk'.2 hpk
        rw [hμ] at h1; cases h1
        have := C.get_range x (i := k + 1) (j := j) (by omega) (by omega) (fun q oq h1 h2 => hq q oq (.inr ⟨by omega, h2⟩)) (fun q h1 _ e => by have := keptAt_inj hk e; omega)
        rw [h2, hB] at this; cases this
        exact h4
      · exact atp fun q hor e => by have := keptAt_inj hk e; omega
  · exact atp fun q _ e => hk ⟨q, e⟩
end
end AH
/- THE ABSTRACT MACHINE: every order of a region that draws: one operation more, and all of them. -/
namespace AH
open Go
/-! ### what an operation looks at -/
def mask (ops : Array Oper) (o : Oper) (env : Env) : Env := fun t => if t ∈ o.looksAt ops then env t else .undef
theorem mask_eval {ops : Array Oper} {o : Oper} (env : Env) {x : Operand} (h : x ∈ o.op.operands) : aeval (mask ops o env) x = aeval env x := by
  cases x with
  | tmp t =>
    show (if t ∈ o.looksAt ops then env t else .undef) = env t
    rw [if_pos]
    unfold Oper.looksAt
    rw [List.mem_append, List.mem_filterMap]
    exact .inl ⟨.tmp t, by simpa using h, rfl⟩
  | const v => rfl
  | global g => rfl
  | func f => rfl
theorem mask_gate {ops : Array Oper} {o : Oper} (env : Env) : agate ops (mask ops o env) o = agate ops env o := by
  unfold agate
  cases hg : o.guard with
  | none => rfl
  | some jw =>
    obtain ⟨j, want⟩ := jw
    simp only
    cases hd : (ops[j]?).bind (·.dst) with
    | none => rfl
    | some t =>
      have : mask ops o env t = env t := by
        unfold mask
        rw [if_pos]
        unfold Oper.looksAt
        rw [List.mem_append, hg]
        right
        simp only [hd]
        simp
      simp only [this]
theorem mask_AOp {P : Program} {ops : Array Oper} {o : Oper} {env : Env} {σ σ' : AHeap} {v : AV} (h : AOp P (aeval env) o σ v σ') : AOp P (aeval (mask ops o env)) o σ v σ' := by
  unfold AOp at h ⊢
  split at h
  next f args ts ho =>
    have hf : aeval (mask ops o env) f = aeval env f := mask_eval env (by rw [ho]; simp [Op.operands, Call.operands])
    have ha : args.toList.map (aeval (mask ops o env)) = args.toList.map (aeval env) := by
      refine List.map_congr_left fun x hx => mask_eval env ?_
      rw [ho]; simp [Op.operands, Call.operands]; right; simpa using hx
    rw [hf, ha]; exact h
  next => rw [aop_congr _ _ fun x hx => mask_eval env hx]; exact h
theorem mask_aop {P : Program} {ops : Array Oper} {o : Oper} {env : Env} (σ : AHeap) : aop P (aeval (mask ops o env)) o.op σ = aop P (aeval env) o.op σ :=
  aop_congr _ _ fun _ hx => mask_eval env hx
theorem put_getD {N : Nat} {a : Act} (hs : a.tmps.size = N) {dst : Option Tmp} (hd : ∀ d, dst = some d → d < N) (u : Value) (t : Nat) :
    (a.put dst u).tmps.getD t undef = if dst = some t then u else a.tmps.getD t undef := by
  cases dst with
  | none => rfl
  | some d =>
    have hdN := hd d rfl
    show (a.tmps.setIfInBounds d u).getD t undef = _
    by_cases ht : t = d
    · subst ht
      rw [if_pos rfl]
      have : t < a.tmps.size := by rw [hs]; exact hdN
      simp [Array.getD, this]
    · rw [if_neg (by intro e; cases e; exact ht rfl)]
      simp only [Array.getD_eq_getD_getElem?]
      rw [Array.getElem?_setIfInBounds_ne (Ne.symm ht)]
section
variable {P : Program} {N : Nat} {ops : Array Oper} {d : DOrd} {base : Nat} {E : Nat → Env} {S : Nat → AHeap} {μ₀ : Mu} {σ₀ : AHeap} {w₀ : World} {listed : Array Bool} {μ : Mu} {a : Act} {w : World} {p : Nat}
theorem Inv.env (C : Ctx P N ops d base E S) (I : Inv P N ops d base E S μ₀ σ₀ w₀ listed μ a w p) {i : Nat} {o : Oper} (ho : ops[i]? = some o) (hl : ¬ Lst listed i)
    (hr : ∀ e ∈ o.after, Region.binds .any e = true → Lst listed e.on) : EnvR μ N (mask ops o (E i)) a := by
  refine ⟨I.dfr, I.asz, fun t => ?_⟩
  unfold mask
  split
  next ht => exact I.tmp C ho hl hr ht
  next => exact .undef _
/-- What holds of the names behind the operation. -/
theorem Inv.names (C : Ctx P N ops d base E S) (I : Inv P N ops d base E S μ₀ σ₀ w₀ listed μ a w p) {i : Nat} {o : Oper} (ho : ops[i]? = some o) {μ' : Mu} (hmono : ∀ i l, μ i = some l → μ' i = some l)
    {u : Value} (hu : ∀ t, o.dst = some t → VR μ' (E (i + 1) t) u) :
    (∀ t, (∀ (k : Nat) (ok : Oper), ops[k]? = some ok → Lst (listed.setIfInBounds i true) k → ok.dst ≠ some t) → VR μ' (E 0 t) ((a.put o.dst u).tmps.getD t undef)) ∧
    (∀ (k : Nat) (ok : Oper) (t : Tmp), ops[k]? = some ok → Lst (listed.setIfInBounds i true) k → ok.dst = some t → VR μ' (E (k + 1) t) ((a.put o.dst u).tmps.getD t undef)) := by
  have hi : i < listed.size := by rw [I.sz]; exact (Array.getElem?_eq_some_iff.1 ho).1
  have hd := C.F.dst i o ho
  refine ⟨fun t ht => ?_, fun k ok t hok hl hdk => ?_⟩
  · rw [put_getD I.asz hd, if_neg (ht i o ho ((Lst_set hi).2 (.inl rfl)))]
    exact (I.t0 t fun k ok hok hl => ht k ok hok ((Lst_set hi).2 (.inr hl))).mono hmono
  · rw [put_getD I.asz hd]
    by_cases e : k = i
    · subst e; rw [ho] at hok; cases hok
      rw [if_pos hdk]; exact hu t hdk
    · rw [if_neg (C.F.dst1 i k o ok t e ho hok hdk)]
      exact (I.t1 k ok t hok (((Lst_set hi).1 hl).resolve_left e) hdk).mono hmono
theorem Inv.down' (I : Inv P N ops d base E S μ₀ σ₀ w₀ listed μ a w p) {i : Nat} {o : Oper} (ho : ops[i]? = some o) (hr : ∀ e ∈ o.after, Region.binds .any e = true → Lst listed e.on) :
    ∀ (k : Nat) (ok : Oper) (e : Edge), ops[k]? = some ok → Lst (listed.setIfInBounds i true) k → e ∈ ok.after → Region.binds .any e = true → Lst (listed.setIfInBounds i true) e.on := by
  have hi : i < listed.size := by rw [I.sz]; exact (Array.getElem?_eq_some_iff.1 ho).1
  intro k ok e hok hl he hb
  rcases (Lst_set hi).1 hl with rfl | h
  · rw [ho] at hok; cases hok
    exact (Lst_set hi).2 (.inr (hr e he hb))
  · exact (Lst_set hi).2 (.inr (I.down k ok e hok h he hb))
/-- An operation that leaves memory and world alone. -/
theorem Inv.quiet (C : Ctx P N ops d base E S) (I : Inv P N ops d base E S μ₀ σ₀ w₀ listed μ a w p) {i : Nat} {o : Oper} (ho : ops[i]? = some o) (hl : ¬ Lst listed i)
    (hr : ∀ e ∈ o.after, Region.binds .any e = true → Lst listed e.on) (hM : isM d.res i o.op = false) (hg : i ∉ d.res ∨ agate ops (E i) o ≠ some true) {u : Value} (hu : ∀ t, o.dst = some t → VR μ (E (i + 1) t) u) :
    Inv P N ops d base E S μ₀ σ₀ w₀ (listed.setIfInBounds i true) μ (a.put o.dst u) w p := by
  have hi : i < listed.size := by rw [I.sz]; exact (Array.getElem?_eq_some_iff.1 ho).1
  have hnm := I.names C ho (fun _ _ h => h) hu
  refine ⟨by rw [Array.size_setIfInBounds, I.sz], I.down' ho hr, ?_, ?_, hnm.1, hnm.2, I.ple, ?_, ?_, I.rel, I.stp, ?_, ?_, I.rgg⟩
  · cases o.dst <;> exact I.dfr
  · cases o.dst
    · exact I.asz
    · show (a.tmps.setIfInBounds _ _).size = N
      rw [Array.size_setIfInBounds, I.asz]
  · exact fun k ok hk hok hmk => (Lst_set hi).2 (.inr (I.mlt k ok hk hok hmk))
  · intro k ok hk hok hmk hlk
    rcases (Lst_set hi).1 hlk with rfl | h
    · rw [ho] at hok; cases hok; rw [hM] at hmk; cases hmk
    · exact I.mge k ok hk hok hmk h
  · intro k x ok hk hok hor
    refine I.rnone k x ok hk hok ?_
    rcases hor with h | h
    · exact .inl fun h' => h ((Lst_set hi).2 (.inr h'))
    · exact .inr h
  · intro k x ok hk hok hlk hgk hpk
    rcases (Lst_set hi).1 hlk with rfl | h
    · rw [ho] at hok; cases hok
      rcases hg with h | h
      · exact absurd (keptAt_mem hk).1 h
      · exact absurd hgk h
    · exact I.rge k x ok hk hok h hgk hpk
/-- The place of the writer that is ready. -/
theorem Inv.reach (C : Ctx P N ops d base E S) (hb : σ₀.n ≤ base) (I : Inv P N ops d base E S μ₀ σ₀ w₀ listed μ a w p) {i : Nat} {o : Oper} (ho : ops[i]? = some o) (hl : ¬ Lst listed i)
    (hr : ∀ e ∈ o.after, Region.binds .any e = true → Lst listed e.on) (hM : isM d.res i o.op = true) : Inv P N ops d base E S μ₀ σ₀ w₀ listed μ a w i := by
  have hi : i < ops.size := (Array.getElem?_eq_some_iff.1 ho).1
  have hpi : p ≤ i := by
    rcases Nat.lt_or_ge i p with h | h
    · exact absurd (I.mlt i o h ho hM) hl
    · exact h
  refine I.advTo C hb (by omega) hpi fun q oq h1 h2 hoq => ?_
  cases hm : isM d.res q oq.op with
  | false => rfl
  | true =>
    have := C.F.mm i q o oq (by omega) ho hoq hM hm
    unfold ordered at this
    rw [if_pos h2] at this
    exact absurd (bit_ready C.F I.down ho hr (by omega) this) (I.mge q oq h1 hoq hm)
/-- A writer: from its place to the next. -/
theorem Inv.write (C : Ctx P N ops d base E S) (hb : σ₀.n ≤ base) {i : Nat} (I : Inv P N ops d base E S μ₀ σ₀ w₀ listed μ a w i) {o : Oper} (ho : ops[i]? = some o)
    (hr : ∀ e ∈ o.after, Region.binds .any e = true → Lst listed e.on) (hir : i ∉ d.res) {μ' : Mu} {w' : World} {u : Value} (hR : Rel μ' (S (i + 1)) w') (hS : Step μ (S i) w μ' (S (i + 1)) w')
    (hu : ∀ t, o.dst = some t → VR μ' (E (i + 1) t) u) :
    Inv P N ops d base E S μ₀ σ₀ w₀ (listed.setIfInBounds i true) μ' (a.put o.dst u) w' (i + 1) := by
  have hin : i < ops.size := (Array.getElem?_eq_some_iff.1 ho).1
  have hi : i < listed.size := by rw [I.sz]; exact hin
  have hmono := hS.mono_mu I.rel
  have hnm := I.names C ho hmono hu
  have hlow : ∀ k x, keptAt base d.res k = some x → μ' x = μ x := fun k x hk => hS.ext x (Nat.lt_of_lt_of_le (C.lt0 k x hk) (C.n_mono (Nat.zero_le i) (by omega)))
  refine ⟨by rw [Array.size_setIfInBounds, I.sz], I.down' ho hr, ?_, ?_, hnm.1, hnm.2, hin, ?_, ?_, hR, I.stp.trans hS, ?_, ?_, ?_⟩
  · cases o.dst <;> exact I.dfr
  · cases o.dst
    · exact I.asz
    · show (a.tmps.setIfInBounds _ _).size = N
      rw [Array.size_setIfInBounds, I.asz]
  · intro k ok hk hok hmk
    by_cases e : k = i
    · exact (Lst_set hi).2 (.inl e)
    · exact (Lst_set hi).2 (.inr (I.mlt k ok (by omega) hok hmk))
  · intro k ok hk hok hmk hlk
    rcases (Lst_set hi).1 hlk with rfl | h
    · omega
    · exact I.mge k ok (by omega) hok hmk h
  · intro k x ok hk hok hor
    rw [hlow k x hk]
    refine I.rnone k x ok hk hok ?_
    rcases hor with h | h
    · exact .inl fun h' => h ((Lst_set hi).2 (.inr h'))
    · exact .inr h
  · intro k x ok hk hok hlk hgk hpk
    have hki : k ≠ i := by omega
    obtain ⟨l, B, h1, h2, h3, h4, h5, h6⟩ := I.rge k x ok hk hok (((Lst_set hi).1 hlk).resolve_left hki) hgk (by omega)
    have hxi : (S i).get x = none := C.none_upto hok hk (by omega)
    have hnt : ∀ b q, l.has b q → ¬ Terr μ (S i) b q := by
      rintro b q hlb ⟨y, Y, m, hY, _, hm, hmb⟩
      have hyx : y ≠ x := fun e => by subst e; rw [hxi] at hY; cases hY
      exact h6 y m Y hyx hm hY b q hmb hlb
    have h4' : BlkR μ' w' B l := by
      obtain ⟨arr, el, fr, hb1, hb2, hb3, hb4, hb5⟩ := h4.ex
      obtain ⟨arr', ha1, ha2, ha3⟩ := hS.cells l.b arr el fr hb1
      refine ⟨arr', el, fr, ha1, by omega, hb3, hb4, fun j c hc => ?_⟩
      obtain ⟨uu, hu1, hu2⟩ := hb5 j c hc
      have hj : j < B.cells.length := (List.getElem?_eq_some_iff.1 hc).1
      refine ⟨uu, ?_, hu2.mono hmono⟩
      rw [ha3 (l.o + j) (hnt l.b (l.o + j) ⟨rfl, by omega, by omega⟩)]
      exact hu1
    refine ⟨l, B, (hlow k x hk).trans h1, h2, h3, h4', h5, ?_⟩
    intro y m Y hyx hm hY
    cases hrw : Y.rw with
    | true =>
      intro b q hmb hlb
      have hlt : b < w.heap.size := by have := hlb.1; have := h4.lt; omega
      exact hnt b q hlb (hS.terr b q hlt ⟨y, Y, m, hY, hrw, hm, hmb⟩)
    | false =>
      have hyn : y < (S (i + 1)).n := hR.dom y m hm
      rcases Nat.lt_or_ge y (S i).n with hlt | hge
      · obtain ⟨Y', hY', _⟩ := hS.ro y Y hlt hY hrw
        exact h6 y m Y' hyx (hS.ext y hlt ▸ hm) hY'
      · rw [hS.ronew y Y hge hyn hY] at hrw; cases hrw
  · intro k k' x x' l l' hkk hk hk' hpk hpk' hl hl'
    rw [hlow k x hk] at hl
    rw [hlow k' x' hk'] at hl'
    exact I.rgg k k' x x' l l' hkk hk hk' (by omega) (by omega) hl hl'
/-- An allocation at a place that was kept for it. -/
theorem Inv.place (C : Ctx P N ops d base E S) (hb : σ₀.n ≤ base) (I : Inv P N ops d base E S μ₀ σ₀ w₀ listed μ a w p) {i : Nat} {o : Oper} (ho : ops[i]? = some o) (hl : ¬ Lst listed i)
    (hr : ∀ e ∈ o.after, Region.binds .any e = true → Lst listed e.on) {x : Nat} (hx : keptAt base d.res i = some x) (hg : agate ops (E i) o = some true) {cs : List AV} {us rest : List Value} {el : TypeId}
    (hs : S (i + 1) = (S i).set x ⟨cs, true⟩) (hv : VRs μ cs us) {u : Value} (hu : ∀ t, o.dst = some t → VR (μ.upd x ⟨w.heap.size, 0, (us ++ rest).length⟩) (E (i + 1) t) u) :
    Inv P N ops d base E S μ₀ σ₀ w₀ (listed.setIfInBounds i true) (μ.upd x ⟨w.heap.size, 0, (us ++ rest).length⟩) (a.put o.dst u) (w.alloc (.cells (us ++ rest).toArray el)) p := by
  have hin : i < ops.size := (Array.getElem?_eq_some_iff.1 ho).1
  have hi : i < listed.size := by rw [I.sz]; exact hin
  have hir := (keptAt_mem hx).1
  have hM : isM d.res i o.op = false := by simp [isM, hir]
  have hμx : μ x = none := I.rnone i x o hx ho (.inl hl)
  generalize hL : (⟨w.heap.size, 0, (us ++ rest).length⟩ : Loc) = L at hu ⊢
  have hmono : ∀ j l, μ j = some l → μ.upd x L j = some l := by
    intro j l hj
    unfold Mu.upd
    rw [if_neg fun e => by subst e; rw [hμx] at hj; cases hj]
    exact hj
  have hupd : ∀ y, y ≠ x → μ.upd x L y = μ y := fun y hy => if_neg hy
  have hnew : (w.alloc (.cells (us ++ rest).toArray el)).heap[w.heap.size]? = some (.cells (us ++ rest).toArray el) := by
    show (w.heap.push _)[w.heap.size]? = _
    simp
  have hold : ∀ (b : Nat), b < w.heap.size → (w.alloc (.cells (us ++ rest).toArray el)).heap[b]? = w.heap[b]? := by
    intro b hb
    show (w.heap.push _)[b]? = _
    simp [Array.getElem?_push, Nat.ne_of_lt hb]
  have hwsz : (w.alloc (.cells (us ++ rest).toArray el)).heap.size = w.heap.size + 1 := by
    show (w.heap.push _).size = _
    simp
  have hblkx : BlkR (μ.upd x L) (w.alloc (.cells (us ++ rest).toArray el)) ⟨cs, true⟩ L := by
    subst hL
    refine ⟨_, _, _, hnew, by simp, by simp [hv.1], fun _ => rfl, ?_⟩
    intro j c hc
    obtain ⟨q, hq, hvr⟩ := hv.get hc
    have hj : j < us.length := (List.getElem?_eq_some_iff.1 hq).1
    exact ⟨q, by simp [List.getElem?_append_left hj, hq], hvr.mono hmono⟩
  have hkeep : ∀ B l, BlkR μ w B l → BlkR (μ.upd x L) (w.alloc (.cells (us ++ rest).toArray el)) B l := by
    intro B l h
    obtain ⟨arr, el', fr, hb, rest'⟩ := (h.mono hmono).ex
    exact ⟨arr, el', fr, (hold _ h.lt).trans hb, rest'⟩
  have hLb : L.b = w.heap.size := by subst hL; rfl
  have far : ∀ B l, BlkR μ w B l → l.apart L := by
    intro B l h b q h1 h2
    have := h.lt; have := h1.1; have := h2.1
    omega
  have hSx : ∀ B, (S p).get x = some B → B = ⟨cs, true⟩ := by
    intro B hB
    rcases Nat.lt_or_ge i p with h | h
    · have hr' := C.get_range x (i := i + 1) (j := p) (by omega) I.ple (fun q oq h1 h2 hoq hmq => by
        rcases C.F.rm i q o oq (by omega) ho hoq hir hmq with ⟨_, hor⟩ | hpr
        · exfalso
          unfold ordered at hor
          rw [if_neg (by omega)] at hor
          exact hl (bit_listed C.F I.down q i (by have := I.ple; omega) hin hor (I.mlt q oq h2 hoq hmq))
        · exact C.chk i q o oq hpr ho hoq x (C.look_kept hx)) (fun q h1 _ e => by have := keptAt_inj hx e; omega)
      rw [hs, AHeap.set_get, if_pos rfl, hB] at hr'
      cases hr'; rfl
    · rw [C.none_upto ho hx h] at hB; cases hB
  have hnm := I.names C ho hmono hu
  refine ⟨by rw [Array.size_setIfInBounds, I.sz], I.down' ho hr, ?_, ?_, hnm.1, hnm.2, I.ple, ?_, ?_, ⟨?_, ?_, ?_⟩, ?_, ?_, ?_, ?_⟩
  · cases o.dst <;> exact I.dfr
  · cases o.dst
    · exact I.asz
    · show (a.tmps.setIfInBounds _ _).size = N
      rw [Array.size_setIfInBounds, I.asz]
  · exact fun k ok hk hok hmk => (Lst_set hi).2 (.inr (I.mlt k ok hk hok hmk))
  · intro k ok hk hok hmk hlk
    rcases (Lst_set hi).1 hlk with rfl | h
    · rw [ho] at hok; cases hok; rw [hM] at hmk; cases hmk
    · exact I.mge k ok hk hok hmk h
  · intro y l hy
    by_cases e : y = x
    · subst e; exact Nat.lt_of_lt_of_le (C.lt0 i y hx) (C.n_mono (Nat.zero_le p) I.ple)
    · rw [hupd y e] at hy; exact I.rel.dom y l hy
  · intro y B l hB hy
    by_cases e : y = x
    · subst e
      rw [hSx B hB]
      have : μ.upd y L y = some L := if_pos rfl
      rw [this] at hy; cases hy
      exact hblkx
    · rw [hupd y e] at hy
      exact hkeep B l (I.rel.blk y B l hB hy)
  · intro y z B D l m hyz hB hD hrw hy hz
    by_cases e : y = x
    · subst e
      have : μ.upd y L y = some L := if_pos rfl
      rw [this] at hy; cases hy
      rw [hupd z (Ne.symm hyz)] at hz
      exact Loc.apart_symm (far D m (I.rel.blk z D m hD hz))
    · rw [hupd y e] at hy
      by_cases e' : z = x
      · subst e'
        have : μ.upd z L z = some L := if_pos rfl
        rw [this] at hz; cases hz
        exact far B l (I.rel.blk y B l hB hy)
      · rw [hupd z e'] at hz
        exact I.rel.sep y z B D l m hyz hB hD hrw hy hz
  · have hxb : base ≤ x := (keptAt_mem hx).2.1
    refine ⟨I.stp.os, I.stp.tape, I.stp.output, by have := I.stp.size; omega, I.stp.n, ?_, ?_, ?_, I.stp.ro, I.stp.ronew, ?_⟩
    · intro j hj; rw [hupd j (by omega)]; exact I.stp.ext j hj
    · rintro b q hbl ⟨y, B, l, hB, hrw, hy, hh⟩
      by_cases e : y = x
      · subst e
        have : μ.upd y L y = some L := if_pos rfl
        rw [this] at hy; cases hy
        have := hh.1; have := I.stp.size
        omega
      · rw [hupd y e] at hy
        exact I.stp.terr b q hbl ⟨y, B, l, hB, hrw, hy, hh⟩
    · intro b arr el' fr hb
      obtain ⟨arr', h1, h2, h3⟩ := I.stp.cells b arr el' fr hb
      exact ⟨arr', (hold _ (Array.getElem?_eq_some_iff.1 h1).1).trans h1, h2, h3⟩
    · intro b ob hb hne
      have h1 := I.stp.other b ob hb hne
      exact (hold _ (Array.getElem?_eq_some_iff.1 h1).1).trans h1
  · intro k y ok hk hok hor
    have hki : k ≠ i := by
      rintro rfl
      rw [ho] at hok; cases hok
      rcases hor with h | h
      · exact h ((Lst_set hi).2 (.inl rfl))
      · exact h hg
    rw [hupd y fun e => hki (keptAt_inj (e ▸ hk) hx)]
    refine I.rnone k y ok hk hok ?_
    rcases hor with h | h
    · exact .inl fun h' => h ((Lst_set hi).2 (.inr h'))
    · exact .inr h
  · intro k y ok hk hok hlk hgk hpk
    rcases (Lst_set hi).1 hlk with rfl | h
    · rw [hx] at hk; cases hk
      refine ⟨L, ⟨cs, true⟩, if_pos rfl, by rw [hs, AHeap.set_get, if_pos rfl], rfl, hblkx, by have := I.stp.size; omega, ?_⟩
      intro z m D hz hm hD
      rw [hupd z hz] at hm
      exact far D m (I.rel.blk z D m hD hm)
    · have hki : k ≠ i := fun e => hl (e ▸ h)
      have hyx : y ≠ x := fun e => hki (keptAt_inj (e ▸ hk) hx)
      obtain ⟨l, B, h1, h2, h3, h4, h5, h6⟩ := I.rge k y ok hk hok h hgk hpk
      refine ⟨l, B, (hupd y hyx).trans h1, h2, h3, hkeep B l h4, h5, ?_⟩
      intro z m D hz hm hD
      by_cases e : z = x
      · subst e
        have : μ.upd z L z = some L := if_pos rfl
        rw [this] at hm; cases hm
        exact Loc.apart_symm (far B l h4)
      · rw [hupd z e] at hm
        exact h6 z m D hz hm hD
  · have live : ∀ k y l, keptAt base d.res k = some y → p ≤ k → μ y = some l → l.apart L := by
      intro k y l hk hpk hly
      have hkn := C.F.resn k (keptAt_mem hk).1
      have hok : ops[k]? = some ops[k] := Array.getElem?_eq_getElem hkn
      have hlk : Lst listed k := by
        by_cases h : Lst listed k
        · exact h
        · rw [I.rnone k y _ hk hok (.inl h)] at hly; cases hly
      have hgk : agate ops (E k) ops[k] = some true := by
        by_cases h : agate ops (E k) ops[k] = some true
        · exact h
        · rw [I.rnone k y _ hk hok (.inr h)] at hly; cases hly
      obtain ⟨l', B, h1, _, _, h4, _⟩ := I.rge k y _ hk hok hlk hgk hpk
      rw [hly] at h1; cases h1
      exact far B l h4
    intro k k' y y' l l' hkk hk hk' hpk hpk' hy hy'
    by_cases e : y = x
    · subst e
      have : μ.upd y L y = some L := if_pos rfl
      rw [this] at hy; cases hy
      have hy'x : y' ≠ y := fun e => hkk (keptAt_inj hk (e ▸ hk'))
      rw [hupd y' hy'x] at hy'
      exact Loc.apart_symm (live k' y' l' hk' hpk' hy')
    · rw [hupd y e] at hy
      by_cases e' : y' = x
      · subst e'
        have : μ.upd y' L y' = some L := if_pos rfl
        rw [this] at hy'; cases hy'
        exact live k y l hk hpk hy
      · rw [hupd y' e'] at hy'
        exact I.rgg k k' y y' l l' hkk hk hk' hpk hpk' hy hy'
end
end AH
/- THE ABSTRACT MACHINE: every order of a region that draws: the theorem. -/
namespace AH
open Go
section
variable {P : Program} {N : Nat} {ops : Array Oper} {d : DOrd} {base : Nat} {E : Nat → Env} {S : Nat → AHeap} {μ₀ : Mu} {σ₀ : AHeap} {w₀ : World} {listed : Array Bool} {μ : Mu} {a : Act} {w : World} {p : Nat} {Q : Exit → Act → World → Prop}
theorem put_self (env : Env) {dst : Option Tmp} {v : AV} {t : Tmp} (h : dst = some t) : env.put dst v t = v := by
  subst h; exact if_pos rfl
theorem aload_only {t : TypeId} {a v : AV} {σ : AHeap} (h : aload P t a σ = some v) : ∃ i k, a = .ptr i k ∧ ∀ τ : AHeap, τ.get i = σ.get i → aload P t a τ = some v := by
  unfold aload at h
  split at h
  next i k =>
    refine ⟨i, k, rfl, fun τ hτ => ?_⟩
    unfold aload
    simp only [hτ]
    exact h
  next => cases h
/-- A quiet operation that is ready. -/
theorem Inv.quietOp (C : Ctx P N ops d base E S) (I : Inv P N ops d base E S μ₀ σ₀ w₀ listed μ a w p) {i : Nat} {o : Oper} (ho : ops[i]? = some o) (hl : ¬ Lst listed i)
    (hr : ∀ e ∈ o.after, Region.binds .any e = true → Lst listed e.on) (hE : isE o.op = false) (hN : isN o.op = false) (hir : i ∉ d.res) (hg : agate ops (E i) o = some true) {v : AV} {σ' : AHeap} (h : aop P (aeval (E i)) o.op (S i) = some (v, σ')) :
    OpQ P μ w (execOp a.eval o) v := by
  have hen := I.env C ho hl hr
  cases hL : isL o.op with
  | false =>
    have h' := (aopQ_free hE hN h).2 hL ⟨(S p).n, fun _ => none⟩
    rw [← mask_aop (ops := ops)] at h'
    refine aopQ_sound (σ := ⟨(S p).n, fun _ => none⟩) ⟨I.rel.dom, ?_, ?_⟩ (fun x => hen.eval x) hE hN h'
    · intro i B l hB; cases hB
    · intro i j B D l m _ hB; cases hB
  | true =>
    cases hop : o.op <;> rw [hop] at hL <;> simp only [isL, Bool.false_eq_true] at hL
    rename_i t x
    have h0 := h
    rw [hop] at h0
    simp only [aop] at h0
    cases hld : aload P t (aeval (E i) x) (S i) with
    | none => rw [hld] at h0; cases h0
    | some v' =>
      rw [hld] at h0
      simp only [Option.map_some, Option.some.injEq, Prod.mk.injEq] at h0
      obtain ⟨rfl, _⟩ := h0
      obtain ⟨y, k, hy, hany⟩ := aload_only hld
      have hlk : lookAt ops base d.res E i o = some y := by
        unfold lookAt touched
        rw [if_pos hg, keptAt_none hir, hop]
        simp only [hy, atOf]
      have hτ := hany ⟨(S p).n, fun z => if z = y then (S i).get y else none⟩ (if_pos rfl)
      have h' : aop P (aeval (mask ops o (E i))) o.op ⟨(S p).n, fun z => if z = y then (S i).get y else none⟩ = some (v', ⟨(S p).n, fun z => if z = y then (S i).get y else none⟩) := by
        rw [mask_aop, hop]
        simp only [aop, hτ, Option.map_some]
      refine aopQ_sound (σ := ⟨(S p).n, fun z => if z = y then (S i).get y else none⟩) ⟨I.rel.dom, ?_, ?_⟩ (fun x => hen.eval x) hE hN h'
      · intro z B l hB hz
        by_cases e : z = y
        · subst e
          have hB : (if z = z then (S i).get z else none) = some B := hB
          rw [if_pos rfl] at hB
          exact I.look C ho (by rw [hop]; rfl) hlk hl hr hz hB
        · have hB : (if z = y then (S i).get y else none) = some B := hB
          rw [if_neg e] at hB; cases hB
      · intro z z' B D l m hzz hB hD
        have hB : (if z = y then (S i).get y else none) = some B := hB
        have hD : (if z' = y then (S i).get y else none) = some D := hD
        by_cases e : z = y
        · rw [if_neg (by omega)] at hD; cases hD
        · rw [if_neg e] at hB; cases hB
/-- One operation that is ready. -/
theorem Inv.exec (C : Ctx P N ops d base E S) (hb : σ₀.n ≤ base) (I : Inv P N ops d base E S μ₀ σ₀ w₀ listed μ a w p) {i : Nat} {o : Oper} (ho : ops[i]? = some o) (hl : ¬ Lst listed i)
    (hr : ∀ e ∈ o.after, Region.binds .any e = true → Lst listed e.on) {K : Act → World → Prop}
    (hK : ∀ μ' a' w' p', Inv P N ops d base E S μ₀ σ₀ w₀ (listed.setIfInBounds i true) μ' a' w' p' → K a' w') : wpOp P ops Q i K a w := by
  have hen := I.env C ho hl hr
  have hdst := C.F.dst i o ho
  unfold wpOp
  rw [ho]
  simp only
  rcases C.step i o ho with ⟨hg, v, hop, he⟩ | ⟨hg, he, hs⟩
  · have hw := gate_sound hen ((mask_gate (E i)).trans hg)
    rw [hw, if_pos rfl]
    left
    by_cases hir : i ∈ d.res
    · obtain ⟨x, hx⟩ := keptAt_some (base := base) hir
      obtain ⟨v', f, cs, hv', hf, hs, he'⟩ := C.kept_rw ho hx hg
      have hN := C.F.res i o ho hir
      have h1 := hf (S p)
      rw [← mask_aop (ops := ops)] at h1
      obtain ⟨f', cs', s, hv1, hs1, hany, hex, u, us, rest, el, hrun, hvs, hfin⟩ := aopN_sound (μ := μ) (w := w) (fun x => hen.eval x) hN h1
      have hff : ∀ n, f' n = f n ∧ cs' = cs := by
        intro n
        have e1 := hany ⟨n, fun _ => none⟩
        rw [mask_aop, hf] at e1
        simp only [Option.some.injEq, Prod.mk.injEq] at e1
        have e2 := congrArg (fun τ : AHeap => τ.get n) e1.2
        simp only [AHeap.push_get, if_true, Option.some.injEq] at e2
        cases e2
        exact ⟨e1.1.symm, rfl⟩
      obtain rfl := (hff 0).2
      unfold Oper.wp
      have hrun' : (execOp a.eval o).run P w = .ok (.value u) (w.alloc (.cells (us ++ rest).toArray el)) := by
        rw [hex]; simp [hrun]
      rw [hrun']
      refine hK _ _ _ p (I.place C hb ho hl hr hx hg hs hvs (u := u) ?_)
      intro t ht
      rw [he', put_self _ ht, hv', ← (hff x).1]
      exact hfin x _ (if_pos rfl)
    · rw [keptAt_none hir] at hop
      cases hM : isM d.res i o.op with
      | true =>
        have I' := I.reach C hb ho hl hr hM
        refine AOp_sound I'.rel hen hdst (mask_AOp hop) ?_
        intro u w' μ' hv hR' hS'
        refine hK μ' _ w' (i + 1) (I'.write C hb ho hr hir hR' hS' ?_)
        intro t ht
        rw [he, put_self _ ht]
        exact hv
      | false =>
        obtain ⟨hE, hN⟩ := isM_false hM hir
        obtain ⟨u, hrun, hv⟩ := I.quietOp C ho hl hr hE hN hir hg (AOp_aop hE hop)
        unfold Oper.wp
        rw [hrun]
        refine hK μ _ w p (I.quiet C ho hl hr hM (.inl hir) (u := u) ?_)
        intro t ht
        rw [he, put_self _ ht]
        exact hv
  · have hw := gate_sound hen ((mask_gate (E i)).trans hg)
    rw [hw]
    simp only [Bool.false_eq_true, if_false]
    have hu : ∀ t, o.dst = some t → VR μ (E (i + 1) t) undef := by
      intro t ht
      rw [he, put_self _ ht]
      exact VR_skip _
    cases hM : isM d.res i o.op with
    | false => exact hK μ _ w p (I.quiet C ho hl hr hM (.inr (by rw [hg]; simp)) hu)
    | true =>
      have I' := I.reach C hb ho hl hr hM
      have hir : i ∉ d.res := by
        intro h
        simp [isM, h] at hM
      refine hK μ _ w (i + 1) (I'.write C hb ho hr hir (by rw [hs]; exact I'.rel) (by rw [hs]; exact Step.refl _ _ _) hu)
theorem Inv.done (C : Ctx P N ops d base E S) (hb : σ₀.n ≤ base) (I : Inv P N ops d base E S μ₀ σ₀ w₀ listed μ a w p) (hall : ∀ i, i < ops.size → Lst listed i) : EnvR μ N (E ops.size) a ∧ Rel μ (S ops.size) w ∧ Step μ₀ σ₀ w₀ μ (S ops.size) w := by
  have I' := I.advTo C hb (Nat.le_refl _) I.ple fun i o h1 h2 ho => by
    cases hm : isM d.res i o.op with
    | false => rfl
    | true => exact absurd (hall i h2) (I.mge i o h1 ho hm)
  refine ⟨⟨I.dfr, I.asz, fun t => ?_⟩, I'.rel, I'.stp⟩
  by_cases hw : ∃ (q : Nat) (oq : Oper), ops[q]? = some oq ∧ oq.dst = some t
  · obtain ⟨q, oq, hoq, hdq⟩ := hw
    have hq : q < ops.size := (Array.getElem?_eq_some_iff.1 hoq).1
    rw [E_same C (i := q + 1) (j := ops.size) (by omega) (Nat.le_refl _) fun q' o' h1 h2 ho' hd' => C.F.dst1 q' q o' oq t (by omega) ho' hoq hdq hd']
    exact I.t1 q oq t hoq (hall q hq) hdq
  · rw [E_same C (i := 0) (j := ops.size) (by omega) (Nat.le_refl _) fun q' o' h1 h2 ho' hd' => hw ⟨q', o', ho', hd'⟩]
    exact I.t0 t fun q' o' ho' hl' hd' => hw ⟨q', o', ho', hd'⟩
theorem count_zero {l : Array Bool} (h : l.toList.count false = 0) {i : Nat} (hi : i < l.size) : Lst l i := by
  unfold Lst
  rw [Array.getD_eq_getD_getElem?, Array.getElem?_eq_getElem hi]
  cases hb : l[i] with
  | true => rfl
  | false =>
    have : false ∈ l.toList := by rw [← hb, ← Array.getElem_toList]; exact List.getElem_mem _
    rw [List.count_eq_zero] at h
    exact absurd this h
theorem count_set {l : Array Bool} {i : Nat} (hi : i < l.size) (hl : ¬ Lst l i) : (l.setIfInBounds i true).toList.count false + 1 = l.toList.count false := by
  have hb : l[i] = false := by
    unfold Lst at hl
    rw [Array.getD_eq_getD_getElem?, Array.getElem?_eq_getElem hi] at hl
    simpa using hl
  have hm : false ∈ l.toList := by rw [← hb, ← Array.getElem_toList]; exact List.getElem_mem _
  have hpos := List.count_pos_iff.2 hm
  rw [Array.toList_setIfInBounds, List.count_set (by simpa using hi)]
  simp only [Array.getElem_toList, hb, beq_self_eq_true, if_true]
  rw [if_neg (by decide)]
  omega
theorem Inv.run (C : Ctx P N ops d base E S) (hb : σ₀.n ≤ base) (hQ : ∀ μ a w, EnvR μ N (E ops.size) a → Rel μ (S ops.size) w → Step μ₀ σ₀ w₀ μ (S ops.size) w → Q .normal a w) :
    ∀ (fuel : Nat) (listed : Array Bool) (μ : Mu) (a : Act) (w : World) (p : Nat), listed.toList.count false ≤ fuel → Inv P N ops d base E S μ₀ σ₀ w₀ listed μ a w p → wpAny P .any ops Q fuel listed a w := by
  intro fuel
  induction fuel with
  | zero =>
    intro listed μ a w p hc I
    have hall : ∀ i, i < ops.size → Lst listed i := fun i hi => count_zero (by omega) (by rw [I.sz]; exact hi)
    refine ⟨?_, ?_⟩
    · cases hrd : Region.ready .any ops listed with
      | nil => rfl
      | cons i rest =>
        obtain ⟨o, ho, hl, _⟩ := ready_facts I.sz (i := i) (by rw [hrd]; simp)
        exact absurd (hall i (Array.getElem?_eq_some_iff.1 ho).1) hl
    · obtain ⟨h1, h2, h3⟩ := I.done C hb hall
      exact hQ μ a w h1 h2 h3
  | succ fuel ih =>
    intro listed μ a w p hc I
    refine ⟨fun h0 => ?_, fun i hi => ?_⟩
    · obtain ⟨h1, h2, h3⟩ := I.done C hb (not_ready I.sz C.F h0)
      exact hQ μ a w h1 h2 h3
    · obtain ⟨o, ho, hl, hr⟩ := ready_facts I.sz hi
      have hin := (Array.getElem?_eq_some_iff.1 ho).1
      refine I.exec C hb ho hl hr fun μ' a' w' p' I' => ih _ μ' a' w' p' ?_ I'
      have := count_set (l := listed) (i := i) (by rw [I.sz]; exact hin) hl
      omega
end
theorem chkAll_mem {n : Nat} {tr : List DRec} : ∀ {ps : List (Nat × Nat)}, chkAll n tr ps → ∀ p ∈ ps, chkPair n tr p
  | [], _, p, hp => by cases hp
  | q :: qs, h, p, hp => by
    rcases List.mem_cons.1 hp with rfl | hp
    · exact h.1
    · exact chkAll_mem h.2 p hp
/-- Every order of the region does what the text's order does. -/
theorem draw_sound {P : Program} {N : Nat} {μ : Mu} {σ : AHeap} {w : World} {env : Env} {a : Act} {id : Nat} {ops : Array Oper} {d : DOrd} (hm : P.follows .mixedOrders = true) (hd : dordOk N ops d = true)
    {K : Env → AHeap → Prop} {Q : Exit → Act → World → Prop}
    (hQ : ∀ a w', Post P N μ σ w K a w' → Q .normal a w') (h : @adraw P ops d env σ ⟨K⟩) (hE : EnvR μ N env a) (hR : Rel μ σ w) : (Code.region id ops true).wp P Q a w := by
  have F := dfacts hd
  unfold adraw at h
  have hkr : ∀ k x, keptAt σ.n d.res k = some x → (if d.res = [] then σ else σ.reserve d.res.length) = σ.reserve d.res.length ∧ σ.n ≤ x ∧ x < σ.n + d.res.length := by
    intro k x hk
    have := keptAt_mem hk
    refine ⟨if_neg fun e => ?_, this.2.1, this.2.2.1⟩
    rw [e] at this; cases this.1
  have hRS : Rel μ (if d.res = [] then σ else σ.reserve d.res.length) w.drew ∧ Step μ σ w μ (if d.res = [] then σ else σ.reserve d.res.length) w.drew := by
    split
    · exact ⟨hR.drew, Step.drew _ _ _⟩
    · have hget : ∀ i B, (σ.reserve d.res.length).get i = some B → σ.get i = some B := by
        intro i B hB
        have hB : (if σ.n ≤ i ∧ i < σ.n + d.res.length then none else σ.get i) = some B := hB
        split at hB
        · cases hB
        · exact hB
      have hS := Step.drew μ σ w
      refine ⟨⟨fun i l hl => ?_, fun i B l hB hl => hR.drew.blk i B l (hget i B hB) hl, fun i j B D l m hij hB hD hrw hl hm => hR.sep i j B D l m hij (hget i B hB) (hget j D hD) hrw hl hm⟩, ?_⟩
      · have := hR.dom i l hl
        show i < σ.n + d.res.length
        omega
      · refine ⟨hS.os, hS.tape, hS.output, hS.size, Nat.le_add_right _ _, hS.ext, ?_, hS.cells, ?_, ?_, hS.other⟩
        · rintro b o hb ⟨i, B, l, hB, h1⟩
          exact ⟨i, B, l, hget i B hB, h1⟩
        · exact fun i B _ hB hr => ⟨B, hget i B hB, hr⟩
        · intro i B h1 h2 hB
          have h2 : i < σ.n + d.res.length := h2
          have hB : (if σ.n ≤ i ∧ i < σ.n + d.res.length then none else σ.get i) = some B := hB
          rw [if_pos ⟨h1, h2⟩] at hB; cases hB
  obtain ⟨E, S, trf, hE0, hS0, hstep, _, htr, hchk, hK⟩ := chain_of ops.size 0 env _ [] (Nat.zero_add _) rfl (by simpa using h)
  have C : Ctx P N ops d σ.n E S := by
    refine ⟨F, fun i o ho => hstep i o (Nat.zero_le _) ho, ?_, ?_, ?_⟩
    · intro j i oj oi hp hoj hoi x hx
      have := chkAll_mem hchk (j, i) hp
      unfold chkPair at this
      simp only at this
      rw [htr j oj (Nat.zero_le _) hoj, htr i oi (Nat.zero_le _) hoi] at this
      simp only [hx] at this
      exact this
    · intro k x hk
      obtain ⟨h1, h2, h3⟩ := hkr k x hk
      rw [hS0, h1]
      exact if_pos ⟨h2, h3⟩
    · intro k x hk
      obtain ⟨h1, h2, h3⟩ := hkr k x hk
      rw [hS0, h1]
      exact h3
  have nol : ∀ i, ¬ Lst (Array.replicate ops.size false) i := by
    intro i hl
    unfold Lst at hl
    rw [Array.getD_eq_getD_getElem?] at hl
    by_cases hi : i < ops.size
    · simp [hi] at hl
    · simp [hi] at hl
  have μnone : ∀ k x, keptAt σ.n d.res k = some x → μ x = none := by
    intro k x hk
    obtain ⟨_, h2, _⟩ := hkr k x hk
    cases hμ : μ x with
    | none => rfl
    | some l => have := hR.dom x l hμ; omega
  have I : Inv P N ops d σ.n E S μ σ w (Array.replicate ops.size false) μ a w.drew 0 := by
    refine ⟨by simp, fun k o e _ hl => absurd hl (nol k), hE.defers, hE.size, fun t _ => by rw [hE0]; exact hE.tmps t, fun i o t _ hl => absurd hl (nol i), Nat.zero_le _, fun i o hi => by omega, fun i o _ _ _ => nol i,
      by rw [hS0]; exact hRS.1, by rw [hS0]; exact hRS.2, fun k x o hk _ _ => μnone k x hk, fun k x o _ _ hl => absurd hl (nol k), ?_⟩
    intro k k' x x' l l' _ hk _ _ _ hl
    rw [μnone k x hk] at hl; cases hl
  refine wp_region_any hm ?_
  refine I.run C (Nat.le_refl _) ?_ ops.size _ μ a w.drew 0 ?_
  · intro μ' a' w' h1 h2 h3
    exact hQ a' w' ⟨E ops.size, S ops.size, μ', hK, h1, h2, h3⟩
  · refine Nat.le_trans List.count_le_length ?_
    simp
end AH
/- THE ABSTRACT MACHINE: code and functions. -/
namespace AH
open Go
theorem exists_least {p : Nat → Prop} (h : ∃ m, p m) : ∃ m, p m ∧ ∀ k, k < m → ¬ p k := by
  obtain ⟨m, hm⟩ := h
  induction m using Nat.strongRecOn with
  | _ m ih =>
    by_cases hk : ∃ k, k < m ∧ p k
    · obtain ⟨k, hk, hp⟩ := hk
      exact ih k hk hp
    · exact ⟨m, hm, fun k hlt hp => hk ⟨k, hlt, hp⟩⟩
noncomputable def least (p : Nat → Prop) : Nat := @dite _ (∃ m, p m) (Classical.propDecidable _) (fun h => Classical.choose (exists_least h)) fun _ => 0
theorem least_spec {p : Nat → Prop} (h : ∃ m, p m) : p (least p) := by
  unfold least; rw [dif_pos h]; exact (Classical.choose_spec (exists_least h)).1
theorem least_le {p : Nat → Prop} {m : Nat} (h : p m) : least p ≤ m := by
  unfold least
  have he : ∃ m, p m := ⟨m, h⟩
  rw [dif_pos he]
  rcases Nat.lt_or_ge m (Classical.choose (exists_least he)) with hlt | hge
  · exact absurd h ((Classical.choose_spec (exists_least he)).2 m hlt)
  · exact hge
def athen (next : Env → AHeap → Prop) (K : Exit → Env → AHeap → Prop) : Exit → Env → AHeap → Prop
  | .normal, env, σ => next env σ
  | e, env, σ => K e env σ
def ainBlock (id : Nat) (K : Exit → Env → AHeap → Prop) : Exit → Env → AHeap → Prop
  | .exit id', env, σ => if id' = id then K .normal env σ else K (.exit id') env σ
  | e, env, σ => K e env σ
def acond (c : AV) [yes : Kt Prop] [no : Kt Prop] : Prop :=
  match c with
  | .bool t => (t = true → yes.val) ∧ (t = false → no.val)
  | _ => False
def aloop (step : (Exit → Env → AHeap → Prop) → Env → AHeap → Prop) (K : Exit → Env → AHeap → Prop) : Nat → Env → AHeap → Prop
  | 0, _, _ => False
  | n + 1, env, σ => step (athen (aloop step K n) K) env σ
def aloops [step : Kt ((Exit → Env → AHeap → Prop) → Env → AHeap → Prop)] [K : Kt (Exit → Env → AHeap → Prop)] (env : Env) (σ : AHeap) : Prop := ∃ n, aloop step.val K.val n env σ
def wpc (P : Program) (ord : Nat → DOrd) : Code → (Exit → Env → AHeap → Prop) → Env → AHeap → Prop
  | .skip, K, env, σ => K .normal env σ
  | .region _ ops false, K, env, σ => aops P ops ops.toList env σ (K .normal)
  | .region id ops true, K, env, σ => @adraw P ops (ord id) env σ ⟨K .normal⟩
  | .seq a b, K, env, σ => wpc P ord a (athen (wpc P ord b K) K) env σ
  | .cond c a b, K, env, σ => @acond (aeval env c) ⟨wpc P ord a K env σ⟩ ⟨wpc P ord b K env σ⟩
  | .block id c, K, env, σ => wpc P ord c (ainBlock id K) env σ
  | .loop c, K, env, σ => @aloops ⟨wpc P ord c⟩ ⟨K⟩ env σ
  | .exit id, K, env, σ => K (.exit id) env σ
  | .ret, K, env, σ => K .ret env σ
  | _, _, _, _ => False
def codeOk (N : Nat) (ord : Nat → DOrd) : Code → Bool
  | .region id ops true => dordOk N ops (ord id)
  | .region _ ops false => ops.toList.all (dstOk N)
  | .seq a b => codeOk N ord a && codeOk N ord b
  | .cond _ a b => codeOk N ord a && codeOk N ord b
  | .block _ c => codeOk N ord c
  | .loop c => codeOk N ord c
  | _ => true
section
variable {P : Program} {N : Nat} {ord : Nat → DOrd}
def PostK (P : Program) (N : Nat) (μ : Mu) (σ : AHeap) (w : World) (K : Exit → Env → AHeap → Prop) (e : Exit) (a' : Act) (w' : World) : Prop := Post P N μ σ w (K e) a' w'
theorem wpc_sound (hm : P.follows .mixedOrders = true) : ∀ (c : Code), codeOk N ord c = true → ∀ (K : Exit → Env → AHeap → Prop) (env : Env) (σ : AHeap) (μ : Mu) (a : Act) (w : World),
    wpc P ord c K env σ → EnvR μ N env a → Rel μ σ w → c.wp P (PostK P N μ σ w K) a w := by
  intro c
  induction c with
  | skip => intro _ K env σ μ a w h hE hR; exact wp_skip ⟨env, σ, μ, h, hE, hR, Step.refl _ _ _⟩
  | region id ops draw =>
    intro hok K env σ μ a w h hE hR
    cases draw with
    | true => exact draw_sound hm hok (fun a w' hp => hp) h hE hR
    | false => exact region_sound hok (fun a w' hp => hp) h hE hR
  | seq x y ihx ihy =>
    intro hok K env σ μ a w h hE hR
    simp only [codeOk, Bool.and_eq_true] at hok
    refine wp_seq (wp_mono (ihx hok.1 _ env σ μ a w h hE hR) ?_)
    rintro e a' w' ⟨env', σ', μ', hK, hE', hR', hS⟩
    cases e with
    | normal => exact wp_mono (ihy hok.2 K env' σ' μ' a' w' hK hE' hR') fun e a'' w'' hp => hp.trans hS
    | _ => exact ⟨env', σ', μ', hK, hE', hR', hS⟩
  | cond c x y ihx ihy =>
    intro hok K env σ μ a w h hE hR
    simp only [codeOk, Bool.and_eq_true] at hok
    have hc := hE.eval c
    simp only [wpc] at h
    unfold acond at h
    split at h
    next t ht =>
      rw [ht] at hc
      generalize hq : a.eval c = q at hc
      cases hc
      exact wp_cond_split hq (fun e => ihx hok.1 K env σ μ a w (h.1 e) hE hR) (fun e => ihy hok.2 K env σ μ a w (h.2 e) hE hR)
    next => exact h.elim
  | block id c ih =>
    intro hok K env σ μ a w h hE hR
    refine wp_block (wp_mono (ih hok _ env σ μ a w h hE hR) ?_)
    rintro e a' w' ⟨env', σ', μ', hK, hE', hR', hS⟩
    cases e with
    | exit id' =>
      simp only [ainBlock] at hK
      simp only [Exit.inBlock]
      split at hK
      · rename_i he; rw [if_pos he]; exact ⟨env', σ', μ', hK, hE', hR', hS⟩
      · rename_i he; rw [if_neg he]; exact ⟨env', σ', μ', hK, hE', hR', hS⟩
    | _ => exact ⟨env', σ', μ', hK, hE', hR', hS⟩
  | loop c ih =>
    intro hok K env σ μ a w h hE hR
    obtain ⟨n, h⟩ := h
    let I : Nat → Act → World → Prop := fun m a' w' => ∃ env' σ' μ', aloop (wpc P ord c) K m env' σ' ∧ EnvR μ' N env' a' ∧ Rel μ' σ' w' ∧ Step μ σ w μ' σ' w'
    refine wp_loop (fun a' w' => ∃ m, I m a' w') (fun a' w' => least fun m => I m a' w') ⟨n, env, σ, μ, h, hE, hR, Step.refl _ _ _⟩ ?_
    intro a' w' hI
    have hleast := least_spec hI
    generalize (least fun m => I m a' w') = m at hleast
    obtain ⟨env', σ', μ', hl, hE', hR', hS⟩ := hleast
    cases m with
    | zero => exact hl.elim
    | succ m =>
      refine wp_mono (ih hok _ env' σ' μ' a' w' hl hE' hR') ?_
      rintro e a'' w'' ⟨env'', σ'', μ'', hK, hE'', hR'', hS'⟩
      cases e with
      | normal =>
        have hI' : I m a'' w'' := ⟨env'', σ'', μ'', hK, hE'', hR'', hS.trans hS'⟩
        refine ⟨⟨m, hI'⟩, ?_⟩
        exact Nat.lt_succ_of_le (least_le hI')
      | _ => exact ⟨env'', σ'', μ'', hK, hE'', hR'', hS.trans hS'⟩
  | exit id => intro _ K env σ μ a w h hE hR; exact wp_exit ⟨env, σ, μ, h, hE, hR, Step.refl _ _ _⟩
  | ret => intro _ K env σ μ a w h hE hR; exact wp_ret ⟨env, σ, μ, h, hE, hR, Step.refl _ _ _⟩
  | _ => intro _ K env σ μ a w h hE hR; exact h.elim
end
end AH
/- THE ABSTRACT MACHINE: a function's call out of its body, and what may be forgotten of the memory behind it. -/
namespace AH
open Go
/-- The values of the results. -/
def ares (P : Program) (env : Env) (σ : AHeap) : List ResultVar → Option (List AV)
  | [] => some []
  | .tmp t :: rs => (ares P env σ rs).map (env t :: ·)
  | .cell a t :: rs => match aload P t (env a) σ, ares P env σ rs with
    | some v, some vs => some (v :: vs)
    | _, _ => none
def atup : List AV → AV
  | [v] => v
  | vs => .tup vs
def bindR (x : Option (List AV)) [k : Kt (AV → Prop)] : Prop :=
  match x with
  | some vs => k.val (atup vs)
  | none => False
def aresK (P : Program) (rs : List ResultVar) (Q : AV → AHeap → Prop) : Exit → Env → AHeap → Prop
  | .normal, env, σ => @bindR (ares P env σ rs) ⟨fun v => Q v σ⟩
  | .ret, env, σ => @bindR (ares P env σ rs) ⟨fun v => Q v σ⟩
  | _, _, _ => False
def envOf (args : List AV) : Env := fun t => args.getD t .undef
/-- 'Called so, the function returns some v and leaves some memory of which Q is true.' -/
def ACallW (P : Program) (f : FuncId) (args : List AV) (σ : AHeap) (Q : AV → AHeap → Prop) : Prop :=
  Enters P f ∧ ∀ (μ : Mu) (w : World) (us : Array Value), Rel μ σ w → VRs μ args us.toList → Calls P f us w fun e w' => ∃ v σ', Q v σ' ∧ CallQ μ σ w v σ' e w'
section
variable {P : Program} {N : Nat}
theorem ares_sound {μ : Mu} {σ : AHeap} {w : World} {env : Env} {a : Act} (hE : EnvR μ N env a) (hR : Rel μ σ w) : ∀ (rs : List ResultVar) (vs : List AV), ares P env σ rs = some vs →
    ∃ us, (rs.mapM (m := Sem) fun | .tmp t => pure (a.tmps.getD t undef) | .cell c t => do loadVar t (← asAddr (a.tmps.getD c undef))).run P w = .ok us w ∧ VRs μ vs us := by
  intro rs
  induction rs with
  | nil => intro vs h; simp [ares] at h; subst h; exact ⟨[], rfl, VRs.nil μ⟩
  | cons r rs ih =>
    intro vs h
    cases r with
    | tmp t =>
      simp only [ares] at h
      cases hq : ares P env σ rs with
      | none => rw [hq] at h; cases h
      | some vs' =>
        rw [hq] at h; cases h
        obtain ⟨us, hr, hv⟩ := ih vs' hq
        refine ⟨_, ?_, VRs.cons (hE.tmps t) hv⟩
        simp only [List.mapM_cons, Sem.run_bind, Sem.run_pure, Result.andThen_ok, hr]
    | cell c t =>
      simp only [ares] at h
      split at h
      next v vs' hl hq =>
        cases h
        obtain ⟨us, hr, hv⟩ := ih vs' hq
        have hc := hE.tmps c
        have hload : ∃ u, (do loadVar t (← asAddr (a.tmps.getD c undef)) : Sem Value).run P w = .ok u w ∧ VR μ v u := by
          have hl2 := hl
          unfold aload at hl2
          split at hl2
          next i k he =>
            rw [he] at hc hl
            generalize a.tmps.getD c undef = q at hc
            cases hc
            rename_i l hlo
            obtain ⟨u, h1, h2⟩ := load_quiet (P := P) hR (VR.ptr i k l hlo) hl
            exact ⟨u, by simpa [asAddr, Instr.loadAt, Instr.sureAddr] using h1, h2⟩
          next => cases hl2
        obtain ⟨u, h1, h2⟩ := hload
        refine ⟨_, ?_, VRs.cons h2 hv⟩
        simp only [List.mapM_cons, Sem.run_bind, Sem.run_pure] at h1 ⊢
        rw [h1]
        simp only [Result.andThen_ok, hr]
      next => cases h
theorem acall_of {f : FuncId} {fn : Func} {c : Code} {args : List AV} {σ : AHeap} {Q : AV → AHeap → Prop} (ord : Nat → DOrd) (hm : P.follows .mixedOrders = true)
    (hf : P.funcs[f]? = some fn) (hn : (fn.name == "runtime.NumGoroutine") = false) (hb : fn.body = some c) (hok : (codeOk fn.ntmps ord c && decide (args.length ≤ fn.ntmps)) = true)
    (h : wpc P ord c (aresK P fn.results.toList Q) (envOf args) σ) : ACallW P f args σ Q := by
  rw [Bool.and_eq_true, decide_eq_true_eq] at hok
  refine ⟨⟨fn, hf, hn, by rw [hb]; rfl⟩, ?_⟩
  intro μ w us hR hus
  refine calls_of_wp hf hb ?_
  have hul : us.size = args.length := by have := hus.1; simp at this; omega
  have hE : EnvR μ fn.ntmps (envOf args) { tmps := us ++ Array.replicate (fn.ntmps - us.size) undef, defers := [] } := by
    refine ⟨rfl, by simp; omega, fun t => ?_⟩
    simp only [envOf, List.getD_eq_getElem?_getD, Array.getD_eq_getD_getElem?]
    cases ht : args[t]? with
    | none => exact .undef _
    | some a =>
      obtain ⟨u, hu, hv⟩ := hus.get ht
      have hlt : t < us.size := by have := (List.getElem?_eq_some_iff.1 hu).1; simpa using this
      rw [Array.getElem?_append_left hlt]
      simp only [Array.getElem?_toList] at hu
      rw [hu]; exact hv
  refine wp_mono (wpc_sound hm c hok.1 _ _ σ μ _ w h hE hR) ?_
  rintro e a' w' ⟨env', σ', μ', hK, hE', hR', hS⟩
  have fin : (e = .normal ∨ e = .ret) → @bindR (ares P env' σ' fn.results.toList) ⟨fun v => Q v σ'⟩ → bodyPost P fn (fun e w' => ∃ v σ', Q v σ' ∧ CallQ μ σ w v σ' e w') e a' w' := by
    intro he hbind
    unfold bindR at hbind
    split at hbind
    next vs hvs =>
      obtain ⟨rs, hr, hv⟩ := ares_sound hE' hR' _ _ hvs
      have hres : (results fn a'.tmps).run P w' = .ok (if h : rs.toArray.size = 1 then rs.toArray[0] else .tuple rs.toArray) w' := by
        unfold results
        rw [show fn.results = fn.results.toList.toArray by simp, List.mapM_toArray]
        simp only [Sem.run_bind, Sem.run_map, Sem.run_pure]
        erw [hr]
        rfl
      have hfin : VR μ' (atup vs) (if h : rs.toArray.size = 1 then rs.toArray[0] else .tuple rs.toArray) := by
        have hl := hv.1
        rcases vs with _ | ⟨x, _ | ⟨y, vs⟩⟩ <;> rcases rs with _ | ⟨p, _ | ⟨q, rs⟩⟩ <;> simp at hl
        · exact hv.tup
        · exact hv.2 0 x p rfl rfl
        · rw [dif_neg (by simp)]
          exact hv.tup
      rcases he with rfl | rfl
      · exact ⟨hE'.defers, _, hres, _, σ', hbind, _, μ', rfl, hfin, hR', hS⟩
      · exact ⟨hE'.defers, _, hres, _, σ', hbind, _, μ', rfl, hfin, hR', hS⟩
    next => exact hbind.elim
  cases e with
  | normal => exact fin (.inl rfl) hK
  | ret => exact fin (.inr rfl) hK
  | _ => exact hK.elim
end
end AH
