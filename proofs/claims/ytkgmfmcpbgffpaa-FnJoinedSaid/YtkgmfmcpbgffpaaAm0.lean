/- The abstract machine. -/
import Derived.Calls
import Derived.Orders
import Derived.Below
import Derived.Tactics
import Derived.RangeFuncOwn
import Derived.Deep.AppendSrc
import Derived.Deep.MidRow
import Derived.Deep.Upon
section
set_option linter.unusedVariables false
set_option linter.unusedSimpArgs false
namespace Go.Am
theorem si_1 {α : Type} {a b : α} (h : some a = some b) : a = b := Option.some.inj h
abbrev w4 : Int → Int := Go.IntKind.i64.wrap
inductive T where
 | int (k : IntKind) (n : Int)
 | bool (b : Bool)
 | str (s : ByteArray)
 | nilp | nilf | nili | nilm
 | ptr (b e off m : Nat)          -- a pointer into block b (its e-th form): m cells from off on
 | vw (cs : List T)               -- a pointer to cells that never change: the cells from there on
 | row (z : Bool) (n : Nat) (cs : List T)   -- a slice whose cells never change; z: nil
 | emp                            -- a slice of no elements and no capacity that is not nil
 | ref (b e off n : Nat)          -- a slice in block b (its e-th form): n elements, the first at cell off
 | fn (f : Nat) (first caps : List T)
 | agg (cs : List T)
 | tup (cs : List T)
 | mp (b : Bool)  -- a map, nil or (b) one from pointers to numbers: what it holds is not told
 | anyi           -- some number
 | yld (l : Nat)  -- what a range over a function hands to the iterator
 deriving Inhabited
structure Blk where
 cells : List T
 esz : Nat      -- an element's cells
 ep : Nat       -- the form that now stands
 low : Nat      -- the forms from here on are still good
 st : Bool      -- may it be stored into?
 ver : Nat      -- how often it was written
structure St where
 next : Nat
 blk : Nat → Option Blk
structure Fr where
 s : Nat → T
 σ : St
def St.nid (σ : St) (k : Option Nat) : Nat := k.getD σ.next
def St.okK (σ : St) : Option Nat → Bool
 | none => true
 | some i => (σ.blk i).isNone && decide (i < σ.next)
def St.pushK (σ : St) (k : Option Nat) (B : Blk) : St := ⟨match k with | none => σ.next + 1 | some _ => σ.next, fun i => if i = σ.nid k then some B else σ.blk i⟩
def St.bump (σ : St) (n : Nat) : St := ⟨σ.next + n, fun i => if i < σ.next then σ.blk i else none⟩
def St.set (σ : St) (b : Nat) (B : Blk) : St := ⟨σ.next, fun i => if i = b then some B else σ.blk i⟩
def T.cells : T → List T
 | .agg cs => cs
 | v => [v]
def T.one : T → Bool
 | .agg _ | .tup _ => false
 | _ => true
def T.isStr : T → Bool
 | .str _ => true
 | _ => false
def T.toV : T → Option Value
 | .int k n => some (.int k n)
 | .bool b => some (.bool b)
 | .str s => some (.string s)
 | .nilp => some (.pointer none)
 | .nilf => some .nilFunc
 | .nili => some .nilIface
 | .nilm => some (.map none)
 | .mp false => some (.map none)
 | _ => none
def T.ofV : Value → Option T
 | .int k n => some (.int k n)
 | .bool b => some (.bool b)
 | .string s => some (.str s)
 | .pointer none => some .nilp
 | .nilFunc => some .nilf
 | .nilIface => some .nili
 | .map none => some (.mp false)
 | .slice none 0 0 => some (.row true 0 [])
 | .tuple vs => if vs.size = 0 then some (.tup []) else none
 | _ => none
def ofVs : List Value → Option (List T)
 | [] => some []
 | v :: vs => (T.ofV v).bind fun t => (ofVs vs).map (t :: ·)
def T.ofV' : Value → Option T
 | .agg cs => (ofVs cs.toList).map .agg
 | v => T.ofV v
def evalO (s : Nat → T) : Operand → Option T
 | .tmp t => some (s t)
 | .const v => T.ofV' v
 | .func f => some (.fn f [] [])
 | .global _ => none
section
variable (P : Program)
def szOf (t : TypeId) : Option Nat := (P.info? t).map (·.size)
def cu_ (t : TypeId) : Option Nat := (P.info? t).map (·.bytes)
def j2_ (t : TypeId) : Option Bool :=
 match P.underlying t with
 | some (.struct _) | some (.array _ _) => some true
 | some _ => some false
 | none => none
def aD_ (t : TypeId) : Nat :=
 match P.underlying t with
 | some .bool => 1
 | some (.int .u8) => 10
 | some (.int _) => 2
 | some .string => 3
 | some (.slice _) => 4
 | some (.pointer _) => 5
 | some (.func ..) => 6
 | some (.struct _) => 7
 | some (.array ..) => 8
 | some (.map ..) => 9
 | _ => 0
def cz_ (t : TypeId) : Bool := aD_ P t == 2 || aD_ P t == 10
def ao_ (t : TypeId) : Option TypeId :=
 match P.underlying t with
 | some (.slice e) => some e
 | _ => none
def aT_ (t : TypeId) : Option (List T) := (P.info? t).bind fun i => i.zero.bind fun z => ofVs z.cells.toList
def bJ_ (t : TypeId) (f : Nat) : Option (Nat × TypeId × Nat) :=
 match P.underlying t with
 | some (.struct fields) => (fields[f]?).bind fun x => (szOf P x.type).map fun n => (x.offset, x.type, n)
 | _ => none
def cellsOf (σ : St) : T → Option (Nat × List T)
 | .row _ n cs => some (n, cs)
 | .emp => some (0, [])
 | .ref b e off n => (σ.blk b).bind fun B => if B.low ≤ e then some (n, (B.cells.drop off).take (n * B.esz)) else none
 | _ => none
def part (t : TypeId) (cs : List T) (off : Nat) : Option T :=
 (j2_ P t).bind fun a => if a then (szOf P t).bind fun n => if off + n ≤ cs.length then some (.agg ((cs.drop off).take n)) else none else cs[off]?
def iN_ (σ : St) (t : TypeId) : T → Option T
 | .vw cs => part P t cs 0
 | .ptr b e off m => (σ.blk b).bind fun B => if B.low ≤ e then part P t ((B.cells.drop off).take m) 0 else none
 | _ => none
def splice (cs : List T) (off : Nat) (vs : List T) : List T := cs.take off ++ vs ++ cs.drop (off + vs.length)
def iA_ (σ : St) (t : TypeId) (p v : T) : Option St :=
 match p with
 | .ptr b e off m => (σ.blk b).bind fun B =>
   (szOf P t).bind fun n =>
    if B.st = true ∧ e = B.ep ∧ v.cells.length = n ∧ n ≤ m ∧ off + n ≤ B.cells.length ∧ v.cells.all T.one = true then
     some (σ.set b { B with cells := splice B.cells off v.cells, low := B.ep, ver := B.ver + 1 })
    else none
 | _ => none
def ez_ (place : Nat → Option (Nat × Nat)) (cells : List T) : List (Nat × T) → Option (List T)
 | [] => some cells
 | (i, v) :: rest =>
  (place i).bind fun (off, size) =>
   if v.cells.length = size ∧ off + size ≤ cells.length ∧ v.cells.all T.one = true then ez_ place (splice cells off v.cells) rest else none
def aH_ (cells : List T) (esz : Nat) : Blk := { cells, esz, ep := 0, low := 0, st := true, ver := 0 }
def andI (k : IntKind) (a b : Int) : Int := k.wrap ((BitVec.ofInt k.bits a &&& BitVec.ofInt k.bits b).toNat : Nat)
def ds_ (op : BinOp) (k : IntKind) (a b : Int) : Option T :=
 match op with
 | .add => some (.int k (k.wrap (a + b)))
 | .sub => some (.int k (k.wrap (a - b)))
 | .mul => some (.int k (k.wrap (a * b)))
 | .quo => if b = 0 then none else some (.int k (k.wrap (a.tdiv b)))
 | .rem => if b = 0 then none else some (.int k (a.tmod b))
 | .eql => some (.bool (decide (a = b)))
 | .neq => some (.bool (!decide (a = b)))
 | .lss => some (.bool (decide (a < b)))
 | .leq => some (.bool (decide (a ≤ b)))
 | .gtr => some (.bool (decide (b < a)))
 | .geq => some (.bool (decide (b ≤ a)))
 | .shr => if 0 ≤ b then some (.int k (a.fdiv (2 ^ min b.toNat k.bits))) else none
 | .and => some (.int k (andI k a b))
 | _ => none
def fX_ (op : BinOp) (a b : ByteArray) : Option T :=
 match op with
 | .add => if a.size + b.size ≤ 9223372036854775807 then some (.str (a ++ b)) else none
 | .eql => some (.bool (decide (a = b)))
 | .neq => some (.bool (!decide (a = b)))
 | .lss => some (.bool (Op.bytesLess a.toList b.toList))
 | .leq => some (.bool (Op.bytesLess a.toList b.toList || decide (a = b)))
 | .gtr => some (.bool (!(Op.bytesLess a.toList b.toList || decide (a = b))))
 | .geq => some (.bool (!Op.bytesLess a.toList b.toList))
 | _ => none
def eqFs (eq : TypeId → T → T → Option Bool) (xs ys : List T) : List Field → Option Bool
 | [] => some true
 | f :: fs =>
  if f.name ≠ "_" then
   (part P f.type xs f.offset).bind fun a => (part P f.type ys f.offset).bind fun b => (eq f.type a b).bind fun r => if r = true then eqFs eq xs ys fs else some false
  else eqFs eq xs ys fs
def ck_ (t : TypeId) : List Field :=
 match P.underlying t with
 | some (.struct fs) => fs.toList
 | _ => []
def eqT : Nat → TypeId → T → T → Option Bool
 | 0, _, _, _ => none
 | d + 1, t, x, y =>
  match x, y with
  | .int k a, .int k' b => if cz_ P t = true ∧ k = k' then some (decide (a = b)) else none
  | .bool a, .bool b => if aD_ P t = 1 then some (a == b) else none
  | .str a, .str b => if aD_ P t = 3 then some (decide (a = b)) else none
  | .agg xs, .agg ys => if aD_ P t = 7 ∧ P.stoodInHeld t = false then eqFs P (eqT d) xs ys (ck_ P t) else none
  | _, _ => none
def isNilm : T → Option Bool
 | .mp b => some (!b)
 | _ => none
def eqA (t : TypeId) : T → T → Option Bool
 | .bool a, .bool b => if aD_ P t = 1 then some (a == b) else none
 | .nilp, .nilp => if aD_ P t = 5 then some true else none
 | .nilp, .ptr .. | .nilp, .vw _ | .ptr .., .nilp | .vw _, .nilp => if aD_ P t = 5 then some false else none
 | .nilf, .nilf => if aD_ P t = 6 then some true else none
 | .nilf, .fn .. | .fn .., .nilf => if aD_ P t = 6 then some false else none
 | .row z _ _, .row true 0 [] => if aD_ P t = 4 then some z else none
 | .ref .., .row true 0 [] | .emp, .row true 0 [] => if aD_ P t = 4 then some false else none
 | x, .mp false => if aD_ P t = 9 then isNilm x else none
 | .agg xs, .agg ys => if P.eqGuardType P.depth t = false then eqT P 8 t (.agg xs) (.agg ys) else none
 | _, _ => none
def binA (op : BinOp) (t : TypeId) : T → T → Option T
 | .int k a, .int k' b => if k = k' then ds_ op k a b else none
 | .str a, .str b => fX_ op a b
 | .anyi, .int .i64 _ => (match op with | .add => some .anyi | _ => none)
 | x, y =>
  match op with
  | .eql => (eqA P t x y).map fun b => .bool b
  | .neq => (eqA P t x y).map fun b => .bool (!b)
  | _ => none
def unA (op : UnOp) : T → Option T
 | .int k n => match op with | .neg => some (.int k (k.wrap (0 - n))) | _ => none
 | .bool b => match op with | .not => some (.bool !b) | _ => none
 | _ => none
def dN_ (s : ByteArray) : List T := s.data.toList.map fun b => .int .u8 b.toNat
def ofBytes : List T → Option (List UInt8)
 | [] => some []
 | .int .u8 n :: cs => if 0 ≤ n ∧ n < 256 then (ofBytes cs).map (UInt8.ofNat n.toNat :: ·) else none
 | _ => none
def je_ (k : Option Nat) (σ : St) (src dst : TypeId) (x : T) : Option (T × St) :=
 match x with
 | .int _ n => if cz_ P src = true then (match P.underlying dst with | some (.int k) => some (.int k (k.wrap n), σ) | _ => none) else none
 | .str s =>
  if aD_ P src = 3 then
   if aD_ P dst = 3 then some (.str s, σ)
   else (ao_ P dst).bind fun e => if aD_ P e = 10 ∧ s.size ≤ 2 ^ 40 ∧ σ.okK k = true then some (.ref (σ.nid k) 0 0 s.size, σ.pushK k (aH_ (dN_ s) 1)) else none
  else none
 | x =>
  if aD_ P dst = 3 then (ao_ P src).bind fun e => if aD_ P e = 10 then (cellsOf σ x).bind fun (n, cs) => if cs.length = n then (ofBytes cs).map fun l => (.str ⟨l.toArray⟩, σ) else none else none
  else none
def eH_ (σ : St) (t : TypeId) (x i : T) : Option T :=
 match i with
 | .int _ j => (ao_ P t).bind fun e => (szOf P e).bind fun sz =>
   match x with
   | .row z n cs => if 0 ≤ j ∧ j < n ∧ cs.length = n * sz then some (.vw (cs.drop (j.toNat * sz))) else none
   | .ref b ep off n => (σ.blk b).bind fun B => if 0 ≤ j ∧ j < n ∧ B.esz = sz then some (.ptr b ep (off + j.toNat * sz) sz) else none
   | _ => none
 | _ => none
def boundA : Option T → Nat → Option Nat
 | none, d => some d
 | some (.int _ i), _ => if 0 ≤ i then some i.toNat else none
 | _, _ => none
def fV_ (σ : St) (t : TypeId) (x : T) (lo hi mx : Option T) : Option T :=
 match x with
 | .str s => if aD_ P t = 3 then
   match mx with
   | none => (boundA hi s.size).bind fun h => (boundA lo 0).bind fun l => if l ≤ h ∧ h ≤ s.size then some (.str (s.extract l h)) else none
   | some _ => none
  else none
 | .row z n cs => (ao_ P t).bind fun e => (szOf P e).bind fun sz =>
   match mx with
   | none => (boundA hi n).bind fun h => (boundA lo 0).bind fun l => if l ≤ h ∧ h ≤ n ∧ cs.length = n * sz then some (.row z (h - l) ((cs.drop (l * sz)).take ((h - l) * sz))) else none
   | some m => match lo, hi, m with
    | none, some (.int _ 0), .int _ 0 => some (if z then .row true 0 [] else .emp)
    | _, _, _ => none
 | .ref b ep off n => (ao_ P t).bind fun e => (szOf P e).bind fun sz => (σ.blk b).bind fun B =>
   match mx with
   | none => (boundA hi n).bind fun h => (boundA lo 0).bind fun l => if l ≤ h ∧ h ≤ n ∧ B.esz = sz ∧ B.low ≤ ep ∧ sz ≠ 0 then some (.ref b ep (off + l * sz) (h - l)) else none
   | some m => match lo, hi, m with
    | none, some (.int _ 0), .int _ 0 => some .emp
    | _, _, _ => none
 | _ => none
def iH_ (t : TypeId) : Bool :=
 match P.underlying t with
 | some (.map k e) =>
  (match P.underlying k with | some (.pointer pe) => (match szOf P pe with | some n => n != 0 | none => false) | _ => false) &&
  (match P.underlying e with | some (.int .i64) => true | _ => false) && (match (P.info? e).bind (·.zero) with | some (.int .i64 0) => true | _ => false)
 | _ => false
def keyA (σ : St) : T → Bool
 | .nilp => true
 | .vw (_ :: _) => true
 | .ptr b e off m => match σ.blk b with | some B => decide (B.low ≤ e) && decide (1 ≤ m) | none => false
 | _ => false
def isMpx : T → Bool
 | .mp b => b
 | _ => false
def isAnyi : T → Bool
 | .anyi => true
 | _ => false
def okO : Option T → Bool
 | none => true
 | some (.int _ _) => true
 | _ => false
def e2_ (σ : St) (sz : Nat) : T → Option (Nat × List T)
 | .str s => if sz = 1 then some (s.size, dN_ s) else none
 | x => (cellsOf σ x).bind fun (n, cs) => if cs.length = n * sz then some (n, cs) else none
def e8_ (t2 : TypeId) (x : T) : Bool := if x.isStr = true then aD_ P t2 == 3 else aD_ P t2 == 4
def appZ (k : Option Nat) (σ : St) (sz by_ : Nat) (z0 : List T) (s x : T) : Option (T × St) :=
 match s, x with
 | .row true 0 [], .int _ l => if 0 < l ∧ l * by_ ≤ 2 ^ 40 ∧ σ.okK k = true then some (.ref (σ.nid k) 0 0 l.toNat, σ.pushK k (aH_ ((List.replicate l.toNat z0).flatten) sz)) else none
 | _, _ => none
def bh_ (k : Option Nat) (σ : St) (t t2 : TypeId) (s x : T) : Option (T × St) :=
 (ao_ P t).bind fun e => (szOf P e).bind fun sz => (cu_ P e).bind fun by_ => (aT_ P e).bind fun z0 =>
  if cz_ P t2 = true then (if z0.length ≠ sz ∨ sz = 0 ∨ by_ = 0 ∨ by_ > 1048576 then none else appZ k σ sz by_ z0 s x) else
  if z0.length ≠ sz ∨ sz = 0 ∨ by_ = 0 ∨ by_ > 1048576 then none else
  (e2_ σ sz x).bind fun (m, news) =>
   if news.all T.one = false ∨ e8_ P t2 x = false then none else
   match s with
   | .row true 0 [] => if m = 0 then some (s, σ) else if m * by_ ≤ 2 ^ 40 ∧ σ.okK k = true then some (.ref (σ.nid k) 0 0 m, σ.pushK k (aH_ news sz)) else none
   | .emp => if m = 0 then some (s, σ) else if m * by_ ≤ 2 ^ 40 ∧ σ.okK k = true then some (.ref (σ.nid k) 0 0 m, σ.pushK k (aH_ news sz)) else none
   | .row false n cs => if m = 0 then some (s, σ) else none
   | .ref b ep off n => (σ.blk b).bind fun B =>
     if m = 0 then (if B.esz = sz ∧ B.low ≤ ep then some (s, σ) else none)
     else if off = 0 ∧ ep = B.ep ∧ B.esz = sz ∧ B.cells.length = n * sz ∧ (n + m) * by_ ≤ 2 ^ 40 then
      some (.ref b (ep + 1) 0 (n + m), σ.set b { B with cells := B.cells ++ news, ep := ep + 1, ver := B.ver + 1 })
     else if off = 0 ∧ ep = B.ep ∧ B.esz = sz ∧ n * sz ≤ B.cells.length ∧ B.st = true ∧ (n + m) * by_ ≤ 2 ^ 40 then
      some (.ref b (ep + 2) 0 (n + m), σ.set b { B with cells := B.cells.take (n * sz) ++ news, ep := ep + 2, low := ep + 1, ver := B.ver + 2 })
     else none
   | _ => none
def lenA (σ : St) (t : TypeId) : T → Option T
 | .str s => if aD_ P t = 3 then some (.int .i64 s.size) else none
 | .row _ n _ => if aD_ P t = 4 then some (.int .i64 n) else none
 | .emp => if aD_ P t = 4 then some (.int .i64 0) else none
 | .ref _ _ _ n => if aD_ P t = 4 then some (.int .i64 n) else none
 | _ => none
def capA (t : TypeId) : T → Option T
 | .row true 0 [] => if aD_ P t = 4 then some (.int .i64 0) else none
 | .emp => if aD_ P t = 4 then some (.int .i64 0) else none
 | _ => none
def jj_ (t : TypeId) (x i : T) : Option T :=
 match x, i with
 | .str s, .int _ j => if aD_ P t = 3 then (if h : 0 ≤ j ∧ j.toNat < s.size then some (.int .u8 (s[j.toNat]'h.2).toNat) else none) else none
 | _, _ => none
inductive ARes where
 | val (v : T) (σ : St)
 | skip (σ : St)
 | call (f : FuncId) (args : List T)
def bT_ (s : Nat → T) : List Operand → Option (List T)
 | [] => some []
 | x :: xs => (evalO s x).bind fun v => (bT_ s xs).map (v :: ·)
def dr_ (s : Nat → T) : List (Nat × Operand) → Option (List (Nat × T))
 | [] => some []
 | (i, x) :: xs => (evalO s x).bind fun v => (dr_ s xs).map ((i, v) :: ·)
def d1_ (s : Nat → T) : Option Operand → Option (Option T)
 | none => some none
 | some x => (evalO s x).map some
def aOp (k : Option Nat) (fr : Fr) (o : Oper) : Option ARes :=
 let σ := fr.σ
 let s := fr.s
 let v (x : Option T) : Option ARes := x.map fun x => .val x σ
 match o.op with
 | .move x | .assign x => v (evalO s x)
 | .pick c a b => (evalO s c).bind fun
   | .bool true => v (evalO s a)
   | .bool false => v (evalO s b)
   | _ => none
 | .alloc t => (aT_ P t).bind fun z => if σ.okK k = true then some (.val (.ptr (σ.nid k) 0 0 z.length) (σ.pushK k (aH_ z z.length))) else none
 | .box t x => (evalO s x).bind fun x => if x.cells.all T.one = true ∧ σ.okK k = true then some (.val (.ptr (σ.nid k) 0 0 x.cells.length) (σ.pushK k (aH_ x.cells x.cells.length))) else none
 | .build t parts => (aT_ P t).bind fun z => (dr_ s parts.toList).bind fun ps =>
   if aD_ P t = 7 ∧ (ck_ P t).all (fun f => (szOf P f.type).isSome) = true then v ((ez_ (fun i => (bJ_ P t i).map fun (o, _, n) => (o, n)) z ps).map .agg) else none
 | .buildSlice t len parts => (ao_ P t).bind fun e => (szOf P e).bind fun sz => (aT_ P e).bind fun z => (dr_ s parts.toList).bind fun ps =>
   if z.length = sz ∧ len * sz ≤ 2 ^ 24 ∧ sz ≠ 0 ∧ σ.okK k = true then (ez_ (fun i => some (i * sz, sz)) ((List.replicate len z).flatten) ps).map fun cs => .val (if len = 0 then .emp else .ref (σ.nid k) 0 0 len) (σ.pushK k (aH_ cs sz)) else none
 | .load t a => (evalO s a).bind fun a => v (iN_ P σ t a)
 | .store t a x => (evalO s a).bind fun a => (evalO s x).bind fun x => (iA_ P σ t a x).map .skip
 | .nilCheck x => (evalO s x).bind fun
   | .ptr b e o m => some (.val (.ptr b e o m) σ)
   | .vw cs => some (.val (.vw cs) σ)
   | .fn f a b => some (.val (.fn f a b) σ)
   | _ => none
 | .binOp op t x y _ => (evalO s x).bind fun x => (evalO s y).bind fun y => v (binA P op t x y)
 | .unOp op _ x => (evalO s x).bind fun x => v (unA op x)
 | .convert src dst x => (evalO s x).bind fun x => (je_ P k σ src dst x).map fun (x, σ) => .val x σ
 | .makeMap t none => if iH_ P t = true then some (.val (.mp true) σ) else none
 | .lookup t m x false => (evalO s m).bind fun m => (evalO s x).bind fun x => if isMpx m = true ∧ iH_ P t = true ∧ keyA σ x = true then some (.val .anyi σ) else none
 | .mapUpdate t m x y => (evalO s m).bind fun m => (evalO s x).bind fun x => (evalO s y).bind fun y => if isMpx m = true ∧ iH_ P t = true ∧ keyA σ x = true ∧ isAnyi y = true then some (.skip σ) else none
 | .makeFunc (.func f) first caps => (bT_ s first.toList).bind fun a => (bT_ s caps.toList).bind fun b => some (.val (.fn f a b) σ)
 | .makeSlice t l c => (evalO s l).bind fun l => (evalO s c).bind fun c =>
   match l, c with
   | .int _ l, .int _ c => (ao_ P t).bind fun e => (szOf P e).bind fun sz => (cu_ P e).bind fun by_ => (aT_ P e).bind fun z =>
     if 0 ≤ l ∧ l ≤ c ∧ c * by_ ≤ 2 ^ 40 ∧ c ≤ 2 ^ 40 ∧ z.length = sz ∧ sz ≠ 0 ∧ σ.okK k = true then
      some (.val (if l = 0 ∧ c = 0 then .emp else .ref (σ.nid k) 0 0 l.toNat) (σ.pushK k (aH_ ((List.replicate l.toNat z).flatten) sz))) else none
   | _, _ => none
 | .slice t x lo hi mx => (evalO s x).bind fun x => (d1_ s lo).bind fun lo => (d1_ s hi).bind fun hi => (d1_ s mx).bind fun mx => if okO lo && okO hi && okO mx then v (fV_ P σ t x lo hi mx) else none
 | .fieldAddr t x f => (evalO s x).bind fun x => (bJ_ P t f).bind fun (off, _, n) =>
   if n = 0 then none else
   match x with
   | .ptr b e o m => if off + n ≤ m then some (.val (.ptr b e (o + off) n) σ) else none
   | .vw cs => if off + n ≤ cs.length then some (.val (.vw (cs.drop off)) σ) else none
   | _ => none
 | .field t x f => (evalO s x).bind fun x => (bJ_ P t f).bind fun (off, ft, _) =>
   match x with
   | .agg cs => v (part P ft cs off)
   | _ => none
 | .indexAddr t x i => (evalO s x).bind fun x => (evalO s i).bind fun i => v (eH_ P σ t x i)
 | .index t x i => (evalO s x).bind fun x => (evalO s i).bind fun i => v (jj_ P t x i)
 | .extract x i => (evalO s x).bind fun
   | .tup cs => v (cs[i]?)
   | _ => none
 | .call c =>
  (bT_ s c.args.toList).bind fun args =>
   match c.callee with
   | .value f => (evalO s f).bind fun
     | .fn f first caps => some (.call f (first ++ args ++ caps))
     | _ => none
   | .builtin .len => match args, c.argTypes.toList with | [x], [t] => v (lenA P σ t x) | _, _ => none
   | .builtin .cap => match args, c.argTypes.toList with | [x], [t] => v (capA P t x) | _, _ => none
   | .builtin .append => match args, c.argTypes.toList with | [x, y], [t, t2] => (bh_ P k σ t t2 x y).map fun (x, σ) => .val x σ | _, _ => none
   | .builtin .min => match args with | [.int k x, .int _ y] => some (.val (.int k (if y < x then y else x)) σ) | _ => none
   | .builtin .max => match args with | [.int k x, .int _ y] => some (.val (.int k (if x < y then y else x)) σ) | _ => none
   | _ => none
 | _ => none
end
end Go.Am
end
section
set_option linter.unusedVariables false
set_option linter.unusedSimpArgs false
namespace Go.Am
open Classical
inductive aA_ where
 | normal | exit (id : Nat) | ret
def aA_.blk (id : Nat) : aA_ → aA_
 | .exit i => if i = id then .normal else .exit i
 | x => x
def Fr.put (fr : Fr) (dst : Option Nat) (v : T) (σ : St) : Fr :=
 match dst with
 | some d => ⟨fun j => if j = d then v else fr.s j, σ⟩
 | none => ⟨fr.s, σ⟩
def wantedA (ops : Array Oper) (o : Oper) (s : Nat → T) : Bool :=
 match o.guard with
 | none => true
 | some (j, want) =>
  match (ops[j]?).bind (·.dst) with
  | some d => match s d with
   | .bool b => b == want
   | _ => false
  | none => false
abbrev ax_ := Nat → List T → St → Option (T × St)
def op1 (P : Program) (O : ax_) (ops : Array Oper) (k : Option Nat) (o : Oper) (fr : Fr) : Option Fr :=
 if wantedA ops o fr.s then
  (aOp P k fr o).bind fun
   | .val v σ => some (fr.put o.dst v σ)
   | .skip σ => some (fr.put o.dst (.tup []) σ)
   | .call f args => (O f args fr.σ).bind fun (r, σ) => some (fr.put o.dst r σ)
 else some (fr.put o.dst (.tup []) fr.σ)
def opsL (P : Program) (O : ax_) (ops : Array Oper) : List Oper → Fr → Option Fr
 | [], fr => some fr
 | o :: rest, fr => (op1 P O ops none o fr).bind (opsL P O ops rest)
def idxL (P : Program) (O : ax_) (ops : Array Oper) (b : Option Nat) : List Nat → Fr → Option Fr
 | [], fr => some fr
 | i :: rest, fr => match ops[i]? with
  | none => none
  | some o => (op1 P O ops (b.map (· + i)) o fr).bind (idxL P O ops b rest)
def dOk (n : Nat) (o : Oper) : Bool :=
 match o.dst with
 | some d => decide (d < n)
 | none => true
def noRange : Code → Bool
 | .seq a b | .cond _ a b => noRange a && noRange b
 | .block _ c | .loop c => noRange c
 | .rangeFunc .. => false
 | _ => true
def dstsOk (n : Nat) : Code → Bool
 | .region _ ops _ => ops.all (dOk n)
 | .seq a b | .cond _ a b => dstsOk n a && dstsOk n b
 | .block _ c | .loop c => dstsOk n c
 | .rangeFunc _ ps a b => ps.all (fun p => decide (p < n)) && (dstsOk n a && (dstsOk n b && (noRange a && noRange b)))
 | _ => true
def enterS (args : List T) : Nat → T := fun j => args.getD j (.tup [])
structure It where
 R0 : Array Oper
 R1 : Array Oper
 R2 : Array Oper
 R3 : Array Oper
 n0 : Nat
 n1 : Nat
 n2 : Nat
 n3 : Nat
 i0 : Nat
 i2 : Nat
 c1 : Operand
 c2 : Operand
def It.code (I : It) : Code := .seq (.region I.n0 I.R0 false) (.block I.i0 (.loop (.seq (.seq (.region I.n1 I.R1 false) (.cond I.c1 .skip (.exit I.i0))) (.seq (.block I.i2 (.seq (.region I.n3 I.R3 false) (.cond I.c2 .ret .skip))) (.region I.n2 I.R2 false)))))
def yOp (l : Nat) (s : Nat → T) (o : Oper) : Option (List T) :=
 match o.guard, o.op with
 | none, .call c => match c.callee with
  | .value y => match evalO s y with
   | some (.yld l') => if l' = l then bT_ s c.args.toList else none
   | _ => none
  | _ => none
 | _, _ => none
def putPs (s : Nat → T) : List (Nat × T) → Nat → T
 | [] => s
 | (p, t) :: r => putPs (fun j => if j = p then t else s j) r
def kY (ops : Array Oper) : Nat := ops.toList.findIdx fun o => match o.op with
 | .call c => match c.callee with
  | .value _ => true
  | _ => false
 | _ => false
def itOf : Code → Option It
 | .seq (.region n0 R0 false) (.block i0 (.loop (.seq (.seq (.region n1 R1 false) (.cond c1 .skip (.exit i0'))) (.seq (.block i2 (.seq (.region n3 R3 false) (.cond c2 .ret .skip))) (.region n2 R2 false))))) => if i0' = i0 then some ⟨R0, R1, R2, R3, n0, n1, n2, n3, i0, i2, c1, c2⟩ else none
 | _ => none
theorem oM_ {c : Code} {I : It} (h : itOf c = some I) : c = I.code := by
 unfold itOf at h
 split at h
 ·split at h
  ·rename_i e; subst e; injection h with h; subst h; rfl
  ·cases h
 ·cases h
def fi_ (body : Fr → Option (aA_ × Fr)) : Nat → Fr → Option (aA_ × Fr)
 | 0, _ => none
 | n + 1, fr => (body fr).bind fun
  | (.normal, fr') => fi_ body n fr'
  | r => some r
noncomputable def iP_ (body : Fr → Option (aA_ × Fr)) (fr : Fr) : Option (aA_ × Fr) :=
 if h : ∃ n r, fi_ body n fr = some r then some (Classical.choose (Classical.choose_spec h)) else none
noncomputable def nr_ (P : Program) (O : ax_) (ops : Array Oper) (fr : Fr) : Option Fr :=
 if ∀ t, idxL P O ops (some fr.σ.next) (Region.linearise .any ops t) ⟨fr.s, fr.σ.bump ops.size⟩ = idxL P O ops (some fr.σ.next) (List.range ops.size) ⟨fr.s, fr.σ.bump ops.size⟩ then
  idxL P O ops (some fr.σ.next) (List.range ops.size) ⟨fr.s, fr.σ.bump ops.size⟩ else none
noncomputable def io_ (P : Program) (O : ax_) (ops : Array Oper) (draw : Bool) (fr : Fr) : Option Fr :=
 if draw = true then nr_ P O ops fr else opsL P O ops ops.toList fr
def oq_ (P : Program) (O : ax_) (l : Nat) (I : It) (ps : Array Nat) (A : Fr → Option (aA_ × Fr)) (s : Nat → T) (it : Fr) : Option (aA_ × Fr) :=
 (idxL P O I.R1 none (List.range I.R1.size) it).bind fun it1 => (evalO it1.s I.c1).bind fun
  | .bool false => some (.ret, it1)
  | .bool true => (idxL P O I.R3 none (List.range (kY I.R3)) it1).bind fun it2 => (I.R3[kY I.R3]?).bind fun o => (yOp l it2.s o).bind fun ts =>
    if ts.length = ps.size then (A ⟨putPs s (ps.toList.zip ts), it2.σ⟩).bind fun
     | (.normal, b2) => (idxL P O I.R3 none (List.range' (kY I.R3 + 1) (I.R3.size - (kY I.R3 + 1))) (it2.put o.dst (.bool true) b2.σ)).bind fun it3 => (evalO it3.s I.c2).bind fun
      | .bool false => (idxL P O I.R2 none (List.range I.R2.size) it3).map fun it4 => (.normal, it4)
      | _ => none
     | _ => none
    else none
  | _ => none
noncomputable def vj_ (P : Program) (O : ax_) (ps : Array Nat) (A : Fr → Option (aA_ × Fr)) (fr : Fr) (I : It) (us : List T) (l : Nat) : Option (aA_ × Fr) :=
 (idxL P O I.R0 none (List.range I.R0.size) ⟨enterS (.yld l :: us), fr.σ⟩).bind fun it0 => iP_ (oq_ P O l I ps A fr.s) it0
noncomputable def oC_ (P : Program) (O : ax_) (g : Operand) (ps : Array Nat) (A : Fr → Option (aA_ × Fr)) (fr : Fr) : Option (aA_ × Fr) :=
 match evalO fr.s g with
 | some (.fn f [] us) => match P.funcs[f]? with
  | some fn => match fn.body.bind itOf with
   | some I => if h : ((fn.name == "runtime.NumGoroutine") = false ∧ fn.results.toList = [] ∧ dstsOk fn.ntmps I.code = true ∧ us.length + 1 ≤ fn.ntmps) ∧ ∃ σ1, ∀ l, ∃ it1, vj_ P O ps A fr I us l = some (.ret, it1) ∧ it1.σ = σ1 then some (.normal, ⟨fr.s, Classical.choose h.2⟩) else none
   | none => none
  | none => none
 | _ => none
noncomputable def dx_ (P : Program) (O : ax_) : Code → Fr → Option (aA_ × Fr)
 | .skip, fr => some (.normal, fr)
 | .region _ ops draw, fr => (io_ P O ops draw fr).map fun fr => (.normal, fr)
 | .seq a b, fr => (dx_ P O a fr).bind fun
   | (.normal, fr') => dx_ P O b fr'
   | r => some r
 | .cond c a b, fr => (evalO fr.s c).bind fun
   | .bool true => dx_ P O a fr
   | .bool false => dx_ P O b fr
   | _ => none
 | .block id c, fr => (dx_ P O c fr).map fun p => (p.1.blk id, p.2)
 | .loop c, fr => iP_ (dx_ P O c) fr
 | .exit id, fr => some (.exit id, fr)
 | .ret, fr => some (.ret, fr)
 | .rangeFunc g ps a b, fr => oC_ P O g ps (fun fr => (dx_ P O a fr).bind fun
   | (.normal, fr') => dx_ P O b fr'
   | r => some r) fr
 | _, _ => none
theorem jz_ {body : Fr → Option (aA_ × Fr)} : ∀ {n : Nat} {fr r}, fi_ body n fr = some r → ∀ m, n ≤ m → fi_ body m fr = some r := by
 intro n
 induction n with
 | zero => intro fr r h; simp [fi_] at h
 | succ n ih =>
  intro fr r h m hm
  obtain ⟨m, rfl⟩ : ∃ k, m = k + 1 := ⟨m - 1, by omega⟩
  simp only [fi_] at h ⊢
  cases hb : body fr with
  | none => rw [hb] at h; simp at h
  | some p =>
   rw [hb] at h
   simp only [Option.bind_some] at h ⊢
   obtain ⟨x, fr'⟩ := p
   cases x with
   | normal => exact ih h m (by omega)
   | exit i => exact h
   | ret => exact h
theorem bK_ {body : Fr → Option (aA_ × Fr)} {fr : Fr} {r} : iP_ body fr = some r ↔ ∃ n, fi_ body n fr = some r := by
 unfold iP_
 constructor
 ·intro h
  split at h
  ·rename_i hx
   exact ⟨Classical.choose hx, by rw [Classical.choose_spec (Classical.choose_spec hx)]; exact h⟩
  ·cases h
 ·rintro ⟨n, h⟩
  have hx : ∃ n r, fi_ body n fr = some r := ⟨n, r, h⟩
  rw [dif_pos hx]
  have h2 := Classical.choose_spec (Classical.choose_spec hx)
  have e1 := jz_ h (max n (Classical.choose hx)) (Nat.le_max_left _ _)
  have e2 := jz_ h2 (max n (Classical.choose hx)) (Nat.le_max_right _ _)
  rw [e1] at e2
  exact e2.symm
theorem kQ_ (body : Fr → Option (aA_ × Fr)) (fr : Fr) : iP_ body fr = (body fr).bind fun
  | (.normal, fr') => iP_ body fr'
  | r => some r := by
 cases hb : body fr with
 | none =>
  simp only [Option.bind_none]
  cases hl : iP_ body fr with
  | none => rfl
  | some r =>
   obtain ⟨n, h⟩ := bK_.1 hl
   cases n with
   | zero => simp [fi_] at h
   | succ n => simp [fi_, hb] at h
 | some p =>
  obtain ⟨x, fr'⟩ := p
  cases x with
  | normal =>
   simp only [Option.bind_some]
   cases hl : iP_ body fr' with
   | none =>
    cases hl2 : iP_ body fr with
    | none => rfl
    | some r =>
     obtain ⟨n, h⟩ := bK_.1 hl2
     cases n with
     | zero => simp [fi_] at h
     | succ n =>
      simp only [fi_, hb, Option.bind_some] at h
      rw [bK_.2 ⟨n, h⟩] at hl
      cases hl
   | some r =>
    obtain ⟨n, h⟩ := bK_.1 hl
    exact bK_.2 ⟨n + 1, by simp only [fi_, hb, Option.bind_some]; exact h⟩
  | exit i => simp only [Option.bind_some]; exact bK_.2 ⟨1, by simp [fi_, hb]⟩
  | ret => simp only [Option.bind_some]; exact bK_.2 ⟨1, by simp [fi_, hb]⟩
end Go.Am
end
section
set_option linter.unusedVariables false
set_option linter.unusedSimpArgs false
namespace Go.Am
open Go.RowKit
structure Inc where
 g : Nat
 len : Nat
 cap : Nat
 esz : Nat
structure Env where
 F : Addr → Option Value
 J : Nat → Nat → Option Inc
 O : Nat → Option (Option Obj)    -- objects that are no cells: maps from pointers to numbers; others, as they are
 G : Nat → Option (Nat × Nat)     -- rows of cells, and which of them are frozen
def e6_ (E : Env) : Value → Prop
 | .pointer none => True
 | .pointer (some a) => ∃ fr, E.G a.block = some fr ∧ ¬(fr.1 ≤ a.off ∧ a.off < fr.2)
 | _ => False
def h0_ (E : Env) (o : Obj) : Option Obj → Prop
 | none => ∃ es c, o = .map es c ∧ ∀ e ∈ es.toList, e6_ E e.key ∧ ∃ n, e.val = .int .i64 n
 | some o0 => o = o0 ∧ o0.isCells = false
theorem e6_.same {E E' : Env} (h : E'.G = E.G) : ∀ {v : Value}, e6_ E v → e6_ E' v
 | .pointer none, _ => trivial
 | .pointer (some a), ⟨fr, h1, h2⟩ => ⟨fr, by rw [h]; exact h1, h2⟩
theorem h0_.same {E E' : Env} (h : E'.G = E.G) {o : Obj} : ∀ {b : Option Obj}, h0_ E o b → h0_ E' o b
 | none, ⟨es, c, h1, h2⟩ => ⟨es, c, h1, fun e he => ⟨(h2 e he).1.same h, (h2 e he).2⟩⟩
 | some _, h1 => h1
theorem h0_.cells {E : Env} {c t fr} : ∀ {b : Option Obj}, ¬ h0_ E (.cells c t fr) b
 | none, ⟨_, _, h, _⟩ => by cases h
 | some _, ⟨h, h2⟩ => by subst h; cases h2
structure Env.Le (E E' : Env) : Prop where
 f : ∀ a u, E.F a = some u → E'.F a = some u
 j : ∀ b e i, E.J b e = some i → E'.J b e = some i
 o : ∀ k p, E.O k = some p → E'.O k = some p
 g : ∀ k p, E.G k = some p → E'.G k = some p
theorem Env.Le.refl (E : Env) : Env.Le E E := ⟨fun _ _ h => h, fun _ _ _ h => h, fun _ _ h => h, fun _ _ h => h⟩
theorem Env.Le.trans {E1 E2 E3 : Env} (h : Env.Le E1 E2) (k : Env.Le E2 E3) : Env.Le E1 E3 := ⟨fun a u x => k.f _ _ (h.f _ _ x), fun b e i x => k.j _ _ _ (h.j _ _ _ x), fun _ _ x => k.o _ _ (h.o _ _ x), fun _ _ x => k.g _ _ (h.g _ _ x)⟩
theorem e6_.mono {E E' : Env} (h : Env.Le E E') : ∀ {v : Value}, e6_ E v → e6_ E' v
 | .pointer none, _ => trivial
 | .pointer (some a), ⟨fr, h1, h2⟩ => ⟨fr, h.g _ _ h1, h2⟩
theorem h0_.mono {E E' : Env} (h : Env.Le E E') {o : Obj} : ∀ {b : Option Obj}, h0_ E o b → h0_ E' o b
 | none, ⟨es, c, h1, h2⟩ => ⟨es, c, h1, fun e he => ⟨(h2 e he).1.mono h, (h2 e he).2⟩⟩
 | some _, h1 => h1
inductive V (E : Env) : Value → T → Prop
 | int (k n) : V E (.int k n) (.int k n)
 | bool (b) : V E (.bool b) (.bool b)
 | str (s) : V E (.string s) (.str s)
 | nilp : V E (.pointer none) .nilp
 | nilf : V E .nilFunc .nilf
 | nili : V E .nilIface .nili
 | nilm : V E (.map none) .nilm
 | ptr {b e off m i} : E.J b e = some i → off + m ≤ i.len → V E (.pointer (some ⟨i.g, off, none⟩)) (.ptr b e off m)
 | vw {a : Addr} {cs : List T} (us : Nat → Value) : (∀ j, j < cs.length → E.F (a.add j) = some (us j)) → (∀ j (h : j < cs.length), V E (us j) cs[j]) → V E (.pointer (some a)) (.vw cs)
 | rown : V E (.slice none 0 0) (.row true 0 [])
 | row {a : Addr} {n c : Nat} {cs : List T} (us : Nat → Value) : n ≤ c → (∀ j, j < cs.length → E.F (a.add j) = some (us j)) → (∀ j (h : j < cs.length), V E (us j) cs[j]) → V E (.slice (some a) n c) (.row false n cs)
 | emp {a : Addr} : V E (.slice (some a) 0 0) .emp
 | ref {b e off n c i} {a : Addr} : E.J b e = some i → off + n * i.esz ≤ i.len → (a = ⟨i.g, off, none⟩ ∧ off + c * i.esz = i.cap ∨ n = 0 ∧ c = 0) → V E (.slice (some a) n c) (.ref b e off n)
 | fn {f : Nat} {xs ys : Array Value} {ts us : List T} : xs.size = ts.length → (∀ j (h : j < xs.size) (h' : j < ts.length), V E xs[j] ts[j]) → ys.size = us.length → (∀ j (h : j < ys.size) (h' : j < us.length), V E ys[j] us[j]) → V E (.func (.func f) xs ys) (.fn f ts us)
 | agg {xs : Array Value} {ts : List T} : xs.size = ts.length → (∀ j (h : j < xs.size) (h' : j < ts.length), V E xs[j] ts[j]) → V E (.agg xs) (.agg ts)
 | tup {xs : Array Value} {ts : List T} : xs.size = ts.length → (∀ j (h : j < xs.size) (h' : j < ts.length), V E xs[j] ts[j]) → V E (.tuple xs) (.tup ts)
 | mpn : V E (.map none) (.mp false)
 | mpx {r} : E.O r = some none → V E (.map (some r)) (.mp true)
 | anyi (n) : V E (.int .i64 n) .anyi
 | yld (l) : V E (.func (.yield l) #[] #[]) (.yld l)
theorem ew_ {w w' : World} {a : Addr} (h : w'.heap[a.block]? = w.heap[a.block]?) : w'.frozen? a = w.frozen? a := by unfold World.frozen?; rw [h]
theorem V.mono {E E' : Env} (hE : Env.Le E E') {v : Value} {t : T} (h : V E v t) : V E' v t := by
 induction h with
 | int k n => exact .int k n
 | bool b => exact .bool b
 | str s => exact .str s
 | nilp => exact .nilp
 | nilf => exact .nilf
 | nili => exact .nili
 | nilm => exact .nilm
 | ptr h1 h2 => exact .ptr (hE.j _ _ _ h1) h2
 | vw us h1 _ ih => exact .vw us (fun j hj => hE.f _ _ (h1 j hj)) ih
 | rown => exact .rown
 | row us h0 h1 _ ih => exact .row us h0 (fun j hj => hE.f _ _ (h1 j hj)) ih
 | emp => exact .emp
 | ref h1 h2 h3 => exact .ref (hE.j _ _ _ h1) h2 h3
 | fn h1 _ h3 _ ih1 ih2 => exact .fn h1 ih1 h3 ih2
 | agg h1 _ ih => exact .agg h1 ih
 | tup h1 _ ih => exact .tup h1 ih
 | mpn => exact .mpn
 | mpx h => exact .mpx (hE.o _ _ h)
 | anyi n => exact .anyi n
 | yld l => exact .yld l
def VL (E : Env) (vs : List Value) (ts : List T) : Prop := vs.length = ts.length ∧ ∀ j (h : j < vs.length) (h' : j < ts.length), V E vs[j] ts[j]
theorem VL.nil (E : Env) : VL E [] [] := ⟨rfl, fun j h => absurd h (by simp)⟩
theorem VL.cons {E : Env} {v : Value} {t : T} {vs ts} (h : V E v t) (hs : VL E vs ts) : VL E (v :: vs) (t :: ts) :=
 ⟨by simp [hs.1], fun j h1 h2 => by
  cases j with
  | zero => exact h
  | succ j => exact hs.2 j (by simpa using h1) (by simpa using h2)⟩
theorem VL.head {E : Env} {v : Value} {t : T} {vs ts} (h : VL E (v :: vs) (t :: ts)) : V E v t := h.2 0 (by simp) (by simp)
theorem VL.tail {E : Env} {v : Value} {t : T} {vs ts} (h : VL E (v :: vs) (t :: ts)) : VL E vs ts :=
 ⟨by simpa using h.1, fun j h1 h2 => h.2 (j + 1) (by simpa using h1) (by simpa using h2)⟩
theorem VL.mono {E E' : Env} (hE : Env.Le E E') {vs ts} (h : VL E vs ts) : VL E' vs ts := ⟨h.1, fun j h1 h2 => (h.2 j h1 h2).mono hE⟩
theorem VL.append {E : Env} {vs ts vs' ts'} (h : VL E vs ts) (h' : VL E vs' ts') : VL E (vs ++ vs') (ts ++ ts') := by
 refine ⟨by simp [h.1, h'.1], fun j h1 h2 => ?_⟩
 by_cases hj : j < vs.length
 ·rw [List.getElem_append_left hj, List.getElem_append_left (by rw [← h.1]; exact hj)]; exact h.2 _ _ _
 ·rw [List.getElem_append_right (by omega), List.getElem_append_right (by rw [← h.1]; omega)]
  simp only [← h.1]
  exact h'.2 _ _ _
theorem VL.get? {E : Env} {vs ts} (h : VL E vs ts) {j : Nat} {t : T} (ht : ts[j]? = some t) : ∃ v, vs[j]? = some v ∧ V E v t := by
 obtain ⟨hj, rfl⟩ := List.getElem?_eq_some_iff.1 ht
 have hj' : j < vs.length := by rw [h.1]; exact hj
 exact ⟨vs[j], List.getElem?_eq_getElem hj', h.2 j hj' hj⟩
theorem VL.drop {E : Env} {vs ts} (h : VL E vs ts) (k : Nat) : VL E (vs.drop k) (ts.drop k) :=
 ⟨by simp [h.1], fun j h1 h2 => by simp only [List.getElem_drop]; exact h.2 _ _ _⟩
theorem VL.take {E : Env} {vs ts} (h : VL E vs ts) (k : Nat) : VL E (vs.take k) (ts.take k) :=
 ⟨by simp [h.1], fun j h1 h2 => by simp only [List.getElem_take]; exact h.2 _ _ _⟩
theorem VL.of_array {E : Env} {xs : Array Value} {ts : List T} (h : xs.size = ts.length) (k : ∀ j (h : j < xs.size) (h' : j < ts.length), V E xs[j] ts[j]) : VL E xs.toList ts :=
 ⟨by simpa using h, fun j h1 h2 => by simpa using k j (by simpa using h1) h2⟩
theorem V.agg_iff {E : Env} {v : Value} {ts : List T} : V E v (.agg ts) ↔ ∃ xs : Array Value, v = .agg xs ∧ VL E xs.toList ts := by
 constructor
 ·intro h
  cases h with
  | agg h1 h2 => exact ⟨_, rfl, VL.of_array h1 h2⟩
 ·rintro ⟨xs, rfl, h⟩
  exact .agg (by simpa using h.1) (fun j h1 h2 => by have := h.2 j (by simpa using h1) h2; simpa only [Array.getElem_toList] using this)
theorem V.tup_iff {E : Env} {v : Value} {ts : List T} : V E v (.tup ts) ↔ ∃ xs : Array Value, v = .tuple xs ∧ VL E xs.toList ts := by
 constructor
 ·intro h
  cases h with
  | tup h1 h2 => exact ⟨_, rfl, VL.of_array h1 h2⟩
 ·rintro ⟨xs, rfl, h⟩
  exact .tup (by simpa using h.1) (fun j h1 h2 => by have := h.2 j (by simpa using h1) h2; simpa only [Array.getElem_toList] using this)
theorem V.fn_iff {E : Env} {v : Value} {f ts us} : V E v (.fn f ts us) ↔ ∃ xs ys : Array Value, v = .func (.func f) xs ys ∧ VL E xs.toList ts ∧ VL E ys.toList us := by
 constructor
 ·intro h
  cases h with
  | fn h1 h2 h3 h4 => exact ⟨_, _, rfl, VL.of_array h1 h2, VL.of_array h3 h4⟩
 ·rintro ⟨xs, ys, rfl, h, k⟩
  exact .fn (by simpa using h.1) (fun j h1 h2 => by have := h.2 j (by simpa using h1) h2; simpa only [Array.getElem_toList] using this) (by simpa using k.1) (fun j h1 h2 => by have := k.2 j (by simpa using h1) h2; simpa only [Array.getElem_toList] using this)
theorem V.cells {E : Env} {v : Value} {t : T} (h : V E v t) : VL E v.cells.toList t.cells := by
 cases h with
 | agg h1 h2 => exact VL.of_array h1 h2
 | _ => exact VL.cons (by constructor <;> assumption) (VL.nil _)
theorem V.vw_iff {E : Env} {v : Value} {cs : List T} : V E v (.vw cs) ↔ ∃ (a : Addr) (us : List Value), v = .pointer (some a) ∧ VL E us cs ∧ ∀ j u, us[j]? = some u → E.F (a.add j) = some u := by
 constructor
 ·intro h
  cases h with
  | vw us h1 h2 =>
   refine ⟨_, (List.range cs.length).map us, rfl, ⟨by simp, fun j h3 h4 => by simpa using h2 j h4⟩, fun j u hu => ?_⟩
   obtain ⟨hj, rfl⟩ := List.getElem?_eq_some_iff.1 hu
   simp at hj ⊢
   exact h1 j hj
 ·rintro ⟨a, us, rfl, h, k⟩
  refine .vw (fun j => us.getD j undef) (fun j hj => ?_) (fun j hj => ?_)
  ·have hj' : j < us.length := by rw [h.1]; exact hj
   exact k j _ (by simp [List.getD_eq_getElem?_getD, hj'])
  ·have hj' : j < us.length := by rw [h.1]; exact hj
   simpa [List.getD_eq_getElem?_getD, hj'] using h.2 j hj' hj
theorem V.row_iff {E : Env} {v : Value} {z n} {cs : List T} : V E v (.row z n cs) ↔ (z = true ∧ n = 0 ∧ cs = [] ∧ v = .slice none 0 0) ∨
  (z = false ∧ ∃ (a : Addr) (c : Nat) (us : List Value), v = .slice (some a) n c ∧ n ≤ c ∧ VL E us cs ∧ ∀ j u, us[j]? = some u → E.F (a.add j) = some u) := by
 constructor
 ·intro h
  cases h with
  | rown => exact .inl ⟨rfl, rfl, rfl, rfl⟩
  | row us h0 h1 h2 =>
   refine .inr ⟨rfl, _, _, (List.range cs.length).map us, rfl, h0, ⟨by simp, fun j h3 h4 => by simpa using h2 j h4⟩, fun j u hu => ?_⟩
   obtain ⟨hj, rfl⟩ := List.getElem?_eq_some_iff.1 hu
   simp at hj ⊢
   exact h1 j hj
 ·rintro (⟨rfl, rfl, rfl, rfl⟩ | ⟨rfl, a, c, us, rfl, h0, h, k⟩)
  ·exact .rown
  ·refine .row (fun j => us.getD j undef) h0 (fun j hj => ?_) (fun j hj => ?_)
   ·have hj' : j < us.length := by rw [h.1]; exact hj
    exact k j _ (by simp [List.getD_eq_getElem?_getD, hj'])
   ·have hj' : j < us.length := by rw [h.1]; exact hj
    simpa [List.getD_eq_getElem?_getD, hj'] using h.2 j hj' hj
def lu_ (E : Env) (w : World) (i : Inc) (cells : List T) : Prop :=
 ∃ (arr : Array Value) (ty : TypeId) (fr : Nat × Nat), w.heap[i.g]? = some (.cells arr ty fr) ∧ arr.size = i.cap ∧ i.len ≤ i.cap ∧ (∀ o, o < arr.size → ¬(fr.1 ≤ o ∧ o < fr.2)) ∧ VL E (arr.toList.take i.len) (cells.take i.len) 
structure Rel (B0 : Nat) (w0 : World) (E : Env) (σ : St) (w : World) : Prop where
 bel : Below B0 w0 w
 hB : B0 ≤ w.heap.size
 frz : ∀ a u, E.F a = some u → w.cell? a = some u
 jlt : ∀ b e i, E.J b e = some i → b < σ.next ∧ B0 ≤ i.g ∧ i.g < w.heap.size
 jb : ∀ b e i, E.J b e = some i → ∃ B, σ.blk b = some B
 inj : ∀ b e i b' e' i', E.J b e = some i → E.J b' e' = some i' → i.g = i'.g → b = b'
 dom : ∀ b B, σ.blk b = some B → b < σ.next ∧ B.low ≤ B.ep
 jep : ∀ b B e i, σ.blk b = some B → E.J b e = some i → e ≤ B.ep ∧ i.esz = B.esz
 blk : ∀ b B e, σ.blk b = some B → B.low ≤ e → e ≤ B.ep → ∃ i, E.J b e = some i ∧ i.len ≤ B.cells.length ∧ (e = B.ep → i.len = B.cells.length) ∧ lu_ E w i B.cells
 oth : ∀ k p, E.O k = some p → B0 ≤ k ∧ (∃ o, w.heap[k]? = some o ∧ h0_ E o p) ∧ ∀ b e i, E.J b e = some i → i.g ≠ k
 unf : ∀ a u, E.F a = some u → w.frozen? a = false
 gd : ∀ k fr, E.G k = some fr → ∃ c t, w.heap[k]? = some (.cells c t fr)
 nof : ∀ b B e i a u, σ.blk b = some B → E.J b e = some i → E.F a = some u → a.block = i.g → B.st = false ∧ a.off < B.cells.length
structure Keep (E : Env) (σ : St) (w : World) (σ' : St) (w' : World) : Prop where
 nx : σ.next ≤ σ'.next
 hs : w.heap.size ≤ w'.heap.size
 old : ∀ b B, σ.blk b = some B → ∃ B', σ'.blk b = some B' ∧ B.ver ≤ B'.ver ∧ (B'.ver = B.ver → ∀ e i, E.J b e = some i → w'.heap[i.g]? = w.heap[i.g]?)
theorem Keep.refl (E : Env) (σ : St) (w : World) : Keep E σ w σ w := ⟨Nat.le_refl _, Nat.le_refl _, fun b B h => ⟨B, h, Nat.le_refl _, fun _ _ _ _ => rfl⟩⟩
theorem Keep.trans {E E' : Env} {σ σ1 σ2 : St} {w w1 w2 : World} (hE : Env.Le E E') (h : Keep E σ w σ1 w1) (k : Keep E' σ1 w1 σ2 w2) : Keep E σ w σ2 w2 :=
 ⟨Nat.le_trans h.nx k.nx, Nat.le_trans h.hs k.hs, fun b B hb => by
  obtain ⟨B1, h1, h2, h3⟩ := h.old b B hb
  obtain ⟨B2, k1, k2, k3⟩ := k.old b B1 h1
  refine ⟨B2, k1, Nat.le_trans h2 k2, fun hv e i hi => ?_⟩
  rw [k3 (by omega) e i (hE.j _ _ _ hi), h3 (by omega) e i hi]⟩
def b6_ (E : Env) (a : Act) (s : Nat → T) : Prop := ∀ j, V E (a.tmps.getD j undef) (s j)
theorem b6_.mono {E E' : Env} (hE : Env.Le E E') {a s} (h : b6_ E a s) : b6_ E' a s := fun j => (h j).mono hE
theorem V.undef (E : Env) : V E undef (.tup []) := .tup rfl (fun j h => absurd h (by simp))
theorem V.ofV {E : Env} {v : Value} {t : T} (h : T.ofV v = some t) : V E v t := by
 unfold T.ofV at h
 split at h <;> first | (injection h with h; subst h; constructor; done) | (split at h <;> first | (cases h; done) | (injection h with h; subst h; exact V.tup_iff.2 ⟨_, rfl, by rename_i hz; rw [Array.size_eq_zero_iff.1 hz]; exact .nil E⟩)) | (cases h)
theorem VL.ofVs {E : Env} : ∀ {vs : List Value} {ts : List T}, ofVs vs = some ts → VL E vs ts
 | [], ts, h => by injection h with h; subst h; exact .nil E
 | v :: vs, ts, h => by
  simp only [Am.ofVs, Option.bind_eq_some_iff, Option.map_eq_some_iff] at h
  obtain ⟨t, ht, ts', hts, rfl⟩ := h
  exact .cons (V.ofV ht) (VL.ofVs hts)
theorem V.ofV' {E : Env} {v : Value} {t : T} (h : T.ofV' v = some t) : V E v t := by
 unfold T.ofV' at h
 split at h
 ·obtain ⟨ts, h1, rfl⟩ := Option.map_eq_some_iff.1 h
  exact V.agg_iff.2 ⟨_, rfl, VL.ofVs h1⟩
 ·exact V.ofV h
theorem ak_ {E : Env} {a : Act} {s : Nat → T} (hS : b6_ E a s) {x : Operand} {t : T} (h : evalO s x = some t) : V E (a.eval x) t := by
 cases x with
 | tmp j => injection h with h; subst h; exact hS j
 | const v => exact V.ofV' h
 | func f => injection h with h; subst h; exact V.fn_iff.2 ⟨#[], #[], rfl, .nil _, .nil _⟩
 | global g => cases h
theorem ei_ {E : Env} {a : Act} {s : Nat → T} (hS : b6_ E a s) : ∀ {xs : List Operand} {ts : List T}, bT_ s xs = some ts → VL E (xs.map a.eval) ts
 | [], ts, h => by injection h with h; subst h; exact .nil E
 | x :: xs, ts, h => by
  simp only [bT_, Option.bind_eq_some_iff, Option.map_eq_some_iff] at h
  obtain ⟨t, ht, ts', hts, rfl⟩ := h
  exact .cons (ak_ hS ht) (ei_ hS hts)
end Go.Am
end
section
set_option linter.unusedVariables false
set_option linter.unusedSimpArgs false
namespace Go.Am
open Go.RowKit
def Env.bind (E : Env) (b e : Nat) (i : Inc) : Env := ⟨E.F, fun b' e' => if b' = b ∧ e' = e then some i else E.J b' e', E.O, E.G⟩
theorem Env.Le.bind {E : Env} {b e : Nat} {i : Inc} (h : E.J b e = none) : Env.Le E (E.bind b e i) :=
 ⟨fun _ _ h => h, fun b' e' i' h' => by
  simp only [Env.bind]
  split
  ·rename_i hh; obtain ⟨rfl, rfl⟩ := hh; rw [h] at h'; cases h'
  ·exact h', fun _ _ h => h, fun _ _ h => h⟩
theorem lu_.mono {E E' : Env} (hE : Env.Le E E') {w : World} {i cells} (h : lu_ E w i cells) : lu_ E' w i cells := by
 obtain ⟨arr, ty, fr, h1, h2, h3, h4, h5⟩ := h
 exact ⟨arr, ty, fr, h1, h2, h3, h4, h5.mono hE⟩
theorem lu_.heap {E : Env} {w w' : World} {i cells} (h : lu_ E w i cells) (hw : w'.heap[i.g]? = w.heap[i.g]?) : lu_ E w' i cells := by
 obtain ⟨arr, ty, fr, h1, h2, h3, h4, h5⟩ := h
 exact ⟨arr, ty, fr, by rw [hw, h1], h2, h3, h4, h5⟩
theorem Rel.none_nid {B0 w0 E σ w} (h : Rel B0 w0 E σ w) {k : Option Nat} (hk : σ.okK k = true) (e : Nat) : E.J (σ.nid k) e = none := by
 cases hj : E.J (σ.nid k) e with
 | none => rfl
 | some i =>
  cases k with
  | none => have := (h.jlt _ e i hj).1; simp [St.nid] at this
  | some j =>
   obtain ⟨B, hB⟩ := h.jb _ e i hj
   simp [St.okK] at hk
   simp [St.nid, hk.1] at hB
theorem tl_ {σ : St} {k : Option Nat} (hk : σ.okK k = true) (B : Blk) : σ.nid k < (σ.pushK k B).next := by
 cases k with
 | none => simp [St.nid, St.pushK]
 | some j => simp [St.okK] at hk; simp [St.nid, St.pushK, hk.2]
theorem rM_ (σ : St) (k : Option Nat) (B : Blk) : σ.next ≤ (σ.pushK k B).next := by cases k <;> simp [St.pushK]
theorem qb_ {σ : St} {k : Option Nat} (hk : σ.okK k = true) (hd : ∀ b B, σ.blk b = some B → b < σ.next) : σ.blk (σ.nid k) = none := by
 cases k with
 | none =>
  cases hb : σ.blk (σ.nid none) with
  | none => rfl
  | some B => have := hd _ _ hb; simp [St.nid] at this
 | some j => simp [St.okK] at hk; simp [St.nid, hk.1]
theorem jI_ {w : World} {o : Obj} {a : Addr} {u : Value} (h : w.cell? a = some u) : World.cell? { w with heap := w.heap.push o } a = some u := by
 have hlt : a.block < w.heap.size := World.block_lt_of_cell? w a h
 unfold World.cell? at h ⊢
 simp only [Array.getElem?_push, if_neg (show ¬ a.block = w.heap.size by omega)]
 exact h
theorem Rel.push {B0 w0 E σ w} (h : Rel B0 w0 E σ w) {k : Option Nat} (hk : σ.okK k = true) {arr : Array Value} {ty : TypeId} {cells : List T} {esz : Nat} (fr : Nat × Nat)
  (hl : cells.length ≤ arr.size) (hv : VL E (arr.toList.take cells.length) cells) (hfr : ∀ o, o < arr.size → ¬(fr.1 ≤ o ∧ o < fr.2)) :
  Env.Le E (E.bind (σ.nid k) 0 ⟨w.heap.size, cells.length, arr.size, esz⟩) ∧
  Rel B0 w0 (E.bind (σ.nid k) 0 ⟨w.heap.size, cells.length, arr.size, esz⟩) (σ.pushK k (aH_ cells esz)) { w with heap := w.heap.push (.cells arr ty fr) } ∧
  Keep E σ w (σ.pushK k (aH_ cells esz)) { w with heap := w.heap.push (.cells arr ty fr) } := by
 have hn := h.none_nid hk 0
 have hnb := qb_ hk (fun b B hb => (h.dom b B hb).1)
 have hlt := tl_ hk (aH_ cells esz)
 have hnx := rM_ σ k (aH_ cells esz)
 have hblk : ∀ b, (σ.pushK k (aH_ cells esz)).blk b = if b = σ.nid k then some (aH_ cells esz) else σ.blk b := fun b => rfl
 generalize hid : σ.nid k = id at *
 generalize hσ : σ.pushK k (aH_ cells esz) = σ' at *
 have hle : Env.Le E (E.bind id 0 ⟨w.heap.size, cells.length, arr.size, esz⟩) := Env.Le.bind hn
 have hold : ∀ g, g < w.heap.size → ({ w with heap := w.heap.push (.cells arr ty fr) } : World).heap[g]? = w.heap[g]? := fun g hg => by
  simp only [Array.getElem?_push, if_neg (show ¬ g = w.heap.size by omega)]
 refine ⟨hle, ?_, ?_⟩
 ·constructor
  ·exact h.bel.trans ⟨rfl, rfl, rfl, by simp, fun k hk => hold k (by have := h.hB; omega)⟩
  ·simp; have := h.hB; omega
  ·intro a u ha; exact jI_ (h.frz a u ha)
  ·intro b e i hi
   simp only [Env.bind] at hi
   split at hi
   ·rename_i hh; obtain ⟨rfl, rfl⟩ := hh
    injection hi with hi; subst hi
    exact ⟨hlt, h.hB, by simp⟩
   ·obtain ⟨h1, h2, h3⟩ := h.jlt b e i hi
    exact ⟨by omega, h2, by simp; omega⟩
  ·intro b e i hi
   simp only [Env.bind] at hi
   rw [hblk]
   split at hi
   ·rename_i hh; rw [if_pos hh.1]; exact ⟨_, rfl⟩
   ·obtain ⟨B, hB⟩ := h.jb b e i hi
    split
    ·exact ⟨_, rfl⟩
    ·exact ⟨B, hB⟩
  ·intro b e i b' e' i' hi hi' hg
   simp only [Env.bind] at hi hi'
   split at hi
   ·rename_i hh; obtain ⟨rfl, rfl⟩ := hh
    injection hi with hi; subst hi
    split at hi'
    ·rename_i hh; exact hh.1.symm
    ·have := (h.jlt _ _ _ hi').2.2; simp at hg; omega
   ·split at hi'
    ·injection hi' with hi'; subst hi'
     have := (h.jlt _ _ _ hi).2.2; simp at hg; omega
    ·exact h.inj _ _ _ _ _ _ hi hi' hg
  ·intro b B hb
   rw [hblk] at hb
   split at hb
   ·rename_i hh; subst hh; injection hb with hb; subst hb; exact ⟨hlt, by simp [aH_]⟩
   ·obtain ⟨h1, h2⟩ := h.dom b B hb; exact ⟨by omega, h2⟩
  ·intro b B e i hb hi
   rw [hblk] at hb
   simp only [Env.bind] at hi
   split at hb
   ·rename_i hh; subst hh
    injection hb with hb; subst hb
    split at hi
    ·rename_i hh; obtain ⟨_, rfl⟩ := hh; injection hi with hi; subst hi; simp [aH_]
    ·obtain ⟨B, hB⟩ := h.jb _ _ _ hi
     rw [hnb] at hB; cases hB
   ·rename_i hh
    rw [if_neg (fun hh' => hh hh'.1)] at hi
    exact h.jep b B e i hb hi
  ·intro b B e hb hlo hhi
   rw [hblk] at hb
   split at hb
   ·rename_i hh; subst hh
    injection hb with hb; subst hb
    simp [aH_] at hlo hhi; subst hhi
    refine ⟨⟨w.heap.size, cells.length, arr.size, esz⟩, by simp [Env.bind], by simp [aH_], fun _ => by simp [aH_], arr, ty, fr, by simp, rfl, hl, hfr, ?_⟩
    simp only [aH_, List.take_length]
    exact hv.mono hle
   ·rename_i hh
    obtain ⟨i, h1, h2, h3, h4⟩ := h.blk b B e hb hlo hhi
    refine ⟨i, hle.j _ _ _ h1, h2, h3, (h4.mono hle).heap (hold _ (h.jlt _ _ _ h1).2.2)⟩
  ·intro k p hk
   obtain ⟨h0, ⟨o, h1, h2⟩, h4⟩ := h.oth k p hk
   have hlt' := (Array.getElem?_eq_some_iff.1 h1).1
   refine ⟨h0, ⟨o, by rw [hold k hlt']; exact h1, h2.mono hle⟩, fun b e i hi => ?_⟩
   simp only [Env.bind] at hi
   split at hi
   ·injection hi with hi; subst hi; show w.heap.size ≠ k; omega
   ·exact h4 b e i hi
  ·intro a u ha
   rw [ew_ (hold a.block (World.block_lt_of_cell? w a (h.frz a u ha)))]; exact h.unf a u ha
  ·intro k f hk
   obtain ⟨c, t, h1⟩ := h.gd k f hk
   exact ⟨c, t, by rw [hold k (Array.getElem?_eq_some_iff.1 h1).1]; exact h1⟩
  ·intro b B e i a u hb hi ha hg
   rw [hblk] at hb
   simp only [Env.bind] at hi
   have hlt : a.block < w.heap.size := World.block_lt_of_cell? w a (h.frz a u ha)
   split at hb
   ·rename_i hh; subst hh
    split at hi
    ·injection hi with hi; subst hi; simp at hg; omega
    ·obtain ⟨B, hB⟩ := h.jb _ _ _ hi
     rw [hnb] at hB; cases hB
   ·rename_i hh
    rw [if_neg (fun hh' => hh hh'.1)] at hi
    exact h.nof b B e i a u hb hi ha hg
 ·refine ⟨hnx, by simp, fun b B hb => ⟨B, ?_, Nat.le_refl _, fun _ e i hi => hold _ (h.jlt _ _ _ hi).2.2⟩⟩
  rw [hblk, if_neg (fun hh => by subst hh; rw [hnb] at hb; cases hb)]
  exact hb
theorem Rel.below {B0 : Nat} {w0 w w' : World} {E : Env} {σ : St} (h : Rel B0 w0 E σ w) (hb : Below w.heap.size w w') : Rel B0 w0 E σ w' ∧ Keep E σ w σ w' := by
 have cell : ∀ a u, w.cell? a = some u → w'.cell? a = some u := fun a u ha => by
  by_cases hl : a.block < w.heap.size
  ·rw [hb.cell hl]; exact ha
  ·have hn : w.heap[a.block]? = none := by simp; omega
   simp [World.cell?, hn] at ha
 refine ⟨⟨h.bel.trans (hb.mono h.hB), Nat.le_trans h.hB hb.size, fun a u k => cell a u (h.frz a u k), fun b e i k => ?_, h.jb, h.inj, h.dom, h.jep, fun b B e k1 k2 k3 => ?_, fun k p hk => ?_, fun a u ha => ?_, fun k f hk => ?_, h.nof⟩, Nat.le_refl _, hb.size, fun b B k => ⟨B, k, Nat.le_refl _, fun _ e i hi => hb.block _ (h.jlt b e i hi).2.2⟩⟩
 ·obtain ⟨a1, a2, a3⟩ := h.jlt b e i k
  exact ⟨a1, a2, Nat.lt_of_lt_of_le a3 hb.size⟩
 ·obtain ⟨i, a1, a2, a3, arr, ty, fr, a4, a5⟩ := h.blk b B e k1 k2 k3
  exact ⟨i, a1, a2, a3, arr, ty, fr, by rw [hb.block _ (h.jlt b e i a1).2.2]; exact a4, a5⟩
 ·obtain ⟨h0, ⟨o, h1, h2⟩, h4⟩ := h.oth k p hk
  exact ⟨h0, ⟨o, by rw [hb.block _ (Array.getElem?_eq_some_iff.1 h1).1]; exact h1, h2⟩, h4⟩
 ·rw [ew_ (hb.block _ (World.block_lt_of_cell? w a (h.frz a u ha)))]; exact h.unf a u ha
 ·obtain ⟨c, t, h1⟩ := h.gd k f hk
  exact ⟨c, t, by rw [hb.block _ (Array.getElem?_eq_some_iff.1 h1).1]; exact h1⟩
theorem Rel.more {B0 : Nat} {w0 w : World} {E : Env} {σ : St} (h : Rel B0 w0 E σ w) {O : Nat → Option (Option Obj)} {G : Nat → Option (Nat × Nat)} (hO : ∀ k p, E.O k = some p → O k = some p) (hG : ∀ k p, E.G k = some p → G k = some p)
  (h1 : ∀ k p, O k = some p → E.O k = some p ∨ B0 ≤ k ∧ (∃ o, w.heap[k]? = some o ∧ h0_ ⟨E.F, E.J, O, G⟩ o p) ∧ ∀ b e i, E.J b e = some i → i.g ≠ k) (h2 : ∀ k fr, G k = some fr → ∃ c t, w.heap[k]? = some (.cells c t fr)) :
  Env.Le E ⟨E.F, E.J, O, G⟩ ∧ Rel B0 w0 ⟨E.F, E.J, O, G⟩ σ w := by
 have hle : Env.Le E ⟨E.F, E.J, O, G⟩ := ⟨fun _ _ h => h, fun _ _ _ h => h, hO, hG⟩
 refine ⟨hle, ⟨h.bel, h.hB, h.frz, h.jlt, h.jb, h.inj, h.dom, h.jep, fun b B e a1 a2 a3 => ?_, fun k p hk => ?_, h.unf, h2, h.nof⟩⟩
 ·obtain ⟨i, b1, b2, b3, b4⟩ := h.blk b B e a1 a2 a3
  exact ⟨i, b1, b2, b3, b4.mono hle⟩
 ·rcases h1 k p hk with hk | hk
  ·obtain ⟨a1, ⟨o, a2, a3⟩, a4⟩ := h.oth k p hk
   exact ⟨a1, ⟨o, a2, a3.mono hle⟩, a4⟩
  ·exact hk
theorem Rel.pushO {B0 : Nat} {w0 w : World} {E : Env} {σ : St} (h : Rel B0 w0 E σ w) {o : Obj} {p : Option Obj} (hp : h0_ E o p) :
  ∃ E', Env.Le E E' ∧ E'.O w.heap.size = some p ∧ Rel B0 w0 E' σ (w.alloc o) ∧ Keep E σ w σ (w.alloc o) := by
 have hb : Below w.heap.size w (w.alloc o) := (Below.refl _ w).alloc (Nat.le_refl _) o
 obtain ⟨k1, k2⟩ := h.below hb
 have hnew : (w.alloc o).heap[w.heap.size]? = some o := by show (w.heap.push o)[w.heap.size]? = some o; simp
 have hle : Env.Le E ⟨E.F, E.J, fun k => if k = w.heap.size then some p else E.O k, E.G⟩ := ⟨fun _ _ h => h, fun _ _ _ h => h, fun k q hq => by
  obtain ⟨_, ⟨o', h1, _⟩, _⟩ := h.oth k q hq
  have := (Array.getElem?_eq_some_iff.1 h1).1
  simp only [if_neg (show ¬ k = w.heap.size by omega)]; exact hq, fun _ _ h => h⟩
 refine ⟨⟨E.F, E.J, fun k => if k = w.heap.size then some p else E.O k, E.G⟩, hle, by simp, (k1.more (fun k q hq => hle.o k q hq) (fun _ _ h => h) (fun k q hq => ?_) k1.gd).2, k2⟩
 simp only at hq
 split at hq
 ·rename_i hk; subst hk; injection hq with hq; subst hq
  exact .inr ⟨h.hB, ⟨o, hnew, hp.mono hle⟩, fun b e i hi => by have := (h.jlt b e i hi).2.2; omega⟩
 ·exact .inl hq
def setO (w : World) (r : Nat) (o : Obj) : World := { w with heap := w.heap.setIfInBounds r o }
theorem nT_ {w : World} {r : Nat} {o : Obj} (h : r < w.heap.size) : (setO w r o).heap[r]? = some o := by simp [setO, h]
theorem jl_ {w : World} {r k : Nat} {o : Obj} (h : k ≠ r) : (setO w r o).heap[k]? = w.heap[k]? := by simp [setO, Array.getElem?_setIfInBounds_ne (Ne.symm h)]
theorem Rel.putO {B0 : Nat} {w0 w : World} {E : Env} {σ : St} (h : Rel B0 w0 E σ w) {r : Nat} {o : Obj} {p : Option Obj} (hr : E.O r = some p) (hp : h0_ E o p) :
  Rel B0 w0 E σ (setO w r o) ∧ Keep E σ w σ (setO w r o) := by
 obtain ⟨a0, ⟨o0, a1, a2⟩, a3⟩ := h.oth r p hr
 have hsz : (setO w r o).heap.size = w.heap.size := by simp [setO]
 have hoth : ∀ k, k ≠ r → (setO w r o).heap[k]? = w.heap[k]? := fun k hk => jl_ hk
 have hsame : (setO w r o).heap[r]? = some o := nT_ (Array.getElem?_eq_some_iff.1 a1).1
 have hnc : ∀ a u, E.F a = some u → a.block ≠ r := fun a u ha hh => by
  have := h.frz a u ha
  unfold World.cell? at this
  rw [hh, a1] at this
  cases o0 with
  | cells c t f => exact a2.cells
  | _ => cases this
 refine ⟨⟨?_, by rw [hsz]; exact h.hB, fun a u ha => ?_, fun b e i hi => ?_, h.jb, h.inj, h.dom, h.jep, fun b B e h1 h2 h3 => ?_, fun k q hk => ?_, fun a u ha => ?_, fun k f hk => ?_, h.nof⟩, Nat.le_refl _, by omega, fun b B hb => ⟨B, hb, Nat.le_refl _, fun _ e i hi => hoth _ (a3 _ _ _ hi)⟩⟩
 ·exact h.bel.trans ⟨rfl, rfl, rfl, by omega, fun k hk => hoth k (by omega)⟩
 ·have := h.frz a u ha
  unfold World.cell? at this ⊢
  rw [hoth _ (hnc a u ha)]; exact this
 ·obtain ⟨b1, b2, b3⟩ := h.jlt b e i hi; exact ⟨b1, b2, by omega⟩
 ·obtain ⟨i, b1, b2, b3, b4⟩ := h.blk b B e h1 h2 h3
  exact ⟨i, b1, b2, b3, b4.heap (hoth _ (a3 _ _ _ b1))⟩
 ·obtain ⟨b1, ⟨o', b2, b3⟩, b4⟩ := h.oth k q hk
  refine ⟨b1, ?_, b4⟩
  by_cases hkr : k = r
  ·subst hkr; rw [hr] at hk; injection hk with hk; subst hk; exact ⟨o, hsame, hp⟩
  ·exact ⟨o', by rw [hoth k hkr]; exact b2, b3⟩
 ·rw [ew_ (hoth _ (hnc a u ha))]; exact h.unf a u ha
 ·obtain ⟨c, t, h1⟩ := h.gd k f hk
  refine ⟨c, t, ?_⟩
  rw [hoth k (fun hh => by subst hh; rw [a1] at h1; injection h1 with h1; subst h1; exact a2.cells)]; exact h1
theorem Rel.write {B0 w0 E σ w} (h : Rel B0 w0 E σ w) {b : Nat} {B B' : Blk} {i i' : Inc} {E' : Env} {arr arr' : Array Value} {ty : TypeId} {fr : Nat × Nat} {w' : World}
  (hb : σ.blk b = some B) (hi : E.J b B.ep = some i) (hw : w.heap[i.g]? = some (.cells arr ty fr))
  (hwo : w'.os = w.os ∧ w'.tape = w.tape ∧ w'.output = w.output ∧ w'.heap.size = w.heap.size)
  (hw' : w'.heap[i.g]? = some (.cells arr' ty fr)) (hoth : ∀ g, g ≠ i.g → w'.heap[g]? = w.heap[g]?)
  (hfr : ∀ a u, E.F a = some u → a.block = i.g → arr'[a.off]? = arr[a.off]?)
  (hE : Env.Le E E') (hEF : E'.F = E.F) (hEO : E'.O = E.O ∧ E'.G = E.G) (hEJ : ∀ b' e' j, E'.J b' e' = some j → E.J b' e' = some j ∨ b' = b ∧ e' = B'.ep ∧ j = i')
  (hg : i'.g = i.g) (hs : i'.esz = B'.esz) (hB' : B'.ep = B.ep ∨ B'.ep = B.ep + 1) (hesz : B'.esz = B.esz) (hst : B'.st = B.st) (hver : B'.ver = B.ver + 1)
  (hlow : B.low ≤ B'.low) (hlow' : B'.low ≤ B'.ep) (hlen : B.cells.length ≤ B'.cells.length) (hJ : E'.J b B'.ep = some i') (hi' : i'.len = B'.cells.length)
  (hold : ∀ e j, B'.low ≤ e → e ≤ B'.ep → E'.J b e = some j → j.len ≤ B'.cells.length ∧ lu_ E' w' j B'.cells) :
  Rel B0 w0 E' (σ.set b B') w' ∧ Keep E σ w (σ.set b B') w' := by
 have hbl := h.dom b B hb
 constructor
 ·constructor
  ·refine h.bel.trans ⟨hwo.1, hwo.2.1, hwo.2.2.1, by omega, fun k hk => hoth k ?_⟩
   have := (h.jlt _ _ _ hi).2.1; omega
  ·rw [hwo.2.2.2]; exact h.hB
  ·intro a u ha
   rw [hEF] at ha
   have hc := h.frz a u ha
   by_cases hab : a.block = i.g
   ·unfold World.cell? at hc ⊢
    rw [hab, hw] at hc
    rw [hab, hw']
    simp only at hc ⊢
    split at hc
    ·cases hc
    ·rename_i hsp; rw [if_neg hsp, hfr a u ha hab]; exact hc
   ·unfold World.cell? at hc ⊢
    rw [hoth _ hab]; exact hc
  ·intro b' e' j hj
   simp only [St.set]
   rcases hEJ b' e' j hj with h1 | ⟨rfl, rfl, rfl⟩
   ·obtain ⟨k1, k2, k3⟩ := h.jlt _ _ _ h1; exact ⟨k1, k2, by omega⟩
   ·obtain ⟨k1, k2, k3⟩ := h.jlt _ _ _ hi; exact ⟨k1, by omega, by omega⟩
  ·intro b1 e1 j1 h1
   simp only [St.set]
   split
   ·exact ⟨_, rfl⟩
   ·rename_i hh
    rcases hEJ b1 e1 j1 h1 with h1 | ⟨h1, _⟩
    ·exact h.jb _ _ _ h1
    ·exact absurd h1 hh
  ·intro b1 e1 j1 b2 e2 j2 h1 h2 hgg
   have key : ∀ b1 e1 j1, E'.J b1 e1 = some j1 → ∃ e0 j0, E.J b1 e0 = some j0 ∧ j0.g = j1.g := fun b1 e1 j1 h1 => by
    rcases hEJ b1 e1 j1 h1 with h1 | ⟨rfl, rfl, rfl⟩
    ·exact ⟨_, _, h1, rfl⟩
    ·exact ⟨_, _, hi, hg.symm⟩
   obtain ⟨e1', j1', k1, l1⟩ := key _ _ _ h1
   obtain ⟨e2', j2', k2, l2⟩ := key _ _ _ h2
   exact h.inj _ _ _ _ _ _ k1 k2 (by omega)
  ·intro b1 B1 hb1
   simp only [St.set] at hb1 ⊢
   split at hb1
   ·rename_i hh; subst hh; injection hb1 with hb1; subst hb1; exact ⟨hbl.1, hlow'⟩
   ·exact h.dom _ _ hb1
  ·intro b1 B1 e j hb1 hj
   simp only [St.set] at hb1
   split at hb1
   ·rename_i hh; subst hh; injection hb1 with hb1; subst hb1
    rcases hEJ _ _ _ hj with h1 | ⟨_, rfl, rfl⟩
    ·obtain ⟨k1, k2⟩ := h.jep _ _ _ _ hb h1
     exact ⟨by rcases hB' with h' | h' <;> omega, by rw [k2, hesz]⟩
    ·exact ⟨Nat.le_refl _, hs⟩
   ·rename_i hh
    rcases hEJ _ _ _ hj with h1 | ⟨h1, _, _⟩
    ·exact h.jep _ _ _ _ hb1 h1
    ·exact absurd h1 hh
  ·intro b1 B1 e hb1 hlo hhi
   simp only [St.set] at hb1
   split at hb1
   ·rename_i hh; subst hh; injection hb1 with hb1; subst hb1
    by_cases he : e = B'.ep
    ·subst he
     obtain ⟨h1, h2⟩ := hold _ _ hlo hhi hJ
     exact ⟨i', hJ, h1, fun _ => hi', h2⟩
    ·obtain ⟨j, h1, _, _, _⟩ := h.blk _ B e hb (by omega) (by rcases hB' with h' | h' <;> omega)
     obtain ⟨h2, h3⟩ := hold e j hlo hhi (hE.j _ _ _ h1)
     exact ⟨j, hE.j _ _ _ h1, h2, fun hh => absurd hh he, h3⟩
   ·rename_i hh
    obtain ⟨j, h1, h2, h3, h4⟩ := h.blk _ _ e hb1 hlo hhi
    refine ⟨j, hE.j _ _ _ h1, h2, h3, (h4.mono hE).heap (hoth _ ?_)⟩
    intro hgg
    exact hh (h.inj _ _ _ _ _ _ h1 hi hgg)
  ·intro k p hk
   rw [hEO.1] at hk
   obtain ⟨h0, ⟨o, h1, h2⟩, h4⟩ := h.oth k p hk
   refine ⟨h0, ⟨o, by rw [hoth k (fun hh => h4 _ _ _ hi hh.symm)]; exact h1, h2.mono hE⟩, fun b1 e j hj => ?_⟩
   rcases hEJ _ _ _ hj with h5 | ⟨_, _, rfl⟩
   ·exact h4 _ _ _ h5
   ·rw [hg]; exact h4 _ _ _ hi
  ·intro a u ha
   rw [hEF] at ha
   have hu := h.unf a u ha
   by_cases hab : a.block = i.g
   ·unfold World.frozen? at hu ⊢
    rw [hab, hw] at hu
    rw [hab, hw']; exact hu
   ·rw [ew_ (hoth _ hab)]; exact hu
  ·intro k f hk
   rw [hEO.2] at hk
   obtain ⟨c, t, h1⟩ := h.gd k f hk
   by_cases hki : k = i.g
   ·subst hki; rw [hw] at h1; injection h1 with h1; injection h1 with _ h2 h3; subst h2; subst h3; exact ⟨_, _, hw'⟩
   ·exact ⟨c, t, by rw [hoth k hki]; exact h1⟩
  ·intro b1 B1 e j a u hb1 hj ha hab
   rw [hEF] at ha
   simp only [St.set] at hb1
   split at hb1
   ·rename_i hh; subst hh; injection hb1 with hb1; subst hb1
    rw [hst]
    rcases hEJ _ _ _ hj with h1 | ⟨_, rfl, rfl⟩
    ·obtain ⟨k1, k2⟩ := h.nof _ _ _ _ a u hb h1 ha hab; exact ⟨k1, by omega⟩
    ·obtain ⟨k1, k2⟩ := h.nof _ _ _ _ a u hb hi ha (by omega); exact ⟨k1, by omega⟩
   ·rename_i hh
    rcases hEJ _ _ _ hj with h1 | ⟨h1, _, _⟩
    ·exact h.nof _ _ _ _ a u hb1 h1 ha hab
    ·exact absurd h1 hh
 ·refine ⟨Nat.le_refl _, by omega, fun b1 B1 hb1 => ?_⟩
  simp only [St.set]
  by_cases hh : b1 = b
  ·subst hh
   rw [hb] at hb1; injection hb1 with hb1; subst hb1
   refine ⟨B', by simp, by omega, fun hv => by omega⟩
  ·refine ⟨B1, by simp [hh, hb1], Nat.le_refl _, fun _ e j hj => hoth _ fun hgg => hh (h.inj _ _ _ _ _ _ hj hi hgg)⟩
end Go.Am
end
section
set_option linter.unusedVariables false
set_option linter.unusedSimpArgs false
namespace Go.Am
open Go.RowKit
def Env.cut (E : Env) (D : Nat) : Env := ⟨E.F, E.J, fun k => if k = D then none else E.O k, E.G⟩
theorem Env.cut_le {E0 E : Env} {D : Nat} (h : Env.Le E0 E) (h0 : E0.O D = none) : Env.Le E0 (E.cut D) := ⟨h.f, h.j, fun k p hk => by
 show (if k = D then none else E.O k) = some p
 rw [if_neg (fun e => by subst e; rw [h0] at hk; cases hk)]; exact h.o k p hk, h.g⟩
theorem V.cut {E : Env} {D : Nat} (hD : E.O D ≠ some none) {v : Value} {t : T} (h : V E v t) : V (E.cut D) v t := by
 induction h with
 | int k n => exact .int k n
 | bool b => exact .bool b
 | str s => exact .str s
 | nilp => exact .nilp
 | nilf => exact .nilf
 | nili => exact .nili
 | nilm => exact .nilm
 | ptr h1 h2 => exact .ptr (E := E.cut D) h1 h2
 | vw us h1 _ ih => exact .vw (E := E.cut D) us h1 ih
 | rown => exact .rown
 | row us h0 h1 _ ih => exact .row (E := E.cut D) us h0 h1 ih
 | emp => exact .emp
 | ref h1 h2 h3 => exact .ref (E := E.cut D) h1 h2 h3
 | fn h1 _ h3 _ ih1 ih2 => exact .fn h1 ih1 h3 ih2
 | agg h1 _ ih => exact .agg h1 ih
 | tup h1 _ ih => exact .tup h1 ih
 | mpn => exact .mpn
 | @mpx r h => exact .mpx (E := E.cut D) (by show (if r = D then none else E.O r) = some none; rw [if_neg (fun e => hD (by rw [← e]; exact h))]; exact h)
 | anyi n => exact .anyi n
 | yld l => exact .yld l
theorem VL.cut {E : Env} {D : Nat} (hD : E.O D ≠ some none) {vs ts} (h : VL E vs ts) : VL (E.cut D) vs ts := ⟨h.1, fun j h1 h2 => (h.2 j h1 h2).cut hD⟩
theorem b6_.cut {E : Env} {D : Nat} (hD : E.O D ≠ some none) {a s} (h : b6_ E a s) : b6_ (E.cut D) a s := fun j => (h j).cut hD
theorem Rel.cut {B0 : Nat} {w0 w : World} {E : Env} {σ : St} {D : Nat} (hD : E.O D ≠ some none) (h : Rel B0 w0 E σ w) : Rel B0 w0 (E.cut D) σ w := by
 refine ⟨h.bel, h.hB, h.frz, h.jlt, h.jb, h.inj, h.dom, h.jep, fun b B e h1 h2 h3 => ?_, fun k q hk => ?_, h.unf, h.gd, h.nof⟩
 ·obtain ⟨i, b1, b2, b3, arr, ty, fr, c1, c2, c3, c4, c5⟩ := h.blk b B e h1 h2 h3
  exact ⟨i, b1, b2, b3, arr, ty, fr, c1, c2, c3, c4, c5.cut hD⟩
 ·have hk : (if k = D then none else E.O k) = some q := hk
  split at hk
  ·cases hk
  ·obtain ⟨b1, ⟨o', b2, b3⟩, b4⟩ := h.oth k q hk
   exact ⟨b1, ⟨o', b2, b3.same rfl⟩, b4⟩
theorem Rel.turn {B0 : Nat} {w0 w : World} {E : Env} {σ : St} (h : Rel B0 w0 E σ w) {r : Nat} {o0 o : Obj} (a0 : B0 ≤ r) (a1 : w.heap[r]? = some o0) (a2 : o0.isCells = false) (hr : E.O r = none) (a3 : ∀ b e i, E.J b e = some i → i.g ≠ r) :
  Rel B0 w0 E σ (setO w r o) ∧ Keep E σ w σ (setO w r o) := by
 have hsz : (setO w r o).heap.size = w.heap.size := by simp [setO]
 have hoth : ∀ k, k ≠ r → (setO w r o).heap[k]? = w.heap[k]? := fun k hk => jl_ hk
 have hnc : ∀ a u, E.F a = some u → a.block ≠ r := fun a u ha hh => by
  have := h.frz a u ha
  unfold World.cell? at this
  rw [hh, a1] at this
  cases o0 with
  | cells c t f => cases a2
  | _ => cases this
 refine ⟨⟨?_, by rw [hsz]; exact h.hB, fun a u ha => ?_, fun b e i hi => ?_, h.jb, h.inj, h.dom, h.jep, fun b B e h1 h2 h3 => ?_, fun k q hk => ?_, fun a u ha => ?_, fun k f hk => ?_, h.nof⟩, Nat.le_refl _, by omega, fun b B hb => ⟨B, hb, Nat.le_refl _, fun _ e i hi => hoth _ (a3 _ _ _ hi)⟩⟩
 ·exact h.bel.trans ⟨rfl, rfl, rfl, by omega, fun k hk => hoth k (by omega)⟩
 ·have := h.frz a u ha
  unfold World.cell? at this ⊢
  rw [hoth _ (hnc a u ha)]; exact this
 ·obtain ⟨b1, b2, b3⟩ := h.jlt b e i hi; exact ⟨b1, b2, by omega⟩
 ·obtain ⟨i, b1, b2, b3, b4⟩ := h.blk b B e h1 h2 h3
  exact ⟨i, b1, b2, b3, b4.heap (hoth _ (a3 _ _ _ b1))⟩
 ·obtain ⟨b1, ⟨o', b2, b3⟩, b4⟩ := h.oth k q hk
  refine ⟨b1, ⟨o', ?_, b3⟩, b4⟩
  rw [hoth k (fun e => by subst e; rw [hr] at hk; cases hk)]; exact b2
 ·rw [ew_ (hoth _ (hnc a u ha))]; exact h.unf a u ha
 ·obtain ⟨c, t, h1⟩ := h.gd k f hk
  refine ⟨c, t, ?_⟩
  rw [hoth k (fun hh => by subst hh; rw [a1] at h1; injection h1 with h1; subst h1; cases a2)]; exact h1
theorem Rel.tellO {B0 : Nat} {w0 w : World} {E : Env} {σ : St} (h : Rel B0 w0 E σ w) {r : Nat} {o : Obj} (a0 : B0 ≤ r) (a1 : w.heap[r]? = some o) (a2 : o.isCells = false) (hr : E.O r = none) (a3 : ∀ b e i, E.J b e = some i → i.g ≠ r) :
  Env.Le E ⟨E.F, E.J, fun k => if k = r then some (some o) else E.O k, E.G⟩ ∧ Rel B0 w0 ⟨E.F, E.J, fun k => if k = r then some (some o) else E.O k, E.G⟩ σ w :=
 h.more (fun k q hq => by rw [if_neg (fun e => by subst e; rw [hr] at hq; cases hq)]; exact hq) (fun _ _ h => h) (fun k q hq => by
  split at hq
  ·rename_i e
   injection hq with hq; subst e; subst hq
   exact .inr ⟨a0, ⟨o, a1, rfl, a2⟩, a3⟩
  ·exact .inl hq) h.gd
theorem Keep.of_le {E0 E : Env} {σ : St} {w w' : World} (hle : Env.Le E0 E) (h : Keep E σ w σ w') : Keep E0 σ w σ w' := ⟨h.nx, h.hs, fun b B hb => by
 obtain ⟨B', h1, h2, h3⟩ := h.old b B hb
 exact ⟨B', h1, h2, fun hv e i hi => h3 hv e i (hle.j _ _ _ hi)⟩⟩
end Go.Am
end
section
set_option linter.unusedVariables false
set_option linter.unusedSimpArgs false
namespace Go.Am
open Go.RowKit
section
variable {P : Program}
theorem ci_ {t : TypeId} {n : Nat} (h : szOf P t = some n) (w : World) : (sizeOf t).run P w = .ok n w := by
 obtain ⟨i, hi, rfl⟩ := Option.map_eq_some_iff.1 h
 simp [sizeOf, typeInfo, hi]
theorem lp_ {t : TypeId} {b : Bool} (h : j2_ P t = some b) (w : World) : (isAgg t).run P w = .ok b w := by
 unfold j2_ at h
 unfold isAgg
 cases hu : P.underlying t with
 | none => rw [hu] at h; cases h
 | some d =>
  rw [hu] at h
  rw [Sem.run_bind, run_underlying hu]
  cases d <;> simp at h <;> subst h <;> simp
theorem dE_ {t : TypeId} {z : List T} (h : aT_ P t = some z) (E : Env) : ∃ i v, P.info? t = some i ∧ i.zero = some v ∧ VL E v.cells.toList z := by
 unfold aT_ at h
 obtain ⟨i, hi, h⟩ := Option.bind_eq_some_iff.1 h
 obtain ⟨v, hv, h⟩ := Option.bind_eq_some_iff.1 h
 exact ⟨i, v, hi, hv, VL.ofVs h⟩
def At (w : World) (a : Addr) (us : List Value) : Prop := ∀ j u, us[j]? = some u → w.cell? (a.add j) = some u
theorem At.take {w : World} {a : Addr} {us : List Value} (h : At w a us) (k : Nat) : At w a (us.take k) := fun j u hu => by
 rw [List.getElem?_take] at hu
 split at hu
 ·exact h _ _ hu
 ·cases hu
theorem g6_ {E : Env} {w : World} {a : Addr} {us : List Value} {cs : List T} {t : TypeId} {r : T} (hat : At w a us) (hv : VL E us cs) (h : part P t cs 0 = some r) :
  ∃ v, (loadVar t a).run P w = .ok v w ∧ V E v r := by
 unfold part at h
 obtain ⟨b, hb, h⟩ := Option.bind_eq_some_iff.1 h
 have hrb := lp_ hb w
 cases b with
 | true =>
  simp only [if_true] at h
  obtain ⟨n, hn, h⟩ := Option.bind_eq_some_iff.1 h
  split at h
  ·rename_i hle
   injection h with h; subst h
   have hlen : (us.take n).length = n := by simp [hv.1]; omega
   have hl := run_loadCells_list (P := P) w a (us.take n) (hat.take n)
   rw [hlen] at hl
   refine ⟨.agg (us.take n).toArray, by simp [loadVar, Sem.run_bind, hrb, ci_ hn, hl], V.agg_iff.2 ⟨_, rfl, ?_⟩⟩
   simpa using hv.take n
  ·cases h
 | false =>
  simp only [Bool.false_eq_true, if_false] at h
  obtain ⟨u, hu, hvu⟩ := hv.get? h
  have hc := hat 0 u hu
  have e0 : a.add 0 = a := by simp [Addr.add]
  rw [e0] at hc
  exact ⟨u, by simp [loadVar, Sem.run_bind, hrb, run_load, hc], hvu⟩
theorem hv_ {E : Env} {w : World} {us : Array Value} {cs : List T} {t : TypeId} {r : T} {off : Nat} (hv : VL E us.toList cs) (h : part P t cs off = some r) :
  ∃ v, (Go.part t us off).run P w = .ok v w ∧ V E v r := by
 unfold part at h
 obtain ⟨b, hb, h⟩ := Option.bind_eq_some_iff.1 h
 have hrb := lp_ hb w
 cases b with
 | true =>
  simp only [if_true] at h
  obtain ⟨n, hn, h⟩ := Option.bind_eq_some_iff.1 h
  split at h
  ·rename_i hle
   injection h with h; subst h
   refine ⟨.agg (us.extract off (off + n)), by simp [Go.part, Sem.run_bind, hrb, ci_ hn], V.agg_iff.2 ⟨_, rfl, ?_⟩⟩
   have := (hv.drop off).take n
   rw [Array.toList_extract, List.extract_eq_take_drop, show off + n - off = n by omega]
   exact this
  ·cases h
 | false =>
  simp only [Bool.false_eq_true, if_false] at h
  obtain ⟨u, hu, hvu⟩ := hv.get? h
  refine ⟨u, ?_, hvu⟩
  rw [Array.getElem?_toList] at hu
  simp [Go.part, Sem.run_bind, hrb, hu]
theorem Rel.form {B0 w0 E σ w} (h : Rel B0 w0 E σ w) {b e : Nat} {B : Blk} {i : Inc} (hb : σ.blk b = some B) (hi : E.J b e = some i) (hlo : B.low ≤ e) :
  ∃ (arr : Array Value) (ty : TypeId) (fr : Nat × Nat), w.heap[i.g]? = some (.cells arr ty fr) ∧ arr.size = i.cap ∧ i.len ≤ i.cap ∧ (∀ o, o < arr.size → ¬(fr.1 ≤ o ∧ o < fr.2)) ∧ i.len ≤ B.cells.length ∧ (e = B.ep → i.len = B.cells.length) ∧ VL E (arr.toList.take i.len) (B.cells.take i.len) := by
 obtain ⟨he, _⟩ := h.jep b B e i hb hi
 obtain ⟨i', hi', h1, h2, arr, ty, fr, h3, h4, h5, h6, h7⟩ := h.blk b B e hb hlo he
 rw [hi] at hi'; injection hi' with hi'; subst hi'
 exact ⟨arr, ty, fr, h3, h4, h5, h6, h1, h2, h7⟩
theorem jt_ (g o j : Nat) : (⟨g, o, none⟩ : Addr).add j = ⟨g, o + j, none⟩ := by unfold Addr.add; split <;> simp_all
theorem Rel.at_ {B0 w0 E σ w} (h : Rel B0 w0 E σ w) {b e off m : Nat} {B : Blk} {i : Inc} (hb : σ.blk b = some B) (hi : E.J b e = some i) (hlo : B.low ≤ e) (hm : off + m ≤ i.len) :
  ∃ us, At w ⟨i.g, off, none⟩ us ∧ VL E us ((B.cells.drop off).take m) := by
 obtain ⟨arr, ty, fr, h1, h2, h3, h4, h5, h6, h7⟩ := h.form hb hi hlo
 refine ⟨((arr.toList.take i.len).drop off).take m, fun j u hu => ?_, ?_⟩
 ·rw [List.getElem?_take] at hu
  split at hu
  ·rw [List.getElem?_drop, List.getElem?_take] at hu
   split at hu
   ·rw [jt_]
    simp only [World.cell?, h1]
    rw [Array.getElem?_toList] at hu
    simpa using hu
   ·cases hu
  ·cases hu
 ·have := (h7.drop off).take m
  have e : ∀ l : List T, ((l.take i.len).drop off).take m = (l.drop off).take m := fun l => by
   rw [List.drop_take, List.take_take, show min m (i.len - off) = m by omega]
  rw [e B.cells] at this
  exact this
theorem iz_ {B0 w0 E σ w} (hR : Rel B0 w0 E σ w) {t : TypeId} {x r : T} {v : Value} (hx : V E v x) (h : iN_ P σ t x = some r) :
  ∃ u, (Instr.loadAt t v).run P w = .ok u w ∧ V E u r := by
 cases x with
 | vw cs =>
  obtain ⟨a, us, rfl, h1, h2⟩ := V.vw_iff.1 hx
  obtain ⟨u, h3, h4⟩ := g6_ (P := P) (w := w) (a := a) (fun j u hu => hR.frz _ _ (h2 j u hu)) h1 h
  exact ⟨u, by simp [Instr.loadAt, Instr.sureAddr, Sem.run_bind, h3], h4⟩
 | ptr b e off m =>
  cases hx with
  | ptr hi hm =>
   simp only [iN_] at h
   obtain ⟨B, hb, h⟩ := Option.bind_eq_some_iff.1 h
   split at h
   ·rename_i hlo
    obtain ⟨us, h1, h2⟩ := hR.at_ hb hi hlo hm
    obtain ⟨u, h3, h4⟩ := g6_ (P := P) h1 h2 h
    exact ⟨u, by simp [Instr.loadAt, Instr.sureAddr, Sem.run_bind, h3], h4⟩
   ·cases h
 | _ => cases h
theorem ha_ {B0 w0 E σ w} (hR : Rel B0 w0 E σ w) {x : T} {v : Value} {n : Nat} {cs : List T} (hx : V E v x) (h : cellsOf σ x = some (n, cs)) :
  ∃ (a : Option Addr) (c : Nat) (us : List Value), v = .slice a n c ∧ VL E us cs ∧ (∀ a', a = some a' → At w a' us) ∧ (a = none → us = [] ∧ n = 0 ∧ c = 0) := by
 cases x with
 | row z m cs' =>
  injection h with h; injection h with h1 h2; subst h1; subst h2
  rcases V.row_iff.1 hx with ⟨rfl, rfl, rfl, rfl⟩ | ⟨rfl, a, c, us, rfl, h0, h1, h2⟩
  ·exact ⟨none, 0, [], rfl, .nil _, (fun _ h => by cases h), fun _ => ⟨rfl, rfl, rfl⟩⟩
  ·exact ⟨some a, c, us, rfl, h1, fun a' ha => by injection ha with ha; subst ha; exact fun j u hu => hR.frz _ _ (h2 j u hu), (fun h => by cases h)⟩
 | emp =>
  injection h with h; injection h with h1 h2; subst h1; subst h2
  cases hx with
  | emp => exact ⟨some _, 0, [], rfl, .nil _, fun _ _ j u hu => by simp at hu, fun h => by cases h⟩
 | ref b e off m =>
  cases hx with
  | ref hi hm ha =>
   simp only [cellsOf] at h
   obtain ⟨B, hb, h⟩ := Option.bind_eq_some_iff.1 h
   split at h
   ·rename_i hlo
    injection h with h; injection h with h1 h2; subst h1; subst h2
    obtain ⟨_, he⟩ := hR.jep _ _ _ _ hb hi
    rw [he] at hm
    obtain ⟨us, h1, h2⟩ := hR.at_ hb hi hlo hm
    refine ⟨some _, _, us, rfl, h2, fun a' haa => ?_, fun h => by cases h⟩
    injection haa with haa; subst haa
    rcases ha with ⟨rfl, _⟩ | ⟨rfl, _⟩
    ·exact h1
    ·have : us = [] := by have := h2.1; simp at this; exact this
     subst this
     intro j u hu; simp at hu
   ·cases h
 | _ => cases h
theorem lN_ {B0 w0 E σ w} (hR : Rel B0 w0 E σ w) {x : T} {v : Value} {sz m : Nat} {tx : TypeId} {cs : List T} (hx : V E v x) (h : e2_ σ sz x = some (m, cs)) (hk : ∀ s, x = .str s → P.underlying tx = some .string)
  (hk2 : ∀ a n c, v = .slice a n c → ∃ e', P.underlying tx = some (.slice e')) (hone : cs.all T.one = true) : ∃ us, Src P sz tx v m us w ∧ VL E us cs ∧ cs.length = m * sz := by
 have one_of : ∀ (us : List Value), VL E us cs → ∀ u ∈ us, u.oneCell' = true := fun us hv u hu => by
  obtain ⟨j, hj, rfl⟩ := List.mem_iff_getElem.1 hu
  have hj' : j < cs.length := by rw [← hv.1]; exact hj
  have h1 := hv.2 j hj hj'
  have h2 := List.all_eq_true.1 hone _ (List.getElem_mem hj')
  generalize us[j] = v' at h1
  generalize cs[j] = t' at h1 h2
  cases h1 <;> simp [T.one] at h2 <;> rfl
 have slice_case : ∀ {n cs'}, cellsOf σ x = some (n, cs') → (if cs'.length = n * sz then some (n, cs') else none) = some (m, cs) → ∃ us, Src P sz tx v m us w ∧ VL E us cs ∧ cs.length = m * sz := by
  intro n cs' hc h
  split at h
  ·rename_i hl
   injection h with h; injection h with h1 h2; subst h1; subst h2
   obtain ⟨a, c, us, rfl, h1, h2, h3⟩ := ha_ hR hx hc
   obtain ⟨e', hke⟩ := hk2 _ _ _ rfl
   cases a with
   | none =>
    obtain ⟨rfl, rfl, rfl⟩ := h3 rfl
    exact ⟨[], Src.ofNil w hke 0, h1, hl⟩
   | some a => exact ⟨us, Src.ofSlice w hke a _ _ us (by rw [h1.1, hl]) (h2 a rfl) (one_of us h1), h1, hl⟩
  ·cases h
 unfold e2_ at h
 split at h
 ·rename_i s
  split at h
  ·rename_i hsz
   subst hsz
   injection h with h; injection h with h1 h2; subst h1; subst h2
   cases hx
   refine ⟨byteCells s, Src.ofString w (hk s rfl) s, ?_, by simp [dN_]⟩
   refine ⟨by simp [byteCells, dN_], fun j h1 h2 => ?_⟩
   simp only [byteCells, dN_, List.getElem_map]
   constructor
  ·cases h
 ·obtain ⟨⟨n, cs'⟩, hc, h⟩ := Option.bind_eq_some_iff.1 h
  exact slice_case hc h
end
end Go.Am
end
section
set_option linter.unusedVariables false
set_option linter.unusedSimpArgs false
namespace Go.Am
open Go.RowKit
theorem kS_ (w : World) (g o : Nat) (v : Value) {arr : Array Value} {ty : TypeId} {fr : Nat × Nat} (h : w.heap[g]? = some (.cells arr ty fr)) :
  (w.setCell ⟨g, o, none⟩ v).heap[g]? = some (.cells (arr.setIfInBounds o v) ty fr) ∧ (∀ k, k ≠ g → (w.setCell ⟨g, o, none⟩ v).heap[k]? = w.heap[k]?) := by
 constructor
 ·simp [World.setCell, Array.getElem?_modify, h]
 ·intro k hk
  simp only [World.setCell, Array.getElem?_modify]
  rw [if_neg (fun e => hk e.symm)]
theorem iE_ (l : List Value) (o : Nat) (v : Value) (r : List Value) (h : o < l.length) :
  (l.set o v).take (o + 1) ++ r ++ (l.set o v).drop (o + 1 + r.length) = l.take o ++ (v :: r) ++ l.drop (o + (v :: r).length) := by
 rw [List.take_set, List.drop_set_of_lt (by omega)]
 have e : (l.take (o + 1)).set o v = l.take o ++ [v] := by
  rw [List.take_add_one, List.getElem?_eq_getElem h]
  rw [List.set_append_right _ _ (by simp; omega)]
  simp [List.length_take, Nat.min_eq_left (Nat.le_of_lt h)]
 rw [e]
 simp only [List.append_assoc, List.cons_append, List.nil_append, List.length_cons]
 rw [show o + 1 + r.length = o + (r.length + 1) by omega]
theorem fH_ (g : Nat) {ty : TypeId} {fr : Nat × Nat} : ∀ (vs : List Value) (o : Nat) (w : World) (arr : Array Value), w.heap[g]? = some (.cells arr ty fr) → o + vs.length ≤ arr.size →
  (w.setCells g o vs).heap[g]? = some (.cells (arr.toList.take o ++ vs ++ arr.toList.drop (o + vs.length)).toArray ty fr) ∧ (∀ k, k ≠ g → (w.setCells g o vs).heap[k]? = w.heap[k]?)
   ∧ (w.setCells g o vs).os = w.os ∧ (w.setCells g o vs).tape = w.tape ∧ (w.setCells g o vs).output = w.output ∧ (w.setCells g o vs).heap.size = w.heap.size
 | [], o, w, arr, h, _ => by
  refine ⟨?_, fun _ _ => rfl, rfl, rfl, rfl, rfl⟩
  simp [World.setCells, h]
 | v :: r, o, w, arr, h, hl => by
  obtain ⟨h1, h2⟩ := kS_ w g o v h
  have hl' : o + 1 + r.length ≤ (arr.setIfInBounds o v).size := by simp at hl ⊢; omega
  obtain ⟨k1, k2, k3, k4, k5, k6⟩ := fH_ g r (o + 1) (w.setCell ⟨g, o, none⟩ v) _ h1 hl'
  refine ⟨?_, fun k hk => (k2 k hk).trans (h2 k hk), k3, k4, k5, by rw [World.setCells, k6]; simp [World.setCell]⟩
  rw [World.setCells, k1]
  have := iE_ arr.toList o v r (by simp at hl ⊢; omega)
  simp only [Array.toList_setIfInBounds]
  rw [this]
section
variable {P : Program}
def dQ_ (P : Program) (B0 : Nat) (w0 : World) (E : Env) (σ : St) (w : World) (s : Sem Value) (v : T) (σ' : St) : Prop :=
 ∃ E' u w', Env.Le E E' ∧ s.run P w = .ok u w' ∧ Rel B0 w0 E' σ' w' ∧ V E' u v ∧ Keep E σ w σ' w'
theorem dQ_.pure {B0 w0 E σ w} (hR : Rel B0 w0 E σ w) {s : Sem Value} {u : Value} {v : T} (h : s.run P w = .ok u w) (hv : V E u v) : dQ_ P B0 w0 E σ w s v σ :=
 ⟨E, u, w, .refl E, h, hR, hv, .refl _ _ _⟩
theorem Rel.drew {B0 w0 E σ w} (h : Rel B0 w0 E σ w) : Rel B0 w0 E σ w.drew :=
 ⟨h.bel.drew, h.hB, h.frz, h.jlt, h.jb, h.inj, h.dom, h.jep, fun b B e h1 h2 h3 => by
  obtain ⟨i, k1, k2, k3, k4⟩ := h.blk b B e h1 h2 h3
  exact ⟨i, k1, k2, k3, k4.heap rfl⟩, h.oth, h.unf, h.gd, h.nof⟩
theorem Keep.drew {E : Env} {σ : St} {w : World} : Keep E σ w σ w.drew := ⟨Nat.le_refl _, Nat.le_refl _, fun b B h => ⟨B, h, Nat.le_refl _, fun _ _ _ _ => rfl⟩⟩
theorem Keep.drew' {E : Env} {σ σ' : St} {w w' : World} (h : Keep E σ w.drew σ' w') : Keep E σ w σ' w' := ⟨h.nx, h.hs, h.old⟩
theorem fa_ {B0 w0 E σ w} (hR : Rel B0 w0 E σ w) {k : Option Nat} (hk : σ.okK k = true) {arr : Array Value} (ty : TypeId) {cells : List T} (esz : Nat)
  (hl : cells.length ≤ arr.size) (hv : VL E (arr.toList.take cells.length) cells) :
  ∃ E', Env.Le E E' ∧ Rel B0 w0 E' (σ.pushK k (aH_ cells esz)) (w.alloc (.cells arr ty)) ∧ Keep E σ w (σ.pushK k (aH_ cells esz)) (w.alloc (.cells arr ty)) ∧
   V E' (.pointer (some ⟨w.heap.size, 0, none⟩)) (.ptr (σ.nid k) 0 0 cells.length) ∧
   (∀ n c, n * esz = cells.length → c * esz = arr.size → V E' (.slice (some ⟨w.heap.size, 0, none⟩) n c) (.ref (σ.nid k) 0 0 n)) := by
 obtain ⟨h1, h2, h3⟩ := hR.push hk (arr := arr) (ty := ty) (cells := cells) (esz := esz) (0, 0) hl hv (fun o _ => by simp)
 refine ⟨_, h1, h2, h3, V.ptr (i := ⟨w.heap.size, cells.length, arr.size, esz⟩) (by simp [Env.bind]) (by simp), fun n c hn hc => ?_⟩
 exact V.ref (i := ⟨w.heap.size, cells.length, arr.size, esz⟩) (by simp [Env.bind]) (by simp [hn]) (.inl ⟨rfl, by simp [hc]⟩)
theorem pt_ {B0 w0 E σ w} (hR : Rel B0 w0 E σ w) {k : Option Nat} (hk : σ.okK k = true) {t : TypeId} {x : T} {v : Value} (hx : V E v x) :
  dQ_ P B0 w0 E σ w (Instr.box t v) (.ptr (σ.nid k) 0 0 x.cells.length) (σ.pushK k (aH_ x.cells x.cells.length)) := by
 have hc := hx.cells
 have hl : x.cells.length = v.cells.size := by have := hc.1; simpa using this.symm
 obtain ⟨E', h1, h2, h3, h4, _⟩ := fa_ hR hk (arr := v.cells) t (cells := x.cells) x.cells.length (by omega) (by rw [hl, ← Array.length_toList, List.take_length]; exact hc)
 exact ⟨E', _, _, h1, by simp [Instr.box, newVar, newRow], h2, h4, h3⟩
theorem lO_ {B0 w0 E σ w} (hR : Rel B0 w0 E σ w) {k : Option Nat} (hk : σ.okK k = true) {t : TypeId} {z : List T} (hz : aT_ P t = some z) :
  dQ_ P B0 w0 E σ w (Instr.alloc t true (.tuple #[])) (.ptr (σ.nid k) 0 0 z.length) (σ.pushK k (aH_ z z.length)) := by
 obtain ⟨i, v, hi, hv, hvl⟩ := dE_ hz E
 have hl : z.length = v.cells.size := by have := hvl.1; simpa using this.symm
 obtain ⟨E', h1, h2, h3, h4, _⟩ := fa_ hR hk (arr := v.cells) t (cells := z) z.length (by omega) (by rw [hl, ← Array.length_toList, List.take_length]; exact hvl)
 exact ⟨E', _, _, h1, by simp [Instr.alloc, newVar, newRow, zeroValue, typeInfo, hi, hv], h2, h4, h3⟩
theorem p8_ {E : Env} {us : List Value} {ts : List T} (h : VL E us ts) (ho : ts.all T.one = true) : ∀ u ∈ us, u.oneCell' = true := fun u hu => by
 obtain ⟨j, hj, rfl⟩ := List.mem_iff_getElem.1 hu
 have hj' : j < ts.length := by rw [← h.1]; exact hj
 have h1 := h.2 j hj hj'
 have h2 := List.all_eq_true.1 ho _ (List.getElem_mem hj')
 generalize us[j] = v' at h1
 generalize ts[j] = t' at h1 h2
 cases h1 <;> simp [T.one] at h2 <;> rfl
theorem VL.splice {E : Env} {us vs : List Value} {ts xs : List T} (h : VL E us ts) (k : VL E vs xs) (o : Nat) : VL E (us.take o ++ vs ++ us.drop (o + vs.length)) (splice ts o xs) := by
 unfold Am.splice
 rw [k.1]
 exact ((h.take o).append k).append (h.drop _)
theorem me_ {B0 w0 E σ w} (hR : Rel B0 w0 E σ w) {b : Nat} {B : Blk} {i : Inc} (hb : σ.blk b = some B) (hi : E.J b B.ep = some i) (hst : B.st = true)
  {off : Nat} {us : List Value} {ts : List T} (hu : VL E us ts) (ho : off + ts.length ≤ B.cells.length) :
  Rel B0 w0 E (σ.set b { B with cells := splice B.cells off ts, low := B.ep, ver := B.ver + 1 }) (w.setCells i.g off us) ∧
  Keep E σ w (σ.set b { B with cells := splice B.cells off ts, low := B.ep, ver := B.ver + 1 }) (w.setCells i.g off us) := by
 have hd := hR.dom b B hb
 obtain ⟨arr, ty, fr, h1, h2, h3, h4, h5, h6, h7⟩ := hR.form hb hi hd.2
 have h6 := h6 rfl
 have hul := hu.1
 obtain ⟨k1, k2, k3, k4, k5, k6⟩ := fH_ i.g us off w arr h1 (by omega)
 have hsl : (splice B.cells off ts).length = B.cells.length := by simp [splice]; omega
 refine hR.write (B' := { B with cells := splice B.cells off ts, low := B.ep, ver := B.ver + 1 }) (i := i) (i' := i) hb hi h1 ⟨k3, k4, k5, k6⟩ k1 k2 ?_ (.refl E) rfl ⟨rfl, rfl⟩ (fun _ _ _ h => .inl h) rfl (hR.jep _ _ _ _ hb hi).2 (.inl rfl) rfl rfl rfl hd.2 (Nat.le_refl _) (by simp [hsl]) hi (by simp [hsl, h6]) ?_
 ·intro a u ha hg
  have := (hR.nof b B _ i a u hb hi ha hg).1
  rw [hst] at this; cases this
 ·intro e j hlo hhi hj
  have he : e = B.ep := Nat.le_antisymm hhi hlo
  subst he
  rw [hi] at hj; injection hj with hj; subst hj
  refine ⟨by simp [hsl]; omega, _, ty, fr, k1, by simp; omega, h3, fun o ho' => h4 o (by simp at ho'; omega), ?_⟩
  rw [h6, List.take_length] at h7
  have := (h7.splice hu off)
  rw [h6]
  simp only [List.toList_toArray]
  rw [show List.take B.cells.length (splice B.cells off ts) = splice B.cells off ts by rw [← hsl, List.take_length]]
  have e : ∀ l : List Value, off + us.length ≤ B.cells.length → B.cells.length ≤ l.length → List.take B.cells.length (l.take off ++ us ++ l.drop (off + us.length)) = (l.take B.cells.length).take off ++ us ++ (l.take B.cells.length).drop (off + us.length) := fun l hl1 hl2 => by
   apply List.ext_getElem?
   intro q
   simp only [List.getElem?_take, List.getElem?_append, List.getElem?_drop, List.length_append, List.length_take]
   repeat' split
   all_goals first | rfl | (exfalso; omega) | (congr 1; omega) | (symm; apply List.getElem?_eq_none; simp; omega) | (apply List.getElem?_eq_none; simp; omega)
  rw [e arr.toList (by omega) (by simp; omega)]
  exact this
theorem lv_ {B0 w0 E σ w} (hR : Rel B0 w0 E σ w) {t : TypeId} {x y : T} {v u : Value} {σ' : St} (hx : V E v x) (hy : V E u y) (h : iA_ P σ t x y = some σ') :
  ∃ w', (Instr.storeAt t v u).run P w = .ok () w' ∧ Rel B0 w0 E σ' w' ∧ Keep E σ w σ' w' := by
 unfold iA_ at h
 split at h
 ·rename_i b e off m
  cases hx with
  | ptr hi hm =>
   rename_i i
   obtain ⟨B, hb, h'⟩ := Option.bind_eq_some_iff.1 h
   obtain ⟨n, hn, h''⟩ := Option.bind_eq_some_iff.1 h'
   clear h h'
   split at h''
   ·rename_i hc
    obtain ⟨c1, c2, c3, c4, c5, c6⟩ := hc
    subst c2
    injection h'' with h''; subst h''
    have hyc := hy.cells
    obtain ⟨r1, r2⟩ := me_ hR hb hi c1 (off := off) hyc (by omega)
    refine ⟨_, ?_, r1, r2⟩
    obtain ⟨arr, ty, fr, h1, h2, h3, h4, h5, h6, h7⟩ := hR.form hb hi (hR.dom b B hb).2
    have h6 := h6 rfl
    have hyl := hyc.1
    have hsz : u.cells.size = n := by simp at hyl; omega
    have hst := run_storeCells_cells (P := P) i.g off u.cells.toList 0 w (fun j hj => by
      simp only [World.cell?, h1]; simp; simp at hj; omega) (fun j hj => by
      simp only [World.frozen?, h1]; simp at hj; have := h4 (off + 0 + j) (by omega); simp at this ⊢; omega) (p8_ hyc c6)
    simp only [Nat.add_zero] at hst
    simp [Instr.storeAt, Instr.sureAddr, storeVar, Sem.run_bind, ci_ hn, hsz, hst]
   ·cases h''
 ·cases h
end
end Go.Am
end
section
set_option linter.unusedVariables false
set_option linter.unusedSimpArgs false
namespace Go.Am
open Go.RowKit
theorem lz_ (newLen : Nat) : ∀ (r c : Nat), c ≤ 2 * newLen + 1024 → Builtin.growBy newLen r c ≤ 2 * newLen + 1024
 | 0, c, h => by simpa [Builtin.growBy] using h
 | r + 1, c, h => by
  unfold Builtin.growBy
  split
  ·exact h
  ·exact lz_ newLen r _ (by omega)
theorem iM_ {need old : Nat} (h : old < need) : Builtin.nextslicecap need old ≤ 2 * need + 1024 := by
 unfold Builtin.nextslicecap
 split
 ·omega
 ·split
  ·omega
  ·exact lz_ _ _ _ (by omega)
theorem jO_ {need old by_ : Nat} (h : old < need) (h1 : need * by_ ≤ 2 ^ 40) (h2 : ¬ by_ > 1048576) : Builtin.nextslicecap need old * by_ ≤ 281474976710656 := by
 have h3 := Nat.mul_le_mul_right by_ (iM_ h)
 have e : (2 * need + 1024) * by_ = 2 * (need * by_) + 1024 * by_ := by rw [Nat.add_mul, Nat.mul_assoc]
 rw [e] at h3
 omega
theorem ek_ (w : World) (need old : Nat) (e : TypeId) : need ≤ grownCap w need old e := by unfold grownCap Question.cut; simp
theorem cQ_ (z : Array Value) (n : Nat) : (Builtin.zeroCells z n).size = n * z.size := by simp [Builtin.zeroCells]
theorem Rel.grow {B0 w0 E σ w} (h : Rel B0 w0 E σ w) {b : Nat} {B : Blk} {news : List T} {arr : Array Value} {ty : TypeId}
  (hb : σ.blk b = some B) (hl : (B.cells ++ news).length ≤ arr.size) (hv : VL E (arr.toList.take (B.cells ++ news).length) (B.cells ++ news)) :
  Env.Le E (E.bind b (B.ep + 1) ⟨w.heap.size, (B.cells ++ news).length, arr.size, B.esz⟩) ∧
  Rel B0 w0 (E.bind b (B.ep + 1) ⟨w.heap.size, (B.cells ++ news).length, arr.size, B.esz⟩) (σ.set b { B with cells := B.cells ++ news, ep := B.ep + 1, ver := B.ver + 1 }) (w.alloc (.cells arr ty)) ∧
  Keep E σ w (σ.set b { B with cells := B.cells ++ news, ep := B.ep + 1, ver := B.ver + 1 }) (w.alloc (.cells arr ty)) := by
 have hn : E.J b (B.ep + 1) = none := by
  cases hj : E.J b (B.ep + 1) with
  | none => rfl
  | some i => have := (h.jep _ _ _ _ hb hj).1; omega
 have hle := Env.Le.bind (i := ⟨w.heap.size, (B.cells ++ news).length, arr.size, B.esz⟩) hn
 have hbd := h.dom b B hb
 have hold : ∀ g, g < w.heap.size → (w.alloc (.cells arr ty)).heap[g]? = w.heap[g]? := fun g hg => by
  show (w.heap.push _)[g]? = _
  simp only [Array.getElem?_push, if_neg (show ¬ g = w.heap.size by omega)]
 have hsz : (w.alloc (.cells arr ty)).heap.size = w.heap.size + 1 := by show (w.heap.push _).size = _; simp
 have hnew : (w.alloc (.cells arr ty)).heap[w.heap.size]? = some (.cells arr ty) := by show (w.heap.push _)[w.heap.size]? = _; simp
 refine ⟨hle, ?_, ?_⟩
 ·constructor
  ·exact h.bel.trans ⟨rfl, rfl, rfl, by omega, fun k hk => hold k (by have := h.hB; omega)⟩
  ·have := h.hB; omega
  ·intro a u ha; exact jI_ (h.frz a u ha)
  ·intro b' e i hi
   simp only [Env.bind] at hi
   split at hi
   ·rename_i hh; obtain ⟨rfl, rfl⟩ := hh
    injection hi with hi; subst hi
    exact ⟨hbd.1, h.hB, by rw [hsz]; exact Nat.lt_succ_self _⟩
   ·obtain ⟨h1, h2, h3⟩ := h.jlt b' e i hi
    exact ⟨h1, h2, by omega⟩
  ·intro b1 e1 i1 hi
   simp only [Env.bind] at hi
   simp only [St.set]
   split
   ·exact ⟨_, rfl⟩
   ·rename_i hh
    rw [if_neg (fun hh' => hh hh'.1)] at hi
    exact h.jb _ _ _ hi
  ·intro b1 e1 i1 b2 e2 i2 hi hi' hg
   simp only [Env.bind] at hi hi'
   split at hi
   ·rename_i hh; obtain ⟨rfl, rfl⟩ := hh
    injection hi with hi; subst hi
    split at hi'
    ·rename_i hh; exact hh.1.symm
    ·have := (h.jlt _ _ _ hi').2.2; simp at hg; omega
   ·split at hi'
    ·injection hi' with hi'; subst hi'
     have := (h.jlt _ _ _ hi).2.2; simp at hg; omega
    ·exact h.inj _ _ _ _ _ _ hi hi' hg
  ·intro b1 B1 hb1
   simp only [St.set] at hb1 ⊢
   split at hb1
   ·rename_i hh; subst hh; injection hb1 with hb1; subst hb1; exact ⟨hbd.1, by simp; omega⟩
   ·exact h.dom b1 B1 hb1
  ·intro b1 B1 e i hb1 hi
   simp only [St.set, Env.bind] at hb1 hi
   split at hb1
   ·rename_i hh; subst hh
    injection hb1 with hb1; subst hb1
    split at hi
    ·rename_i hh; obtain ⟨_, rfl⟩ := hh; injection hi with hi; subst hi; simp
    ·obtain ⟨k1, k2⟩ := h.jep _ _ _ _ hb hi; exact ⟨by simp; omega, k2⟩
   ·rename_i hh
    rw [if_neg (fun hh' => hh hh'.1)] at hi
    exact h.jep b1 B1 e i hb1 hi
  ·intro b1 B1 e hb1 hlo hhi
   simp only [St.set] at hb1
   split at hb1
   ·rename_i hh; subst hh
    injection hb1 with hb1; subst hb1
    by_cases he : e = B.ep + 1
    ·subst he
     refine ⟨⟨w.heap.size, (B.cells ++ news).length, arr.size, B.esz⟩, by simp [Env.bind], Nat.le_refl _, fun _ => rfl, arr, ty, (0, 0), hnew, rfl, hl, fun o _ => by simp, ?_⟩
     rw [List.take_length]
     exact hv.mono hle
    ·obtain ⟨i, k1, k2, k3, k4⟩ := h.blk _ B e hb hlo (by simp at hhi; omega)
     refine ⟨i, hle.j _ _ _ k1, by simp; omega, fun hh => absurd hh he, ?_⟩
     obtain ⟨arr', ty', fr', m1, m2, m3, m4, m5⟩ := (k4.mono hle).heap (hold _ (h.jlt _ _ _ k1).2.2)
     refine ⟨arr', ty', fr', m1, m2, m3, m4, ?_⟩
     rw [List.take_append_of_le_length k2]
     exact m5
   ·rename_i hh
    obtain ⟨i, h1, h2, h3, h4⟩ := h.blk b1 B1 e hb1 hlo hhi
    refine ⟨i, hle.j _ _ _ h1, h2, h3, (h4.mono hle).heap (hold _ (h.jlt _ _ _ h1).2.2)⟩
  ·intro k p hk
   obtain ⟨h0, ⟨o, h1, h2⟩, h4⟩ := h.oth k p hk
   have hlt' := (Array.getElem?_eq_some_iff.1 h1).1
   refine ⟨h0, ⟨o, by rw [hold k hlt']; exact h1, h2.mono hle⟩, fun b e i hi => ?_⟩
   simp only [Env.bind] at hi
   split at hi
   ·injection hi with hi; subst hi; show w.heap.size ≠ k; omega
   ·exact h4 _ _ _ hi
  ·intro a u ha
   rw [ew_ (hold a.block (World.block_lt_of_cell? w a (h.frz a u ha)))]; exact h.unf a u ha
  ·intro k f hk
   obtain ⟨c, t, h1⟩ := h.gd k f hk
   exact ⟨c, t, by rw [hold k (Array.getElem?_eq_some_iff.1 h1).1]; exact h1⟩
  ·intro b1 B1 e i a u hb1 hi ha hg
   simp only [St.set, Env.bind] at hb1 hi
   have hlt : a.block < w.heap.size := World.block_lt_of_cell? w a (h.frz a u ha)
   split at hb1
   ·rename_i hh; subst hh
    injection hb1 with hb1; subst hb1
    split at hi
    ·injection hi with hi; subst hi; simp at hg; omega
    ·obtain ⟨k1, k2⟩ := h.nof _ B e i a u hb hi ha hg; exact ⟨k1, by simp; omega⟩
   ·rename_i hh
    rw [if_neg (fun hh' => hh hh'.1)] at hi
    exact h.nof b1 B1 e i a u hb1 hi ha hg
 ·refine ⟨Nat.le_refl _, by omega, fun b1 B1 hb1 => ?_⟩
  simp only [St.set]
  by_cases hh : b1 = b
  ·subst hh
   rw [hb] at hb1; injection hb1 with hb1; subst hb1
   exact ⟨{ B with cells := B.cells ++ news, ep := B.ep + 1, ver := B.ver + 1 }, by simp, Nat.le_succ _, fun hv => absurd hv (Nat.succ_ne_self _)⟩
  ·exact ⟨B1, by simp [hh, hb1], Nat.le_refl _, fun _ e j hj => hold _ (h.jlt _ _ _ hj).2.2⟩
theorem Rel.room {B0 w0 E σ w} (h : Rel B0 w0 E σ w) {b : Nat} {B : Blk} {i : Inc} {news : List T} {us : List Value}
  (hb : σ.blk b = some B) (hi : E.J b B.ep = some i) (hu : VL E us news) (hcap : B.cells.length + news.length ≤ i.cap) :
  Env.Le E (E.bind b (B.ep + 1) ⟨i.g, (B.cells ++ news).length, i.cap, B.esz⟩) ∧
  Rel B0 w0 (E.bind b (B.ep + 1) ⟨i.g, (B.cells ++ news).length, i.cap, B.esz⟩) (σ.set b { B with cells := B.cells ++ news, ep := B.ep + 1, ver := B.ver + 1 }) (w.setCells i.g B.cells.length us) ∧
  Keep E σ w (σ.set b { B with cells := B.cells ++ news, ep := B.ep + 1, ver := B.ver + 1 }) (w.setCells i.g B.cells.length us) := by
 have hd := h.dom b B hb
 have hn : E.J b (B.ep + 1) = none := by
  cases hj : E.J b (B.ep + 1) with
  | none => rfl
  | some i => have := (h.jep _ _ _ _ hb hj).1; omega
 have hle := Env.Le.bind (i := ⟨i.g, (B.cells ++ news).length, i.cap, B.esz⟩) hn
 obtain ⟨arr, ty, fr, h1, h2, h3, h4, h5, h6, h7⟩ := h.form hb hi hd.2
 have h6 := h6 rfl
 have hul := hu.1
 obtain ⟨k1, k2, k3, k4, k5, k6⟩ := fH_ i.g us B.cells.length w arr h1 (by omega)
 refine ⟨hle, ?_⟩
 refine h.write (B' := { B with cells := B.cells ++ news, ep := B.ep + 1, ver := B.ver + 1 }) (i := i) (i' := ⟨i.g, (B.cells ++ news).length, i.cap, B.esz⟩) hb hi h1 ⟨k3, k4, k5, k6⟩ k1 k2 ?_ hle rfl ⟨rfl, rfl⟩ ?_ rfl rfl (.inr rfl) rfl rfl rfl (Nat.le_refl _) (by simp; omega) (by simp) (by simp [Env.bind]) rfl ?_
 ·intro a u ha hg
  have := (h.nof b B _ i a u hb hi ha hg).2
  simp only [List.getElem?_toArray]
  rw [List.append_assoc, List.getElem?_append_left (by simp; omega), List.getElem?_take_of_lt this, Array.getElem?_toList]
 ·intro b' e' j hj
  simp only [Env.bind] at hj
  split at hj
  ·rename_i hh; injection hj with hj; exact .inr ⟨hh.1, hh.2, hj.symm⟩
  ·exact .inl hj
 ·intro e j hlo hhi hj
  simp only [Env.bind] at hj
  split at hj
  ·injection hj with hj; subst hj
   refine ⟨Nat.le_refl _, _, ty, fr, k1, by simp; omega, by simp; omega, fun o ho' => h4 o (by simp at ho'; omega), ?_⟩
   rw [List.take_length]
   rw [h6, List.take_length] at h7
   have := h7.append hu
   have e : List.take (B.cells ++ news).length (List.take B.cells.length arr.toList ++ us ++ List.drop (B.cells.length + us.length) arr.toList) = List.take B.cells.length arr.toList ++ us := by
    have hlen : (B.cells ++ news).length = (List.take B.cells.length arr.toList ++ us).length := by simp; omega
    rw [hlen, List.take_append_of_le_length (Nat.le_refl _), List.take_length]
   simp only [List.toList_toArray]
   rw [e]
   exact this.mono hle
  ·rename_i hne
   obtain ⟨q1, q2⟩ := h.jep _ _ _ _ hb hj
   obtain ⟨arr', ty', fr', m1, m2, m3, m4, m5, m6, m7⟩ := h.form hb hj hlo
   refine ⟨by simp; omega, ?_⟩
   by_cases hg : j.g = i.g
   ·rw [hg, h1] at m1
    injection m1 with m1
    injection m1 with m1a m1b m1c
    subst m1a
    refine ⟨_, ty, fr, by rw [hg]; exact k1, by simp; omega, m3, fun o ho' => h4 o (by simp at ho'; omega), ?_⟩
    simp only [List.toList_toArray]
    rw [List.take_append_of_le_length m5, List.append_assoc, List.take_append_of_le_length (by simp; omega), List.take_take, Nat.min_eq_left m5]
    exact m7.mono hle
   ·refine ⟨arr', ty', fr', by rw [k2 _ hg]; exact m1, m2, m3, m4, ?_⟩
    rw [List.take_append_of_le_length m5]
    exact m7.mono hle
end Go.Am
end
section
set_option linter.unusedVariables false
set_option linter.unusedSimpArgs false
namespace Go.Am
open Go.RowKit
section
variable {P : Program}
theorem bq_ {t e : TypeId} (h : ao_ P t = some e) : P.underlying t = some (.slice e) := by
 unfold ao_ at h
 split at h
 ·injection h with h; subst h; assumption
 ·cases h
theorem cf_ {t : TypeId} (h : aD_ P t = 3) : P.underlying t = some .string := by
 unfold aD_ at h
 split at h <;> simp_all
theorem cg_ {t : TypeId} (h : aD_ P t = 4) : ∃ e, P.underlying t = some (.slice e) := by
 unfold aD_ at h
 split at h <;> simp_all
theorem jx_ {t : TypeId} (h : aD_ P t = 1) : P.underlying t = some .bool := by
 unfold aD_ at h
 split at h <;> simp_all
theorem j1_ {t : TypeId} (h : aD_ P t = 10) : P.underlying t = some (.int .u8) := by
 unfold aD_ at h
 split at h <;> simp_all
theorem dc_ {t : TypeId} (h : aD_ P t = 5) : ∃ e, P.underlying t = some (.pointer e) := by
 unfold aD_ at h
 split at h <;> simp_all
theorem ht_ {t : TypeId} (h : aD_ P t = 6) : ∃ a b c, P.underlying t = some (.func a b c) := by
 unfold aD_ at h
 split at h <;> simp_all
theorem pi_ {t : TypeId} (h : aD_ P t = 9) : ∃ a b, P.underlying t = some (.map a b) := by
 unfold aD_ at h
 split at h <;> simp_all
theorem hN_ {t : TypeId} (h : aD_ P t = 7) : ∃ fs, P.underlying t = some (.struct fs) := by
 unfold aD_ at h
 split at h <;> simp_all
theorem hG_ {t : TypeId} (h : cz_ P t = true) : ∃ k, P.underlying t = some (.int k) := by
 unfold cz_ aD_ at h
 split at h <;> simp_all
theorem lq_ {B0 w0 E σ w} (hR : Rel B0 w0 E σ w) {k : Option Nat} (hk : σ.okK k = true) {us : List Value} {news : List T} {z : Array Value} {m sz C : Nat} {e : TypeId} (hv : VL E us news) (hl : news.length = m * sz) (hz : z.size = sz) (hC : m ≤ C) :
  ∃ E', Env.Le E E' ∧ Rel B0 w0 E' (σ.pushK k (aH_ news sz)) (w.drew.alloc (.cells ((([] : List Value) ++ us).toArray ++ Builtin.zeroCells z (C - m)) e)) ∧ Keep E σ w (σ.pushK k (aH_ news sz)) (w.drew.alloc (.cells ((([] : List Value) ++ us).toArray ++ Builtin.zeroCells z (C - m)) e)) ∧
   V E' (.slice (some ⟨w.heap.size, 0, none⟩) m C) (.ref (σ.nid k) 0 0 m) := by
 have hlu := hv.1
 have hsz : ((([] : List Value) ++ us).toArray ++ Builtin.zeroCells z (C - m)).size = C * sz := by
  rw [Array.size_append, cQ_, hz]
  simp only [List.nil_append, List.size_toArray]
  rw [hlu, hl, ← Nat.add_mul, show m + (C - m) = C by omega]
 obtain ⟨E', h1, h2, h3, _, h5⟩ := fa_ hR.drew hk (arr := (([] : List Value) ++ us).toArray ++ Builtin.zeroCells z (C - m)) e (cells := news) sz
  (by rw [hsz, hl]; exact Nat.mul_le_mul_right _ hC) (by
   rw [← hlu]
   simp only [List.nil_append, Array.toList_append, List.toList_toArray]
   rw [List.take_append_of_le_length (Nat.le_refl _), List.take_length]
   exact hv)
 exact ⟨E', h1, h2, h3.drew', h5 m C (by rw [hl]) (by rw [hsz])⟩
theorem Rel.trunc {B0 w0 E σ w} (h : Rel B0 w0 E σ w) {b : Nat} {B : Blk} {i : Inc} {n : Nat} (hb : σ.blk b = some B) (hi : E.J b B.ep = some i) (hst : B.st = true) (hn : n ≤ B.cells.length) :
  Env.Le E (E.bind b (B.ep + 1) ⟨i.g, n, i.cap, i.esz⟩) ∧
  Rel B0 w0 (E.bind b (B.ep + 1) ⟨i.g, n, i.cap, i.esz⟩) (σ.set b { B with cells := B.cells.take n, ep := B.ep + 1, low := B.ep + 1, ver := B.ver + 1 }) w ∧
  Keep E σ w (σ.set b { B with cells := B.cells.take n, ep := B.ep + 1, low := B.ep + 1, ver := B.ver + 1 }) w := by
 have hd := h.dom b B hb
 have hnone : E.J b (B.ep + 1) = none := by
  cases hj : E.J b (B.ep + 1) with
  | none => rfl
  | some i => have := (h.jep _ _ _ _ hb hj).1; omega
 have hle := Env.Le.bind (i := ⟨i.g, n, i.cap, i.esz⟩) hnone
 obtain ⟨arr, ty, fr, h1, h2, h3, h4, h5, h6, h7⟩ := h.form hb hi hd.2
 have h6 := h6 rfl
 have hJ : ∀ b' e' j, (E.bind b (B.ep + 1) ⟨i.g, n, i.cap, i.esz⟩).J b' e' = some j → E.J b' e' = some j ∨ (b' = b ∧ e' = B.ep + 1 ∧ j = ⟨i.g, n, i.cap, i.esz⟩) := fun b' e' j hj => by
  simp only [Env.bind] at hj
  split at hj
  ·rename_i hh; injection hj with hj; exact .inr ⟨hh.1, hh.2, hj.symm⟩
  ·exact .inl hj
 have hg : ∀ b' e' j, (E.bind b (B.ep + 1) ⟨i.g, n, i.cap, i.esz⟩).J b' e' = some j → ∃ e0 j0, E.J b' e0 = some j0 ∧ j0.g = j.g := fun b' e' j hj => by
  rcases hJ _ _ _ hj with hj | ⟨rfl, rfl, rfl⟩
  ·exact ⟨_, _, hj, rfl⟩
  ·exact ⟨_, _, hi, rfl⟩
 have hself : (σ.set b { B with cells := B.cells.take n, ep := B.ep + 1, low := B.ep + 1, ver := B.ver + 1 }).blk b = some { B with cells := B.cells.take n, ep := B.ep + 1, low := B.ep + 1, ver := B.ver + 1 } := by simp [St.set]
 have hoth : ∀ b', b' ≠ b → (σ.set b { B with cells := B.cells.take n, ep := B.ep + 1, low := B.ep + 1, ver := B.ver + 1 }).blk b' = σ.blk b' := fun b' hb' => by simp [St.set, hb']
 refine ⟨hle, ?_, ⟨Nat.le_refl _, Nat.le_refl _, fun b' B1 hb1 => ?_⟩⟩
 ·refine ⟨h.bel, h.hB, fun a u ha => h.frz a u ha, fun b' e' j hj => ?_, fun b' e' j hj => ?_, fun b1 e1 j1 b2 e2 j2 hj1 hj2 hgg => ?_, fun b' B1 hb1 => ?_, fun b' B1 e' j hb1 hj => ?_, fun b' B1 e' hb1 hlo hhi => ?_, fun k p hk => ?_, h.unf, h.gd, fun b' B1 e' j a u hb1 hj ha hgg => ?_⟩
  ·rcases hJ _ _ _ hj with hj | ⟨rfl, rfl, rfl⟩
   ·exact h.jlt _ _ _ hj
   ·obtain ⟨q1, q2, q3⟩ := h.jlt _ _ _ hi; exact ⟨q1, q2, q3⟩
  ·by_cases hbb : b' = b
   ·subst hbb; exact ⟨_, hself⟩
   ·rw [hoth _ hbb]
    obtain ⟨e0, j0, hj0, _⟩ := hg _ _ _ hj
    exact h.jb _ _ _ hj0
  ·obtain ⟨e3, j3, hj3, hg3⟩ := hg _ _ _ hj1
   obtain ⟨e4, j4, hj4, hg4⟩ := hg _ _ _ hj2
   exact h.inj _ _ _ _ _ _ hj3 hj4 (by rw [hg3, hg4, hgg])
  ·by_cases hbb : b' = b
   ·subst hbb; rw [hself] at hb1; injection hb1 with hb1; subst hb1; exact ⟨hd.1, Nat.le_refl _⟩
   ·rw [hoth _ hbb] at hb1; exact h.dom _ _ hb1
  ·by_cases hbb : b' = b
   ·subst hbb; rw [hself] at hb1; injection hb1 with hb1; subst hb1
    rcases hJ _ _ _ hj with hj | ⟨_, rfl, rfl⟩
    ·obtain ⟨q1, q2⟩ := h.jep _ _ _ _ hb hj; exact ⟨Nat.le_succ_of_le q1, q2⟩
    ·exact ⟨Nat.le_refl _, (h.jep _ _ _ _ hb hi).2⟩
   ·rw [hoth _ hbb] at hb1
    rcases hJ _ _ _ hj with hj | ⟨h1, _⟩
    ·exact h.jep _ _ _ _ hb1 hj
    ·exact absurd h1 hbb
  ·by_cases hbb : b' = b
   ·subst hbb; rw [hself] at hb1; injection hb1 with hb1; subst hb1
    have he : e' = B.ep + 1 := by simp only at hlo hhi; omega
    subst he
    refine ⟨⟨i.g, n, i.cap, i.esz⟩, by simp [Env.bind], by simp; omega, fun _ => by simp; omega, arr, ty, fr, h1, h2, by simp only; omega, h4, ?_⟩
    have := (h7.mono hle).take n
    simpa [List.take_take, h6, Nat.min_eq_left hn] using this
   ·rw [hoth _ hbb] at hb1
    obtain ⟨j, k1, k2, k3, k4⟩ := h.blk _ _ _ hb1 hlo hhi
    exact ⟨j, hle.j _ _ _ k1, k2, k3, k4.mono hle⟩
  ·obtain ⟨h0, ⟨o, h1, h2⟩, h4⟩ := h.oth k p hk
   refine ⟨h0, ⟨o, h1, h2.mono hle⟩, fun b1 e j hj => ?_⟩
   obtain ⟨e0, j0, hj0, hg0⟩ := hg _ _ _ hj
   rw [← hg0]; exact h4 _ _ _ hj0
  ·obtain ⟨e0, j0, hj0, hg0⟩ := hg _ _ _ hj
   by_cases hbb : b' = b
   ·subst hbb
    have := (h.nof _ _ _ _ _ _ hb hj0 ha (by rw [hgg, hg0])).1
    rw [hst] at this; cases this
   ·rw [hoth _ hbb] at hb1
    exact h.nof _ _ _ _ _ _ hb1 hj0 ha (by rw [hgg, hg0])
 ·by_cases hbb : b' = b
  ·subst hbb; rw [hb] at hb1; injection hb1 with hb1; subst hb1
   exact ⟨_, hself, Nat.le_succ _, fun hv => by simp only at hv; omega⟩
  ·exact ⟨B1, by rw [hoth _ hbb]; exact hb1, Nat.le_refl _, fun _ _ _ _ => rfl⟩
theorem fC_ {E : Env} {z : Array Value} {zt : List T} (h : VL E z.toList zt) (n : Nat) : VL E ((Array.range (n * z.size)).map (z[· % z.size]!)).toList ((List.replicate n zt).flatten) := by
 have hl : z.size = zt.length := by have := h.1; simpa using this
 induction n with
 | zero => simpa using VL.nil E
 | succ n ih =>
  have e : ((Array.range ((n + 1) * z.size)).map (z[· % z.size]!)).toList = ((Array.range (n * z.size)).map (z[· % z.size]!)).toList ++ z.toList := by
   simp only [Array.toList_map, Array.toList_range]
   rw [Nat.add_mul, Nat.one_mul, List.range_add, List.map_append, List.map_map]
   congr 1
   apply List.ext_getElem
   ·simp
   ·intro k h1 h2
    simp at h1 h2
    simp [Nat.mod_eq_of_lt h2, getElem!_pos, h2]
  rw [e, List.replicate_succ', List.flatten_append]
  simpa using ih.append h
theorem hV_ (w : World) (t tx ty e : TypeId) (i : TypeInfo) (z : Value) (ht : P.underlying t = some (.slice e)) (hi : P.info? e = some i) (hz : i.zero = some z) (kk kx : IntKind) (l : Int) (hk : P.underlying tx = some (.int kk)) (hl : 0 < l) (hb : l * i.bytes ≤ 2 ^ 40) (hby : 0 < i.bytes) (hby2 : i.bytes ≤ 1048576) (hsz : i.size ≠ 0) :
  (Builtin.append_ #[t, tx] ty #[.slice none 0 0, .int kx l]).run P w =
   .ok (.slice (some ⟨w.heap.size, 0, none⟩) l.toNat (grownCap w l.toNat 0 e))
    (w.drew.alloc (.cells (Builtin.zeroCells z.cells l.toNat ++ Builtin.zeroCells z.cells (grownCap w l.toNat 0 e - l.toNat)) e)) := by
 have hl40 : l ≤ 2 ^ 40 := Int.le_trans (by have := Int.mul_le_mul_of_nonneg_left (show (1 : Int) ≤ i.bytes by omega) (show (0 : Int) ≤ l by omega); simpa using this) hb
 have wr : w4 l = l := by simp [w4, IntKind.wrap, IntKind.bits, IntKind.signed]; omega
 have n1 : ¬ l < 0 := by omega
 have n2 : ¬ (l * (i.bytes : Int) > 2 ^ 48) := by omega
 have n3 : ¬ (0 + l.toNat ≤ 0) := by omega
 have n4 : ¬ (((0 + l.toNat : Nat) : Int) > 9223372036854775807) := by omega
 have hfit : Builtin.nextslicecap (0 + l.toNat) 0 * i.bytes ≤ 281474976710656 := jO_ (by omega) (by
  have e1 : ((l.toNat : Nat) : Int) = l := by omega
  have : (((0 + l.toNat) * i.bytes : Nat) : Int) ≤ 2 ^ 40 := by rw [Nat.zero_add, Int.natCast_mul, e1]; exact hb
  omega) (by omega)
 have n5 : ¬ (Builtin.nextslicecap (0 + l.toNat) 0 * i.bytes > 2 ^ 48) := by omega
 have n6 : ¬ l.toNat * i.size = 0 := fun h => by rcases Nat.mul_eq_zero.1 h with h | h <;> omega
 rw [Nat.zero_add] at n3 n4 n5
 have n7 : ¬ (9223372036854775807 < l) := by omega
 have n8 : ¬ l ≤ 0 := by omega
 have n9 : ¬ (9223372036854775807 < max l 0) := by omega
 have n10 : ¬ (281474976710656 < l * (i.bytes : Int)) := by omega
 have n11 : ¬ (281474976710656 < Builtin.nextslicecap l.toNat 0 * i.bytes) := by omega
 simp [Builtin.append_, run_underlying ht, run_underlying hk, sizeOf, typeInfo, zeroValue, hi, hz, asInt, asIntOf, wr, n1, n3, n6, n7, n8, n9, n10, n11, hsz, Question.forced, newRow, grownCap, Builtin.firstCells]
theorem no_ {B0 w0 E σ w} (hR : Rel B0 w0 E σ w) {t t2 ty e : TypeId} {k : Option Nat} {s x r : T} {v u : Value} {σ' : St} {sz by_ : Nat} {z0 : List T} (hs : V E v s) (hx : V E u x) (he : ao_ P t = some e) (hsz : szOf P e = some sz) (hby : cu_ P e = some by_) (hz0 : aT_ P e = some z0)
  (hi2 : cz_ P t2 = true) (hzs : ¬ (z0.length ≠ sz ∨ sz = 0 ∨ by_ = 0 ∨ by_ > 1048576)) (h : appZ k σ sz by_ z0 s x = some (r, σ')) :
  dQ_ P B0 w0 E σ w (Builtin.append_ #[t, t2] ty #[v, u]) r σ' := by
 unfold appZ at h
 split at h
 ·split at h
  ·rename_i kx l hc
   injection h with h; injection h with h1 h2; subst h1; subst h2
   cases hx
   cases hs
   obtain ⟨i, z, hi, hz, hzv⟩ := dE_ hz0 E
   obtain ⟨i', hi', hszi⟩ := Option.map_eq_some_iff.1 hsz
   rw [hi] at hi'; injection hi' with hi'; subst hi'
   obtain ⟨i', hi', hbyi⟩ := Option.map_eq_some_iff.1 hby
   rw [hi] at hi'; injection hi' with hi'; subst hi'
   have hz1 : z0.length = sz := Decidable.byContradiction fun hh => hzs (.inl hh)
   have hzsz : z.cells.size = sz := by have := hzv.1; simp at this; omega
   obtain ⟨kk, hkk⟩ := hG_ hi2
   have hrun := hV_ (P := P) w t t2 ty e i z (bq_ he) hi hz kk kx l hkk hc.1 (by rw [hbyi]; exact hc.2.1) (by rw [hbyi]; exact Nat.pos_of_ne_zero fun hh => hzs (.inr (.inr (.inl hh)))) (by rw [hbyi]; exact Nat.le_of_not_lt fun hh => hzs (.inr (.inr (.inr hh)))) (by rw [hszi]; exact fun hh => hzs (.inr (.inl hh)))
   have hge := ek_ w l.toNat 0 e
   have hfz := fC_ hzv l.toNat
   have hl : ((List.replicate l.toNat z0).flatten).length = l.toNat * sz := by simp [hz1]
   have hus : (Builtin.zeroCells z.cells l.toNat).size = l.toNat * sz := by rw [cQ_, hzsz]
   have harr : (Builtin.zeroCells z.cells l.toNat ++ Builtin.zeroCells z.cells (grownCap w l.toNat 0 e - l.toNat)).size = grownCap w l.toNat 0 e * sz := by
    rw [Array.size_append, cQ_, cQ_, hzsz, ← Nat.add_mul, show l.toNat + (grownCap w l.toNat 0 e - l.toNat) = grownCap w l.toNat 0 e by omega]
   obtain ⟨E', k1, k2, k3, _, k5⟩ := fa_ hR.drew hc.2.2 (arr := Builtin.zeroCells z.cells l.toNat ++ Builtin.zeroCells z.cells (grownCap w l.toNat 0 e - l.toNat)) e (cells := (List.replicate l.toNat z0).flatten) sz
    (by rw [harr, hl]; exact Nat.mul_le_mul_right _ hge) (by
     rw [hl, ← hus, Array.toList_append, ← Array.length_toList, List.take_left]
     exact hfz)
   exact ⟨E', _, _, k1, hrun, k2, k5 l.toNat _ (by rw [hl]) (by rw [harr]), k3.drew'⟩
  ·cases h
 ·cases h
theorem jw_ {B0 w0 E σ w} (hR : Rel B0 w0 E σ w) {t t2 ty e : TypeId} {b : Nat} {B : Blk} {inc : Inc} {a : Addr} {n c m sz by_ : Nat} {u : Value} {us : List Value} {news : List T} {i : TypeInfo} {z : Value}
  (hb : σ.blk b = some B) (hJ : E.J b B.ep = some inc) (hcl : B.cells.length = n * sz) (hBe : B.esz = sz) (hus : VL E us news) (hnews : news.length = m * sz) (hz2 : sz ≠ 0)
  (ha : (a = ⟨inc.g, 0, none⟩ ∧ 0 + c * sz = inc.cap) ∨ (n = 0 ∧ c = 0)) (hsrc : Src P sz t2 u m us w) (hm : ¬ m = 0) (ht : P.underlying t = some (.slice e)) (hi : P.info? e = some i) (hszi : i.size = sz) (hz : i.zero = some z) (hzsz : z.cells.size = sz) (hbyi : i.bytes = by_)
  (hz3 : ¬ by_ > 1048576) (hby0 : by_ ≠ 0) (hmb : (n + m) * by_ ≤ 2 ^ 40) :
  dQ_ P B0 w0 E σ w (Builtin.append_ #[t, t2] ty #[.slice (some a) n c, u]) (.ref b (B.ep + 1) 0 (n + m)) (σ.set b { B with cells := B.cells ++ news, ep := B.ep + 1, ver := B.ver + 1 }) := by
 obtain ⟨hep, hesz⟩ := hR.jep _ _ _ _ hb hJ
 rw [← hszi] at hsrc
 have hrefl : True := trivial
 obtain ⟨arr, aty, fr, f1, f2, f3, f4, f5, f6, f7⟩ := hR.form hb hJ (hR.dom b B hb).2
 have f6 := f6 rfl
 have hlen : 0 + n * sz ≤ inc.len := by omega
 by_cases hroom : n + m ≤ c
 ·have ha' : a = ⟨inc.g, 0, none⟩ ∧ 0 + c * sz = inc.cap := by
   rcases ha with ha | ⟨_, h0⟩
   ·exact ha
   ·omega
  obtain ⟨rfl, hcap⟩ := ha'
  have hle := Nat.mul_le_mul_right sz hroom
  rw [Nat.add_mul] at hle
  obtain ⟨r1, r2, r3⟩ := hR.room hb hJ hus (by omega)
  have hone' := hsrc.one
  have hrun := run_append_room_src (P := P) w t t2 ty e i ht hi inc.g 0 n c u m us hsrc hroom (fun j hj => by
    rw [hszi]
    have := hus.1
    simp only [World.cell?, f1]; simp; omega) (fun j hj => by
    rw [hszi]
    have := hus.1
    have := f4 (0 + n * sz + j) (by omega)
    simp only [World.frozen?, f1]; simp at this ⊢; omega)
  rw [hszi, Nat.zero_add, ← hcl] at hrun
  refine ⟨_, _, _, r1, hrun, r2, ?_, r3⟩
  refine V.ref (i := ⟨inc.g, (B.cells ++ news).length, inc.cap, B.esz⟩) (by simp [Env.bind]) ?_ (.inl ⟨rfl, by rw [hBe]; exact hcap⟩)
  simp only [List.length_append, hBe, hcl, hnews, Nat.add_mul]; omega
 ·have hgt : c < n + m := by omega
  have holds : (Builtin.firstCells i.size n (.slice (some a) n c)).run P w.drew = .ok ((arr.toList.take (n * sz)).toArray) w.drew := by
   rcases ha with ⟨rfl, _⟩ | ⟨rfl, _⟩
   ·refine run_firstCells_some (P := P) w.drew i.size n _ n c _ (by simp; rw [hszi]; omega) (fun j u hu => ?_)
    rw [jt_]
    rw [List.getElem?_take] at hu
    split at hu
    ·rw [Array.getElem?_toList] at hu
     show World.cell? w _ = _
     simp only [World.cell?, f1]; simpa using hu
    ·cases hu
   ·simp [Builtin.firstCells, loadCells, loadCellsFrom]
  have hrun := run_append_grow_src (P := P) w t t2 ty e i z ht hi hz (some a) n c _ holds u m us hsrc hgt (by
   have := Nat.le_mul_of_pos_right (n + m) (show 0 < by_ by omega); omega) (by rw [hbyi]; exact jO_ hgt hmb hz3)
  have hge := ek_ w (n + m) c e
  have hasz : ((arr.toList.take (n * sz) ++ us).toArray ++ Builtin.zeroCells z.cells (grownCap w (n + m) c e - (n + m))).size = grownCap w (n + m) c e * sz := by
   have := hus.1
   rw [Array.size_append, cQ_, hzsz]
   simp only [List.size_toArray, List.length_append, List.length_take, Array.length_toList]
   rw [Nat.min_eq_left (by omega), this, hnews, ← Nat.add_mul, ← Nat.add_mul, show n + m + (grownCap w (n + m) c e - (n + m)) = grownCap w (n + m) c e by omega]
  have hbl : (B.cells ++ news).length = (n + m) * sz := by rw [List.length_append, hcl, hnews, Nat.add_mul]
  have h7 : VL E (arr.toList.take (n * sz)) B.cells := by
   rw [f6, hcl] at f7
   rw [show List.take (n * sz) B.cells = B.cells by rw [← hcl, List.take_length]] at f7
   exact f7
  obtain ⟨r1, r2, r3⟩ := hR.drew.grow (news := news) (ty := e) hb (by rw [hasz, hbl]; exact Nat.mul_le_mul_right _ hge) (by
   have hv2 := h7.append hus
   rw [← hv2.1]
   simp only [Array.toList_append, List.toList_toArray]
   rw [List.take_append_of_le_length (Nat.le_refl _), List.take_length]
   exact hv2)
  refine ⟨_, _, _, r1, hrun, r2, ?_, r3.drew'⟩
  have key : ∀ (I : Inc), I.g = w.heap.size → I.len = (n + m) * sz → I.esz = sz → I.cap = grownCap w (n + m) c e * sz → V (E.bind b (B.ep + 1) I) (.slice (some ⟨w.heap.size, 0, none⟩) (n + m) (grownCap w (n + m) c e)) (.ref b (B.ep + 1) 0 (n + m)) := fun I q1 q2 q3 q4 =>
   V.ref (i := I) (by simp [Env.bind]) (by rw [q2, q3]; omega) (.inl ⟨by rw [q1], by rw [q3, q4]; omega⟩)
  exact key _ rfl hbl hBe hasz
theorem j9_ {B0 w0 E σ w} (hR : Rel B0 w0 E σ w) {t t2 ty : TypeId} {k : Option Nat} {s x r : T} {v u : Value} {σ' : St} (hs : V E v s) (hx : V E u x) (h : bh_ P k σ t t2 s x = some (r, σ')) :
  dQ_ P B0 w0 E σ w (Builtin.append_ #[t, t2] ty #[v, u]) r σ' := by
 unfold bh_ at h
 obtain ⟨e, he, q1⟩ := Option.bind_eq_some_iff.1 h
 obtain ⟨sz, hsz, q2⟩ := Option.bind_eq_some_iff.1 q1
 obtain ⟨by_, hby, q3⟩ := Option.bind_eq_some_iff.1 q2
 obtain ⟨z0, hz0, q4⟩ := Option.bind_eq_some_iff.1 q3
 clear h q1 q2 q3
 split at q4
 ·rename_i hi2
  split at q4
  ·cases q4
  ·rename_i hzs
   exact no_ hR hs hx he hsz hby hz0 hi2 hzs q4
 split at q4
 ·cases q4
 rename_i hzs
 have hz1 : z0.length = sz := Decidable.byContradiction fun hh => hzs (.inl hh)
 have hz2 : sz ≠ 0 := fun hh => hzs (.inr (.inl hh))
 have hby0 : by_ ≠ 0 := fun hh => hzs (.inr (.inr (.inl hh)))
 have hz3 : ¬ by_ > 1048576 := fun hh => hzs (.inr (.inr (.inr hh)))
 obtain ⟨⟨m, news⟩, hn, h⟩ := Option.bind_eq_some_iff.1 q4
 clear q4
 simp only at h
 split at h
 ·cases h
 rename_i hkk
 have hone : news.all T.one = true := by
  cases hx : news.all T.one with
  | true => rfl
  | false => exact absurd (.inl hx) hkk
 have hsok : e8_ P t2 x = true := by
  cases hx : e8_ P t2 x with
  | true => rfl
  | false => exact absurd (.inr hx) hkk
 have hkind : (∀ q, x = .str q → P.underlying t2 = some .string) ∧ (∀ a n c, u = .slice a n c → ∃ e', P.underlying t2 = some (.slice e')) := by
  constructor
  ·rintro q rfl
   simp [e8_, T.isStr] at hsok
   exact cf_ hsok
  ·rintro a n c rfl
   cases hx <;> simp [e8_, T.isStr] at hsok <;> exact cg_ hsok
 obtain ⟨hk, hk2⟩ := hkind
 have ht := bq_ he
 obtain ⟨i, hi, hszi⟩ := Option.map_eq_some_iff.1 hsz
 obtain ⟨i', hi', hbyi⟩ := Option.map_eq_some_iff.1 hby
 rw [hi] at hi'; injection hi' with hi'; subst hi'
 obtain ⟨i', z, hi', hz, hzv⟩ := dE_ hz0 E
 rw [hi] at hi'; injection hi' with hi'; subst hi'
 have hzsz : z.cells.size = sz := by have := hzv.1; simp at this; omega
 obtain ⟨us, hsrc, hus, hnl⟩ := lN_ (P := P) hR (tx := t2) hx hn hk hk2 hone
 rw [← hszi] at hsrc
 have nothing : m = 0 → ∀ (a : Option Addr) (n c : Nat), n ≤ c → v = .slice a n c → (Builtin.append_ #[t, t2] ty #[v, u]).run P w = .ok v w := fun hm a n c hnc hv => by
  subst hm
  have hus0 : us = [] := by have := hus.1; rw [hnl] at this; simp at this; exact this
  subst hus0; subst hv
  exact run_append_nothing w t t2 ty e i ht hi a n c hnc u hsrc
 have fresh : ∀ (a : Option Addr), m ≠ 0 → m * by_ ≤ 2 ^ 40 ∧ σ.okK k = true → v = .slice a 0 0 → dQ_ P B0 w0 E σ w (Builtin.append_ #[t, t2] ty #[v, u]) (.ref (σ.nid k) 0 0 m) (σ.pushK k (aH_ news sz)) := fun a hm hmb hv => by
  subst hv
  obtain ⟨hmb, hkk'⟩ := hmb
  obtain ⟨E', h1, h2, h3, h4⟩ := lq_ (z := z.cells) (e := e) hR hkk' hus hnl hzsz (ek_ w m 0 e)
  have hfc : (Builtin.firstCells i.size 0 (.slice a 0 0)).run P w.drew = .ok (([] : List Value).toArray) w.drew := by
   cases a with
   | none => simp [Builtin.firstCells]
   | some a => simp [Builtin.firstCells, loadCells, loadCellsFrom]
  have hfit : Builtin.nextslicecap (0 + m) 0 * i.bytes ≤ 281474976710656 := by rw [hbyi, Nat.zero_add]; exact jO_ (by omega) hmb hz3
  have hrun := run_append_grow_src (P := P) w t t2 ty e i z ht hi hz a 0 0 [] hfc u m us hsrc (by omega) (by
   have := Nat.le_mul_of_pos_right m (show 0 < by_ by omega); omega) hfit
  simp only [Nat.zero_add] at hrun
  exact ⟨E', _, _, h1, hrun, h2, h4, h3⟩
 split at h
 ·split at h
  ·rename_i hm
   injection h with h; injection h with h1 h2; subst h1; subst h2
   cases hs
   exact dQ_.pure hR (nothing hm none 0 0 (Nat.le_refl _) rfl) .rown
  ·rename_i hm
   split at h
   ·rename_i hmb
    injection h with h; injection h with h1 h2; subst h1; subst h2
    cases hs
    exact fresh none hm hmb rfl
   ·cases h
 ·split at h
  ·rename_i hm
   injection h with h; injection h with h1 h2; subst h1; subst h2
   cases hs
   exact dQ_.pure hR (nothing hm _ 0 0 (Nat.le_refl _) rfl) .emp
  ·rename_i hm
   split at h
   ·rename_i hmb
    injection h with h; injection h with h1 h2; subst h1; subst h2
    cases hs
    exact fresh _ hm hmb rfl
   ·cases h
 ·split at h
  ·rename_i hm
   injection h with h; injection h with h1 h2; subst h1; subst h2
   have hs' := hs
   rcases V.row_iff.1 hs with ⟨h0, _⟩ | ⟨_, a, c, vs, rfl, hnc, _⟩
   ·cases h0
   ·exact dQ_.pure hR (nothing hm _ _ c hnc rfl) hs'
  ·cases h
 ·rename_i b ep off n
  obtain ⟨B, hb, h'⟩ := Option.bind_eq_some_iff.1 h
  clear h
  have h := h'
  clear h'
  have hs' := hs
  cases hs with
  | ref hJ hlen ha =>
   rename_i c inc a
   obtain ⟨hep, hesz⟩ := hR.jep _ _ _ _ hb hJ
   split at h
   ·rename_i hm
    split at h
    ·rename_i hBl
     injection h with h; injection h with h1 h2; subst h1; subst h2
     obtain ⟨arr, aty, fr, f1, f2, f3, f4, f5, f6, f7⟩ := hR.form hb hJ hBl.2
     have hnc : n ≤ c := by
      rcases ha with ⟨_, hcap⟩ | ⟨h0, _⟩
      ·rw [hesz, hBl.1] at hlen hcap
       have h3 : n * sz ≤ c * sz := by omega
       exact Nat.le_of_mul_le_mul_right h3 (by omega)
      ·omega
     exact dQ_.pure hR (nothing hm _ _ c hnc rfl) hs'
    ·cases h
   ·rename_i hm
    split at h
    ·rename_i hc
     obtain ⟨rfl, rfl, hBe, hcl, hmb⟩ := hc
     injection h with h; injection h with h1 h2; subst h1; subst h2
     rw [hesz, hBe] at ha
     exact jw_ hR hb hJ hcl hBe hus hnl hz2 ha (hszi ▸ hsrc) hm ht hi hszi hz hzsz hbyi hz3 hby0 hmb
    ·split at h
     ·rename_i hc
      obtain ⟨rfl, rfl, hBe, hcl, hst, hmb⟩ := hc
      injection h with h; injection h with h1 h2; subst h1; subst h2
      obtain ⟨g1, g2, g3⟩ := hR.trunc hb hJ hst hcl
      obtain ⟨B1, hB1⟩ : ∃ B1 : Blk, B1 = { B with cells := B.cells.take (n * sz), ep := B.ep + 1, low := B.ep + 1, ver := B.ver + 1 } := ⟨_, rfl⟩
      rw [← hB1] at g2 g3
      have hb1 : (σ.set b B1).blk b = some B1 := by simp [St.set]
      have hbe : B1.ep = B.ep + 1 := by rw [hB1]
      have hJ1 : (E.bind b (B.ep + 1) ⟨inc.g, n * sz, inc.cap, inc.esz⟩).J b B1.ep = some ⟨inc.g, n * sz, inc.cap, inc.esz⟩ := by simp [Env.bind, hbe]
      have hcl1 : B1.cells.length = n * sz := by rw [hB1]; simp; omega
      have hset : ∀ B2, (σ.set b B1).set b B2 = σ.set b B2 := fun B2 => by
       unfold St.set; congr 1; funext j; simp only; split <;> rfl
      have hfin : ∀ C, C = { B1 with cells := B1.cells ++ news, ep := B1.ep + 1, ver := B1.ver + 1 } → C = { B with cells := B.cells.take (n * sz) ++ news, ep := B.ep + 2, low := B.ep + 1, ver := B.ver + 2 } := fun C h => by rw [h, hB1]
      have hBe1 : B1.esz = sz := by rw [hB1]; exact hBe
      have hfe := hfin _ rfl
      have hes : (⟨inc.g, n * sz, inc.cap, inc.esz⟩ : Inc).esz = sz := by show inc.esz = sz; rw [hesz, hBe]
      have huse : ∀ {r : T} {Z : Blk}, Z = { B with cells := B.cells.take (n * sz) ++ news, ep := B.ep + 2, low := B.ep + 1, ver := B.ver + 2 } → dQ_ P B0 w0 (E.bind b (B.ep + 1) ⟨inc.g, n * sz, inc.cap, inc.esz⟩) (σ.set b B1) w (Builtin.append_ #[t, t2] ty #[.slice (some a) n c, u]) r ((σ.set b B1).set b Z) → dQ_ P B0 w0 E σ w (Builtin.append_ #[t, t2] ty #[.slice (some a) n c, u]) r (σ.set b { B with cells := B.cells.take (n * sz) ++ news, ep := B.ep + 2, low := B.ep + 1, ver := B.ver + 2 }) := fun {r Z} hZ hq => by
       rw [hset, hZ] at hq
       obtain ⟨E', v', w', p1, p2, p3, p4, p5⟩ := hq
       exact ⟨E', v', w', g1.trans p1, p2, p3, p4, g3.trans g1 p5⟩
      have q := jw_ (sz := sz) (ty := ty) g2 hb1 hJ1 hcl1 hBe1 (hus.mono g1) hnl hz2 (by rw [hesz, hBe] at ha; exact ha) (hszi ▸ hsrc) hm ht hi hszi hz hzsz hbyi hz3 hby0 hmb
      rw [show T.ref b (B1.ep + 1) 0 (n + m) = T.ref b (B.ep + 2) 0 (n + m) by rw [hbe]] at q
      exact huse hfe q
     ·cases h
 ·cases h
end
end Go.Am
end
