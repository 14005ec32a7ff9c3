/- The data. -/
import Derived.Test.YtkgmfmcpbgffpaaAm6
import Derived.Test.YtkgmfmcpbgffpaaProg
section
set_option maxRecDepth 100000
set_option linter.unusedVariables false
set_option linter.unusedSimpArgs false
namespace Go.Am
open Go.Proofs
structure DPattern where
 Kind : Int
 Num : Int
 Text : ByteArray
 Kids : (Sl DPattern)
mutual
def DPattern.cells : DPattern → List T
 | ⟨f0, f1, f2, ⟨z3, l3⟩⟩ => [i4 f0, i4 f1, .str f2, .row z3 l3.length (DPattern.cellsK l3)]
def DPattern.cellsK : List DPattern → List T
 | [] => []
 | p :: l => p.cells ++ DPattern.cellsK l
end
theorem DPattern.len (p : DPattern) : p.cells.length = 4 := by
 obtain ⟨f0, f1, f2, ⟨z3, l3⟩⟩ := p; simp [DPattern.cells]
theorem DPattern.one (p : DPattern) : p.cells.all T.one = true := by
 obtain ⟨f0, f1, f2, ⟨z3, l3⟩⟩ := p; simp [DPattern.cells]
mutual
theorem DPattern.pure : ∀ p : DPattern, pureL p.cells = true
 | ⟨f0, f1, f2, ⟨z3, l3⟩⟩ => by simp [DPattern.cells, pureL, pureT, DPattern.pureK l3]
theorem DPattern.pureK : ∀ l : List DPattern, pureL (DPattern.cellsK l) = true
 | [] => by simp [DPattern.cellsK, pureL]
 | p :: l => by simp [DPattern.cellsK, pureL_append, p.pure, DPattern.pureK l]
end
mutual
theorem DPattern.inj : ∀ p q : DPattern, p.cells = q.cells → p = q
 | ⟨f0, f1, f2, ⟨z3, l3⟩⟩, ⟨f0', f1', f2', ⟨z3', l3'⟩⟩, h => by
  simp only [DPattern.cells, List.cons.injEq, and_true, T.int.injEq, T.str.injEq, T.bool.injEq, T.row.injEq, true_and, Sl.inj_iff] at h
  have hk : l3 = l3' := DPattern.injK l3 l3' (by simp_all) (by simp_all)
  simp_all
theorem DPattern.injK : ∀ l l' : List DPattern, l.length = l'.length → DPattern.cellsK l = DPattern.cellsK l' → l = l'
 | [], [], _, _ => rfl
 | [], _ :: _, h, _ => by simp at h
 | _ :: _, [], h, _ => by simp at h
 | p :: l, p' :: l', h, k => by
  simp only [DPattern.cellsK] at k
  have e := List.append_inj k (by rw [DPattern.len, DPattern.len])
  rw [DPattern.inj p p' e.1, DPattern.injK l l' (by simpa using h) e.2]
end
instance : Enc DPattern := ⟨DPattern.cells, 4, DPattern.len, DPattern.one, DPattern.pure, DPattern.inj⟩
theorem DPattern.cellsK_eq : ∀ l : List DPattern, DPattern.cellsK l = ab_ l
 | [] => rfl
 | p :: l => by simp only [DPattern.cellsK, ab_, DPattern.cellsK_eq l]; rfl
theorem DPattern.cells_eq (p : DPattern) : p.cells = [i4 p.Kind, i4 p.Num, .str p.Text, p.Kids.t] := by
 obtain ⟨f0, f1, f2, ⟨z3, l3⟩⟩ := p; simp only [DPattern.cells, DPattern.cellsK_eq]; rfl
theorem DPattern.enc_eq (p : DPattern) : Enc.cells p = [i4 p.Kind, i4 p.Num, .str p.Text, p.Kids.t] := DPattern.cells_eq p
instance : Lit DPattern := ⟨fun p => [i4 p.Kind, i4 p.Num, .str p.Text, p.Kids.t], fun p => DPattern.cells_eq p⟩
instance : Hld false DPattern := ⟨fun a σ d => by show frzL (hold false σ d) (DPattern.cells a) = some (DPattern.cells a, []); rw [DPattern.cells_eq]; simp [frzL]⟩
theorem DPattern.inj_agg : ∀ p q : DPattern, T.agg [i4 p.Kind, i4 p.Num, .str p.Text, p.Kids.t] = T.agg [i4 q.Kind, i4 q.Num, .str q.Text, q.Kids.t] → p = q := fun p q h => DPattern.inj p q (by injection h with h; rw [DPattern.cells_eq, DPattern.cells_eq]; exact h)
structure cY_ where
 Name : ByteArray
 Pattern : DPattern
def cY_.cells (x : cY_) : List T := [.str x.Name, i4 x.Pattern.Kind, i4 x.Pattern.Num, .str x.Pattern.Text, x.Pattern.Kids.t]
instance : Enc cY_ := ⟨cY_.cells, 5, fun _ => rfl, fun _ => rfl, fun x => by simp [cY_.cells, pureL, pureT], fun a b h => by
 rcases a with ⟨_, ⟨_, _, _, _⟩⟩; rcases b with ⟨_, ⟨_, _, _, _⟩⟩; simp [cY_.cells] at h; simp_all⟩
instance : Lit cY_ := ⟨fun x => [.str x.Name, i4 x.Pattern.Kind, i4 x.Pattern.Num, .str x.Pattern.Text, x.Pattern.Kids.t], fun _ => rfl⟩
instance : Hld false cY_ := ⟨fun a σ d => by show frzL (hold false σ d) (cY_.cells a) = some (cY_.cells a, []); simp [cY_.cells, frzL]⟩
structure ce_ where
 code_ : (Sl (Iv .u8))
 at_ : Int
 seed_ : Int
def ce_.cells (x : ce_) : List T := [x.code_.t, i4 x.at_, .int .u64 x.seed_]
instance : Enc ce_ := ⟨ce_.cells, 3, fun _ => rfl, fun _ => rfl, fun x => by simp [ce_.cells, pureL, pureT], fun a b h => by
 rcases a with ⟨_, _, _⟩; rcases b with ⟨_, _, _⟩; simp [ce_.cells] at h; simp_all⟩
instance : Lit ce_ := ⟨fun x => [x.code_.t, i4 x.at_, .int .u64 x.seed_], fun _ => rfl⟩
instance : Hld false ce_ := ⟨fun a σ d => by show frzL (hold false σ d) (ce_.cells a) = some (ce_.cells a, []); simp [ce_.cells, frzL]⟩
structure aV_ where
 Name : ByteArray
 Text : ByteArray
 Cursor : Int
 Kind : Int
def aV_.cells (x : aV_) : List T := [.str x.Name, .str x.Text, i4 x.Cursor, i4 x.Kind]
instance : Enc aV_ := ⟨aV_.cells, 4, fun _ => rfl, fun _ => rfl, fun x => by simp [aV_.cells, pureL, pureT], fun a b h => by
 rcases a with ⟨_, _, _, _⟩; rcases b with ⟨_, _, _, _⟩; simp [aV_.cells] at h; simp_all⟩
instance : Lit aV_ := ⟨fun x => [.str x.Name, .str x.Text, i4 x.Cursor, i4 x.Kind], fun _ => rfl⟩
instance (z : Bool) : Hld z aV_ := ⟨fun a σ d => by show frzL (hold z σ d) (aV_.cells a) = some (aV_.cells a, []); simp [aV_.cells, frzL]⟩
structure cT_ where
 Start : Int
 End : Int
 Captures : (Sl aV_)
def cT_.cells (x : cT_) : List T := [i4 x.Start, i4 x.End, x.Captures.t]
instance : Enc cT_ := ⟨cT_.cells, 3, fun _ => rfl, fun _ => rfl, fun x => by simp [cT_.cells, pureL, pureT], fun a b h => by
 rcases a with ⟨_, _, _⟩; rcases b with ⟨_, _, _⟩; simp [cT_.cells] at h; simp_all⟩
instance : Lit cT_ := ⟨fun x => [i4 x.Start, i4 x.End, x.Captures.t], fun _ => rfl⟩
instance : Hld false cT_ := ⟨fun a σ d => by show frzL (hold false σ d) (cT_.cells a) = some (cT_.cells a, []); simp [cT_.cells, frzL]⟩
structure jE_ where
 env_ : (Sl cY_)
 subject_ : ByteArray
 fuel_ : Int
 steps_ : Int
 start_ : Int
 now_ : (Sl aV_)
 conds_ : (Sl aV_)
 matches_ : (Sl cT_)
 most_ : Int
 isMere_ : Bool
 counts_ : T
 code_ : Int
def jE_.cells (x : jE_) : List T := [x.env_.t, .str x.subject_, i4 x.fuel_, i4 x.steps_, i4 x.start_, x.now_.t, x.conds_.t, x.matches_.t, i4 x.most_, .bool x.isMere_, x.counts_, i4 x.code_]
structure iF_ where
 addr_ : T
 buf_ : (Sl (Iv .u8))
def iF_.cells (x : iF_) : List T := [x.addr_, x.buf_.t]
structure bn_ where
 p_ : DPattern
 c_ : Int
 next_ : Int
def bn_.cells (x : bn_) : List T := [i4 x.p_.Kind, i4 x.p_.Num, .str x.p_.Text, x.p_.Kids.t, i4 x.c_, i4 x.next_]
instance : Enc bn_ := ⟨bn_.cells, 6, fun _ => rfl, fun _ => rfl, fun x => by simp [bn_.cells, pureL, pureT], fun a b h => by
 rcases a with ⟨⟨_, _, _, _⟩, _, _⟩; rcases b with ⟨⟨_, _, _, _⟩, _, _⟩; simp [bn_.cells] at h; simp_all⟩
instance : Lit bn_ := ⟨fun x => [i4 x.p_.Kind, i4 x.p_.Num, .str x.p_.Text, x.p_.Kids.t, i4 x.c_, i4 x.next_], fun _ => rfl⟩
instance : Hld false bn_ := ⟨fun a σ d => by show frzL (hold false σ d) (bn_.cells a) = some (bn_.cells a, []); simp [bn_.cells, frzL]⟩
structure cq_ where
 env_ : (Sl cY_)
 s_ : ByteArray
 fuel_ : Int
 mode_ : Int
 steps_ : Int
 conts_ : (Sl bn_)
 out_ : (Sl cT_)
 now_ : (Sl aV_)
 conds_ : (Sl aV_)
 full_ : Bool
 abort_ : Bool
 stop_ : Bool
 code_ : Int
def cq_.cells (x : cq_) : List T := [x.env_.t, .str x.s_, i4 x.fuel_, i4 x.mode_, i4 x.steps_, x.conts_.t, x.out_.t, x.now_.t, x.conds_.t, .bool x.full_, .bool x.abort_, .bool x.stop_, i4 x.code_]
instance : Enc cq_ := ⟨cq_.cells, 13, fun _ => rfl, fun _ => rfl, fun x => by simp [cq_.cells, pureL, pureT], fun a b h => by
 rcases a with ⟨_, _, _, _, _, _, _, _, _, _, _, _, _⟩; rcases b with ⟨_, _, _, _, _, _, _, _, _, _, _, _, _⟩; simp [cq_.cells] at h; simp_all⟩
instance : Lit cq_ := ⟨fun x => [x.env_.t, .str x.s_, i4 x.fuel_, i4 x.mode_, i4 x.steps_, x.conts_.t, x.out_.t, x.now_.t, x.conds_.t, .bool x.full_, .bool x.abort_, .bool x.stop_, i4 x.code_], fun _ => rfl⟩
instance : Hld false cq_ := ⟨fun a σ d => by show frzL (hold false σ d) (cq_.cells a) = some (cq_.cells a, []); simp [cq_.cells, frzL]⟩
structure co_ where
 ends_ : (Sl (Sl (Iv .i64)))
 steps_ : (Sl (Iv .i64))
def co_.cells (x : co_) : List T := [x.ends_.t, x.steps_.t]
instance : Enc co_ := ⟨co_.cells, 2, fun _ => rfl, fun _ => rfl, fun x => by simp [co_.cells, pureL, pureT], fun a b h => by
 rcases a with ⟨_, _⟩; rcases b with ⟨_, _⟩; simp [co_.cells] at h; simp_all⟩
instance : Lit co_ := ⟨fun x => [x.ends_.t, x.steps_.t], fun _ => rfl⟩
instance : Hld false co_ := ⟨fun a σ d => by show frzL (hold false σ d) (co_.cells a) = some (co_.cells a, []); simp [co_.cells, frzL]⟩
def md : Nat → Md := fun f => bif [18, 19, 20, 23, 24, 30, 39, 40, 63, 82, 83, 87, 100, 107, 108, 117, 153].elem f then .own else bif [27, 28, 62, 64, 65, 66, 67, 69, 72, 73, 78, 86, 89, 90, 98, 101, 109, 110, 111, 113, 114, 118, 121, 123, 124, 129, 130, 145, 147, 148, 149, 150, 151, 156, 157, 159, 160, 172, 173, 174, 175, 179, 180, 182, 184, 195].elem f then .raw else .view
def ext : Ext := fun f => bif Nat.beq f 195 then some idxE else none
def bigN : Nat := 100000000000
theorem len0 {hs : List T} (h : hs.length = 0) : hs = [] := List.length_eq_zero_iff.1 h
theorem len1 {hs : List T} (h : hs.length = 1) : ∃ a0, hs = [a0] := by
 rcases hs with _ | ⟨a0, _ | ⟨x, l⟩⟩ <;> simp at h
 exact ⟨a0, rfl⟩
def E_bool : Bool → T := fun y => .bool y
theorem E_bool_inj : ∀ a b, E_bool a = E_bool b → a = b := inj_bool
theorem E_bool_p : ∀ v, pureT (E_bool v) = true := fun v => by simp [pureT, pureL, E_bool]
def E_DPattern : DPattern → T := fun y => .agg [i4 y.Kind, i4 y.Num, .str y.Text, y.Kids.t]
theorem E_DPattern_inj : ∀ a b, E_DPattern a = E_DPattern b → a = b := DPattern.inj_agg
def E_i64 : Int → T := fun y => i4 y
theorem E_i64_inj : ∀ a b, E_i64 a = E_i64 b → a = b := jJ_
theorem E_i64_p : ∀ v, pureT (E_i64 v) = true := fun v => by simp [pureT, pureL, E_i64]
def E_t2_DPattern_bool : (DPattern × Bool) → T := fun y => .tup [.agg [i4 y.1.Kind, i4 y.1.Num, .str y.1.Text, y.1.Kids.t], .bool y.2]
theorem E_t2_DPattern_bool_inj : ∀ a b, E_t2_DPattern_bool a = E_t2_DPattern_bool b → a = b := ko_ DPattern.inj_agg inj_bool
def E_sl_DPattern : (Sl DPattern) → T := fun y => y.t
theorem E_sl_DPattern_inj : ∀ a b, E_sl_DPattern a = E_sl_DPattern b → a = b := np_
def E_str : ByteArray → T := fun y => .str y
theorem E_str_inj : ∀ a b, E_str a = E_str b → a = b := inj_str
theorem E_str_p : ∀ v, pureT (E_str v) = true := fun v => by simp [pureT, pureL, E_str]
noncomputable def Sh_DPattern : dS_ DPattern := ⟨1, fun hs y => match hs with | [h1] => .agg [i4 y.Kind, i4 y.Num, .str y.Text, h1] | _ => .tup [], fun hs y => match hs with | [h1] => [.own true 4 h1 (Sl.t (y.Kids : Sl DPattern))] | _ => [], E_DPattern, fun hs y h => by
 obtain ⟨h1, rfl⟩ := len1 h
 exact (HL.agg (es1 := [.own true 4 h1 (Sl.t (y.Kids : Sl DPattern))]) (es2 := []) (HL.leaf (fun σ d => by simp) (HL.leaf (fun σ d => by simp) (HL.leaf (fun σ d => by simp) (HL.own rfl HL.nil)))) HL.nil), E_DPattern_inj⟩
def E_t2_i64_str : (Int × ByteArray) → T := fun y => .tup [i4 y.1, .str y.2]
theorem E_t2_i64_str_inj : ∀ a b, E_t2_i64_str a = E_t2_i64_str b → a = b := ko_ jJ_ inj_str
theorem E_t2_i64_str_p : ∀ v, pureT (E_t2_i64_str v) = true := fun v => by simp [pureT, pureL, E_t2_i64_str]
def E_t2_str_str : (ByteArray × ByteArray) → T := fun y => .tup [.str y.1, .str y.2]
theorem E_t2_str_str_inj : ∀ a b, E_t2_str_str a = E_t2_str_str b → a = b := ko_ inj_str inj_str
theorem E_t2_str_str_p : ∀ v, pureT (E_t2_str_str v) = true := fun v => by simp [pureT, pureL, E_t2_str_str]
noncomputable def Sh_t2_DPattern_bool : dS_ (DPattern × Bool) := ⟨1, fun hs y => match hs with | [h1] => .tup [.agg [i4 y.1.Kind, i4 y.1.Num, .str y.1.Text, h1], .bool y.2] | _ => .tup [], fun hs y => match hs with | [h1] => [.own true 4 h1 (Sl.t (y.1.Kids : Sl DPattern))] | _ => [], E_t2_DPattern_bool, fun hs y h => by
 obtain ⟨h1, rfl⟩ := len1 h
 exact (HL.tup (es1 := [.own true 4 h1 (Sl.t (y.1.Kids : Sl DPattern))]) (es2 := []) (HL.agg (es1 := [.own true 4 h1 (Sl.t (y.1.Kids : Sl DPattern))]) (es2 := []) (HL.leaf (fun σ d => by simp) (HL.leaf (fun σ d => by simp) (HL.leaf (fun σ d => by simp) (HL.own rfl HL.nil)))) (HL.leaf (fun σ d => by simp) HL.nil)) HL.nil), E_t2_DPattern_bool_inj⟩
noncomputable def Sh_sl_DPattern : dS_ (Sl DPattern) := ⟨1, fun hs y => match hs with | [h1] => h1 | _ => .tup [], fun hs y => match hs with | [h1] => [.own true 4 h1 (Sl.t (y : Sl DPattern))] | _ => [], E_sl_DPattern, fun hs y h => by
 obtain ⟨h1, rfl⟩ := len1 h
 exact (HL.own rfl HL.nil), E_sl_DPattern_inj⟩
noncomputable def cf_ (a0 : (Sl DPattern)) : Option Bool := semV Try.prog md ext E_bool 5 [(a0.t)]
noncomputable def cF_ (a0 : (Sl DPattern)) : Option (DPattern × Bool) := semO Try.prog md ext Sh_t2_DPattern_bool 19 [(a0.t)]
noncomputable def be_ (a0 : (Sl DPattern)) (a1 : Int) : Option Int := semV Try.prog md ext E_i64 22 [(a0.t), (i4 a1)]
noncomputable def ay_ (a0 : (Sl DPattern)) : Option (Sl DPattern) := semO Try.prog md ext Sh_sl_DPattern 24 [(a0.t)]
noncomputable def aC_ (a0 : DPattern) (a1 : DPattern) : Option Bool := semV Try.prog md ext E_bool 25 [(.agg [i4 a0.Kind, i4 a0.Num, .str a0.Text, a0.Kids.t]), (.agg [i4 a1.Kind, i4 a1.Num, .str a1.Text, a1.Kids.t])]
noncomputable def aW_ (a0 : (Sl DPattern)) (a1 : (Sl DPattern)) : Option Bool := semV Try.prog md ext E_bool 26 [(a0.t), (a1.t)]
noncomputable def a9_ (a0 : DPattern) (a1 : Int) : Option Int := semV Try.prog md ext E_i64 29 [(.agg [i4 a0.Kind, i4 a0.Num, .str a0.Text, a0.Kids.t]), (i4 a1)]
noncomputable def dy_ (a0 : (Sl DPattern)) : Option (DPattern × Bool) := semO Try.prog md ext Sh_t2_DPattern_bool 30 [(a0.t)]
noncomputable def a6_ (a0 : DPattern) (a1 : Int) : Option Int := semV Try.prog md ext E_i64 37 [(.agg [i4 a0.Kind, i4 a0.Num, .str a0.Text, a0.Kids.t]), (i4 a1)]
noncomputable def bo_ (a0 : DPattern) : Option DPattern := semO Try.prog md ext Sh_DPattern 40 [(.agg [i4 a0.Kind, i4 a0.Num, .str a0.Text, a0.Kids.t])]
noncomputable def a2_ (a0 : DPattern) : Option Bool := semV Try.prog md ext E_bool 53 [(.agg [i4 a0.Kind, i4 a0.Num, .str a0.Text, a0.Kids.t])]
noncomputable def aE_ (a0 : Int) : Option ByteArray := semV Try.prog md ext E_str 70 [(i4 a0)]
noncomputable def ax_ (a0 : (Sl DPattern)) (a1 : Int) : Option Int := semV Try.prog md ext E_i64 71 [(a0.t), (i4 a1)]
noncomputable def bY_ (a0 : ByteArray) : Option Bool := semV Try.prog md ext E_bool 76 [(.str a0)]
noncomputable def aj_ (a0 : DPattern) (a1 : Int) : Option Int := semV Try.prog md ext E_i64 99 [(.agg [i4 a0.Kind, i4 a0.Num, .str a0.Text, a0.Kids.t]), (i4 a1)]
noncomputable def a1_ (a0 : Int) (a1 : Int) (a2 : Int) : Option Bool := semV Try.prog md ext E_bool 103 [(i4 a0), (i4 a1), (i4 a2)]
noncomputable def aq_ (a0 : DPattern) : Option DPattern := semO Try.prog md ext Sh_DPattern 108 [(.agg [i4 a0.Kind, i4 a0.Num, .str a0.Text, a0.Kids.t])]
noncomputable def bX_ (a0 : Int) : Option (Int × ByteArray) := semV Try.prog md ext E_t2_i64_str 112 [(i4 a0)]
noncomputable def bc_ (a0 : (Sl DPattern)) (a1 : T) : Option Bool := semV Try.prog md ext E_bool 116 [(a0.t), (a1)]
noncomputable def ar_ (a0 : DPattern) : Option DPattern := semO Try.prog md ext Sh_DPattern 117 [(.agg [i4 a0.Kind, i4 a0.Num, .str a0.Text, a0.Kids.t])]
noncomputable def c4_ (a0 : Int) (a1 : Int) : Option Int := semV Try.prog md ext E_i64 119 [(i4 a0), (i4 a1)]
noncomputable def an_ (a0 : DPattern) (a1 : Int) : Option Int := semV Try.prog md ext E_i64 120 [(.agg [i4 a0.Kind, i4 a0.Num, .str a0.Text, a0.Kids.t]), (i4 a1)]
noncomputable def cB_ (a0 : Int) (a1 : Int) (a2 : Int) : Option Bool := semV Try.prog md ext E_bool 128 [(i4 a0), (i4 a1), (i4 a2)]
noncomputable def bO_ (a0 : Int) (a1 : Int) (a2 : ByteArray) : Option Bool := semV Try.prog md ext E_bool 134 [(i4 a0), (i4 a1), (.str a2)]
noncomputable def c7_ (a0 : Int) : Option Int := semV Try.prog md ext E_i64 135 [(i4 a0)]
noncomputable def dW_ (a0 : Int) : Option (ByteArray × ByteArray) := semV Try.prog md ext E_t2_str_str 137 [(i4 a0)]
noncomputable def cH_ (a0 : DPattern) : Option Bool := semV Try.prog md ext E_bool 140 [(.agg [i4 a0.Kind, i4 a0.Num, .str a0.Text, a0.Kids.t])]
noncomputable def cZ_ (a0 : ByteArray) : Option Bool := semV Try.prog md ext E_bool 143 [(.str a0)]
noncomputable def c6_ (a0 : ByteArray) : Option Bool := semV Try.prog md ext E_bool 155 [(.str a0)]
noncomputable def c9_ (a0 : Int) : Option Bool := semV Try.prog md ext E_bool 163 [(i4 a0)]
noncomputable def b3_ (a0 : Int) : Option Bool := semV Try.prog md ext E_bool 164 [(i4 a0)]
noncomputable def cP_ (a0 : Int) : Option Bool := semV Try.prog md ext E_bool 165 [(i4 a0)]
noncomputable def bj_ (a0 : Int) : Option Bool := semV Try.prog md ext E_bool 166 [(i4 a0)]
noncomputable def bz_ (a0 : Int) : Option Bool := semV Try.prog md ext E_bool 169 [(.int .u8 a0)]
noncomputable def cy_ (a0 : (Sl (Iv .u8))) (a1 : T) : Option Bool := semV Try.prog md ext E_bool 170 [(a0.t), (a1)]
noncomputable def bQ_ (a0 : Int) : Option Bool := semV Try.prog md ext E_bool 171 [(.int .u8 a0)]
noncomputable def bR_ (a0 : ByteArray) (a1 : Int) : Option Int := semV Try.prog md ext E_i64 183 [(.str a0), (i4 a1)]
noncomputable def cG_ (a0 : Int) : Option Bool := semV Try.prog md ext E_bool 189 [(.int .u8 a0)]
noncomputable def a5_ (a0 : Int) : Option Bool := semV Try.prog md ext E_bool 192 [(.int .u8 a0)]
noncomputable def bB_ (a0 : Int) : Option Bool := semV Try.prog md ext E_bool 193 [(.int .u8 a0)]
theorem ext_x : XOk ext := by
 intro f g h1
 unfold ext at h1
 cases h195 : Nat.beq f 195 with
 | true => rw [h195] at h1; have h1 : some idxE = some g := h1; injection h1 with h1; subst h1; exact pZ_
 | false =>
 rw [h195] at h1
 simp only [cond_false] at h1
 cases h1
theorem ext_ok : ∀ f g args σ r σ', ext f = some g → g args σ = some (r, σ') → d2_ Try.prog f args σ r σ' := by
 intro f g args σ r σ' h1 h2
 unfold ext at h1
 cases h195 : Nat.beq f 195 with
 | true => have e := Nat.eq_of_beq_eq_true h195; rw [h195] at h1; have h1 : some idxE = some g := h1; injection h1 with h1; subst h1; subst e; exact nV_ (fn := Try.f195) (by kernel_rfl) (by kernel_rfl) (by kernel_rfl) (by kernel_rfl) (by rfl) args σ r σ' h2
 | false =>
 rw [h195] at h1
 simp only [cond_false] at h1
 cases h1
theorem ok_5 : Ok Try.prog 5 (Try.f5.body.getD .skip) Try.f5.ntmps Try.f5.results.toList := ⟨Try.f5, by kernel_rfl, by kernel_rfl, by kernel_rfl, by kernel_rfl, rfl, rfl⟩
theorem ok_19 : Ok Try.prog 19 (Try.f19.body.getD .skip) Try.f19.ntmps Try.f19.results.toList := ⟨Try.f19, by kernel_rfl, by kernel_rfl, by kernel_rfl, by kernel_rfl, rfl, rfl⟩
theorem ok_22 : Ok Try.prog 22 (Try.f22.body.getD .skip) Try.f22.ntmps Try.f22.results.toList := ⟨Try.f22, by kernel_rfl, by kernel_rfl, by kernel_rfl, by kernel_rfl, rfl, rfl⟩
theorem ok_24 : Ok Try.prog 24 (Try.f24.body.getD .skip) Try.f24.ntmps Try.f24.results.toList := ⟨Try.f24, by kernel_rfl, by kernel_rfl, by kernel_rfl, by kernel_rfl, rfl, rfl⟩
theorem ok_25 : Ok Try.prog 25 (Try.f25.body.getD .skip) Try.f25.ntmps Try.f25.results.toList := ⟨Try.f25, by kernel_rfl, by kernel_rfl, by kernel_rfl, by kernel_rfl, rfl, rfl⟩
theorem ok_26 : Ok Try.prog 26 (Try.f26.body.getD .skip) Try.f26.ntmps Try.f26.results.toList := ⟨Try.f26, by kernel_rfl, by kernel_rfl, by kernel_rfl, by kernel_rfl, rfl, rfl⟩
theorem ok_27 : Ok Try.prog 27 (Try.f27.body.getD .skip) Try.f27.ntmps Try.f27.results.toList := ⟨Try.f27, by kernel_rfl, by kernel_rfl, by kernel_rfl, by kernel_rfl, rfl, rfl⟩
theorem ok_28 : Ok Try.prog 28 (Try.f28.body.getD .skip) Try.f28.ntmps Try.f28.results.toList := ⟨Try.f28, by kernel_rfl, by kernel_rfl, by kernel_rfl, by kernel_rfl, rfl, rfl⟩
theorem ok_29 : Ok Try.prog 29 (Try.f29.body.getD .skip) Try.f29.ntmps Try.f29.results.toList := ⟨Try.f29, by kernel_rfl, by kernel_rfl, by kernel_rfl, by kernel_rfl, rfl, rfl⟩
theorem ok_30 : Ok Try.prog 30 (Try.f30.body.getD .skip) Try.f30.ntmps Try.f30.results.toList := ⟨Try.f30, by kernel_rfl, by kernel_rfl, by kernel_rfl, by kernel_rfl, rfl, rfl⟩
theorem ok_37 : Ok Try.prog 37 (Try.f37.body.getD .skip) Try.f37.ntmps Try.f37.results.toList := ⟨Try.f37, by kernel_rfl, by kernel_rfl, by kernel_rfl, by kernel_rfl, rfl, rfl⟩
theorem ok_40 : Ok Try.prog 40 (Try.f40.body.getD .skip) Try.f40.ntmps Try.f40.results.toList := ⟨Try.f40, by kernel_rfl, by kernel_rfl, by kernel_rfl, by kernel_rfl, rfl, rfl⟩
theorem ok_53 : Ok Try.prog 53 (Try.f53.body.getD .skip) Try.f53.ntmps Try.f53.results.toList := ⟨Try.f53, by kernel_rfl, by kernel_rfl, by kernel_rfl, by kernel_rfl, rfl, rfl⟩
theorem ok_67 : Ok Try.prog 67 (Try.f67.body.getD .skip) Try.f67.ntmps Try.f67.results.toList := ⟨Try.f67, by kernel_rfl, by kernel_rfl, by kernel_rfl, by kernel_rfl, rfl, rfl⟩
theorem ok_69 : Ok Try.prog 69 (Try.f69.body.getD .skip) Try.f69.ntmps Try.f69.results.toList := ⟨Try.f69, by kernel_rfl, by kernel_rfl, by kernel_rfl, by kernel_rfl, rfl, rfl⟩
theorem ok_70 : Ok Try.prog 70 (Try.f70.body.getD .skip) Try.f70.ntmps Try.f70.results.toList := ⟨Try.f70, by kernel_rfl, by kernel_rfl, by kernel_rfl, by kernel_rfl, rfl, rfl⟩
theorem ok_71 : Ok Try.prog 71 (Try.f71.body.getD .skip) Try.f71.ntmps Try.f71.results.toList := ⟨Try.f71, by kernel_rfl, by kernel_rfl, by kernel_rfl, by kernel_rfl, rfl, rfl⟩
theorem ok_76 : Ok Try.prog 76 (Try.f76.body.getD .skip) Try.f76.ntmps Try.f76.results.toList := ⟨Try.f76, by kernel_rfl, by kernel_rfl, by kernel_rfl, by kernel_rfl, rfl, rfl⟩
theorem ok_99 : Ok Try.prog 99 (Try.f99.body.getD .skip) Try.f99.ntmps Try.f99.results.toList := ⟨Try.f99, by kernel_rfl, by kernel_rfl, by kernel_rfl, by kernel_rfl, rfl, rfl⟩
theorem ok_103 : Ok Try.prog 103 (Try.f103.body.getD .skip) Try.f103.ntmps Try.f103.results.toList := ⟨Try.f103, by kernel_rfl, by kernel_rfl, by kernel_rfl, by kernel_rfl, rfl, rfl⟩
theorem ok_108 : Ok Try.prog 108 (Try.f108.body.getD .skip) Try.f108.ntmps Try.f108.results.toList := ⟨Try.f108, by kernel_rfl, by kernel_rfl, by kernel_rfl, by kernel_rfl, rfl, rfl⟩
theorem ok_112 : Ok Try.prog 112 (Try.f112.body.getD .skip) Try.f112.ntmps Try.f112.results.toList := ⟨Try.f112, by kernel_rfl, by kernel_rfl, by kernel_rfl, by kernel_rfl, rfl, rfl⟩
theorem ok_116 : Ok Try.prog 116 (Try.f116.body.getD .skip) Try.f116.ntmps Try.f116.results.toList := ⟨Try.f116, by kernel_rfl, by kernel_rfl, by kernel_rfl, by kernel_rfl, rfl, rfl⟩
theorem ok_117 : Ok Try.prog 117 (Try.f117.body.getD .skip) Try.f117.ntmps Try.f117.results.toList := ⟨Try.f117, by kernel_rfl, by kernel_rfl, by kernel_rfl, by kernel_rfl, rfl, rfl⟩
theorem ok_118 : Ok Try.prog 118 (Try.f118.body.getD .skip) Try.f118.ntmps Try.f118.results.toList := ⟨Try.f118, by kernel_rfl, by kernel_rfl, by kernel_rfl, by kernel_rfl, rfl, rfl⟩
theorem ok_119 : Ok Try.prog 119 (Try.f119.body.getD .skip) Try.f119.ntmps Try.f119.results.toList := ⟨Try.f119, by kernel_rfl, by kernel_rfl, by kernel_rfl, by kernel_rfl, rfl, rfl⟩
theorem ok_120 : Ok Try.prog 120 (Try.f120.body.getD .skip) Try.f120.ntmps Try.f120.results.toList := ⟨Try.f120, by kernel_rfl, by kernel_rfl, by kernel_rfl, by kernel_rfl, rfl, rfl⟩
theorem ok_128 : Ok Try.prog 128 (Try.f128.body.getD .skip) Try.f128.ntmps Try.f128.results.toList := ⟨Try.f128, by kernel_rfl, by kernel_rfl, by kernel_rfl, by kernel_rfl, rfl, rfl⟩
theorem ok_134 : Ok Try.prog 134 (Try.f134.body.getD .skip) Try.f134.ntmps Try.f134.results.toList := ⟨Try.f134, by kernel_rfl, by kernel_rfl, by kernel_rfl, by kernel_rfl, rfl, rfl⟩
theorem ok_135 : Ok Try.prog 135 (Try.f135.body.getD .skip) Try.f135.ntmps Try.f135.results.toList := ⟨Try.f135, by kernel_rfl, by kernel_rfl, by kernel_rfl, by kernel_rfl, rfl, rfl⟩
theorem ok_137 : Ok Try.prog 137 (Try.f137.body.getD .skip) Try.f137.ntmps Try.f137.results.toList := ⟨Try.f137, by kernel_rfl, by kernel_rfl, by kernel_rfl, by kernel_rfl, rfl, rfl⟩
theorem ok_139 : Ok Try.prog 139 (Try.f139.body.getD .skip) Try.f139.ntmps Try.f139.results.toList := ⟨Try.f139, by kernel_rfl, by kernel_rfl, by kernel_rfl, by kernel_rfl, rfl, rfl⟩
theorem ok_140 : Ok Try.prog 140 (Try.f140.body.getD .skip) Try.f140.ntmps Try.f140.results.toList := ⟨Try.f140, by kernel_rfl, by kernel_rfl, by kernel_rfl, by kernel_rfl, rfl, rfl⟩
theorem ok_143 : Ok Try.prog 143 (Try.f143.body.getD .skip) Try.f143.ntmps Try.f143.results.toList := ⟨Try.f143, by kernel_rfl, by kernel_rfl, by kernel_rfl, by kernel_rfl, rfl, rfl⟩
theorem ok_155 : Ok Try.prog 155 (Try.f155.body.getD .skip) Try.f155.ntmps Try.f155.results.toList := ⟨Try.f155, by kernel_rfl, by kernel_rfl, by kernel_rfl, by kernel_rfl, rfl, rfl⟩
theorem ok_163 : Ok Try.prog 163 (Try.f163.body.getD .skip) Try.f163.ntmps Try.f163.results.toList := ⟨Try.f163, by kernel_rfl, by kernel_rfl, by kernel_rfl, by kernel_rfl, rfl, rfl⟩
theorem ok_164 : Ok Try.prog 164 (Try.f164.body.getD .skip) Try.f164.ntmps Try.f164.results.toList := ⟨Try.f164, by kernel_rfl, by kernel_rfl, by kernel_rfl, by kernel_rfl, rfl, rfl⟩
theorem ok_165 : Ok Try.prog 165 (Try.f165.body.getD .skip) Try.f165.ntmps Try.f165.results.toList := ⟨Try.f165, by kernel_rfl, by kernel_rfl, by kernel_rfl, by kernel_rfl, rfl, rfl⟩
theorem ok_166 : Ok Try.prog 166 (Try.f166.body.getD .skip) Try.f166.ntmps Try.f166.results.toList := ⟨Try.f166, by kernel_rfl, by kernel_rfl, by kernel_rfl, by kernel_rfl, rfl, rfl⟩
theorem ok_169 : Ok Try.prog 169 (Try.f169.body.getD .skip) Try.f169.ntmps Try.f169.results.toList := ⟨Try.f169, by kernel_rfl, by kernel_rfl, by kernel_rfl, by kernel_rfl, rfl, rfl⟩
theorem ok_170 : Ok Try.prog 170 (Try.f170.body.getD .skip) Try.f170.ntmps Try.f170.results.toList := ⟨Try.f170, by kernel_rfl, by kernel_rfl, by kernel_rfl, by kernel_rfl, rfl, rfl⟩
theorem ok_171 : Ok Try.prog 171 (Try.f171.body.getD .skip) Try.f171.ntmps Try.f171.results.toList := ⟨Try.f171, by kernel_rfl, by kernel_rfl, by kernel_rfl, by kernel_rfl, rfl, rfl⟩
theorem ok_183 : Ok Try.prog 183 (Try.f183.body.getD .skip) Try.f183.ntmps Try.f183.results.toList := ⟨Try.f183, by kernel_rfl, by kernel_rfl, by kernel_rfl, by kernel_rfl, rfl, rfl⟩
theorem ok_189 : Ok Try.prog 189 (Try.f189.body.getD .skip) Try.f189.ntmps Try.f189.results.toList := ⟨Try.f189, by kernel_rfl, by kernel_rfl, by kernel_rfl, by kernel_rfl, rfl, rfl⟩
theorem ok_192 : Ok Try.prog 192 (Try.f192.body.getD .skip) Try.f192.ntmps Try.f192.results.toList := ⟨Try.f192, by kernel_rfl, by kernel_rfl, by kernel_rfl, by kernel_rfl, rfl, rfl⟩
theorem ok_193 : Ok Try.prog 193 (Try.f193.body.getD .skip) Try.f193.ntmps Try.f193.results.toList := ⟨Try.f193, by kernel_rfl, by kernel_rfl, by kernel_rfl, by kernel_rfl, rfl, rfl⟩
theorem back_139 : nW_ Try.prog 139 23 25 4 := ⟨⟨_, _, _, ok_139, rfl, Nat.le_of_ble_eq_true (by kernel_rfl), ⟨⟨_, rfl⟩, ⟨_, rfl⟩, rfl, ⟨_, _, rfl⟩, rfl, ⟨_, rfl⟩⟩⟩, by kernel_rfl, by kernel_rfl, by kernel_rfl, by kernel_rfl, by kernel_rfl⟩
end Go.Am
end
