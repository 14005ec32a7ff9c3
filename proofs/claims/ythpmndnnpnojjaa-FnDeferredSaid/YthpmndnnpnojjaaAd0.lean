/- The data. -/
import Derived.Test.YthpmndnnpnojjaaAm6
import Derived.Test.YthpmndnnpnojjaaProg
section
set_option maxRecDepth 100000
set_option linter.unusedVariables false
set_option linter.unusedSimpArgs false
namespace Go.Am
open Go.Proofs
structure DPattern where
 Kind : Int
 Num : Int
 Text : ByteArray
 Kids : (Sl DPattern)
mutual
def DPattern.cells : DPattern → List T
 | ⟨f0, f1, f2, ⟨z3, l3⟩⟩ => [i4 f0, i4 f1, .str f2, .row z3 l3.length (DPattern.cellsK l3)]
def DPattern.cellsK : List DPattern → List T
 | [] => []
 | p :: l => p.cells ++ DPattern.cellsK l
end
theorem DPattern.len (p : DPattern) : p.cells.length = 4 := by
 obtain ⟨f0, f1, f2, ⟨z3, l3⟩⟩ := p; simp [DPattern.cells]
theorem DPattern.one (p : DPattern) : p.cells.all T.one = true := by
 obtain ⟨f0, f1, f2, ⟨z3, l3⟩⟩ := p; simp [DPattern.cells]
mutual
theorem DPattern.pure : ∀ p : DPattern, pureL p.cells = true
 | ⟨f0, f1, f2, ⟨z3, l3⟩⟩ => by simp [DPattern.cells, pureL, pureT, DPattern.pureK l3]
theorem DPattern.pureK : ∀ l : List DPattern, pureL (DPattern.cellsK l) = true
 | [] => by simp [DPattern.cellsK, pureL]
 | p :: l => by simp [DPattern.cellsK, pureL_append, p.pure, DPattern.pureK l]
end
mutual
theorem DPattern.inj : ∀ p q : DPattern, p.cells = q.cells → p = q
 | ⟨f0, f1, f2, ⟨z3, l3⟩⟩, ⟨f0', f1', f2', ⟨z3', l3'⟩⟩, h => by
  simp only [DPattern.cells, List.cons.injEq, and_true, T.int.injEq, T.str.injEq, T.bool.injEq, T.row.injEq, true_and, Sl.inj_iff] at h
  have hk : l3 = l3' := DPattern.injK l3 l3' (by simp_all) (by simp_all)
  simp_all
theorem DPattern.injK : ∀ l l' : List DPattern, l.length = l'.length → DPattern.cellsK l = DPattern.cellsK l' → l = l'
 | [], [], _, _ => rfl
 | [], _ :: _, h, _ => by simp at h
 | _ :: _, [], h, _ => by simp at h
 | p :: l, p' :: l', h, k => by
  simp only [DPattern.cellsK] at k
  have e := List.append_inj k (by rw [DPattern.len, DPattern.len])
  rw [DPattern.inj p p' e.1, DPattern.injK l l' (by simpa using h) e.2]
end
instance : Enc DPattern := ⟨DPattern.cells, 4, DPattern.len, DPattern.one, DPattern.pure, DPattern.inj⟩
theorem DPattern.cellsK_eq : ∀ l : List DPattern, DPattern.cellsK l = aq_ l
 | [] => rfl
 | p :: l => by simp only [DPattern.cellsK, aq_, DPattern.cellsK_eq l]; rfl
theorem DPattern.cells_eq (p : DPattern) : p.cells = [i4 p.Kind, i4 p.Num, .str p.Text, p.Kids.t] := by
 obtain ⟨f0, f1, f2, ⟨z3, l3⟩⟩ := p; simp only [DPattern.cells, DPattern.cellsK_eq]; rfl
instance : Lit DPattern := ⟨fun p => [i4 p.Kind, i4 p.Num, .str p.Text, p.Kids.t], fun p => DPattern.cells_eq p⟩
theorem DPattern.inj_agg : ∀ p q : DPattern, T.agg [i4 p.Kind, i4 p.Num, .str p.Text, p.Kids.t] = T.agg [i4 q.Kind, i4 q.Num, .str q.Text, q.Kids.t] → p = q := fun p q h => DPattern.inj p q (by injection h with h; rw [DPattern.cells_eq, DPattern.cells_eq]; exact h)
structure DNamed where
 Name : ByteArray
 Pattern : DPattern
def DNamed.cells (x : DNamed) : List T := [.str x.Name, i4 x.Pattern.Kind, i4 x.Pattern.Num, .str x.Pattern.Text, x.Pattern.Kids.t]
instance : Enc DNamed := ⟨DNamed.cells, 5, fun _ => rfl, fun _ => rfl, fun x => by simp [DNamed.cells, pureL, pureT], fun a b h => by
 rcases a with ⟨_, ⟨_, _, _, _⟩⟩; rcases b with ⟨_, ⟨_, _, _, _⟩⟩; simp [DNamed.cells] at h; simp_all⟩
instance : Lit DNamed := ⟨fun x => [.str x.Name, i4 x.Pattern.Kind, i4 x.Pattern.Num, .str x.Pattern.Text, x.Pattern.Kids.t], fun _ => rfl⟩
instance : Hld false DNamed := ⟨fun a σ d => by show frzL (hold false σ d) (DNamed.cells a) = some (DNamed.cells a, []); simp [DNamed.cells, frzL]⟩
structure ag_ where
 code_ : (Sl (Iv .u8))
 at_ : Int
 seed_ : Int
def ag_.cells (x : ag_) : List T := [x.code_.t, i4 x.at_, .int .u64 x.seed_]
instance : Enc ag_ := ⟨ag_.cells, 3, fun _ => rfl, fun _ => rfl, fun x => by simp [ag_.cells, pureL, pureT], fun a b h => by
 rcases a with ⟨_, _, _⟩; rcases b with ⟨_, _, _⟩; simp [ag_.cells] at h; simp_all⟩
instance : Lit ag_ := ⟨fun x => [x.code_.t, i4 x.at_, .int .u64 x.seed_], fun _ => rfl⟩
instance : Hld false ag_ := ⟨fun a σ d => by show frzL (hold false σ d) (ag_.cells a) = some (ag_.cells a, []); simp [ag_.cells, frzL]⟩
structure DCapture where
 Name : ByteArray
 Text : ByteArray
 Cursor : Int
 Kind : Int
def DCapture.cells (x : DCapture) : List T := [.str x.Name, .str x.Text, i4 x.Cursor, i4 x.Kind]
instance : Enc DCapture := ⟨DCapture.cells, 4, fun _ => rfl, fun _ => rfl, fun x => by simp [DCapture.cells, pureL, pureT], fun a b h => by
 rcases a with ⟨_, _, _, _⟩; rcases b with ⟨_, _, _, _⟩; simp [DCapture.cells] at h; simp_all⟩
instance : Lit DCapture := ⟨fun x => [.str x.Name, .str x.Text, i4 x.Cursor, i4 x.Kind], fun _ => rfl⟩
instance (z : Bool) : Hld z DCapture := ⟨fun a σ d => by show frzL (hold z σ d) (DCapture.cells a) = some (DCapture.cells a, []); simp [DCapture.cells, frzL]⟩
structure ah_ where
 p_ : DPattern
 c_ : Int
 next_ : Int
def ah_.cells (x : ah_) : List T := [i4 x.p_.Kind, i4 x.p_.Num, .str x.p_.Text, x.p_.Kids.t, i4 x.c_, i4 x.next_]
instance : Enc ah_ := ⟨ah_.cells, 6, fun _ => rfl, fun _ => rfl, fun x => by simp [ah_.cells, pureL, pureT], fun a b h => by
 rcases a with ⟨⟨_, _, _, _⟩, _, _⟩; rcases b with ⟨⟨_, _, _, _⟩, _, _⟩; simp [ah_.cells] at h; simp_all⟩
instance : Lit ah_ := ⟨fun x => [i4 x.p_.Kind, i4 x.p_.Num, .str x.p_.Text, x.p_.Kids.t, i4 x.c_, i4 x.next_], fun _ => rfl⟩
instance : Hld false ah_ := ⟨fun a σ d => by show frzL (hold false σ d) (ah_.cells a) = some (ah_.cells a, []); simp [ah_.cells, frzL]⟩
structure DMatch where
 Start : Int
 End : Int
 Captures : (Sl DCapture)
def DMatch.cells (x : DMatch) : List T := [i4 x.Start, i4 x.End, x.Captures.t]
instance : Enc DMatch := ⟨DMatch.cells, 3, fun _ => rfl, fun _ => rfl, fun x => by simp [DMatch.cells, pureL, pureT], fun a b h => by
 rcases a with ⟨_, _, _⟩; rcases b with ⟨_, _, _⟩; simp [DMatch.cells] at h; simp_all⟩
instance : Lit DMatch := ⟨fun x => [i4 x.Start, i4 x.End, x.Captures.t], fun _ => rfl⟩
instance : Hld false DMatch := ⟨fun a σ d => by show frzL (hold false σ d) (DMatch.cells a) = some (DMatch.cells a, []); simp [DMatch.cells, frzL]⟩
structure aj_ where
 env_ : (Sl DNamed)
 s_ : ByteArray
 fuel_ : Int
 mode_ : Int
 steps_ : Int
 conts_ : (Sl ah_)
 out_ : (Sl DMatch)
 now_ : (Sl DCapture)
 conds_ : (Sl DCapture)
 full_ : Bool
 abort_ : Bool
 stop_ : Bool
 code_ : Int
def aj_.cells (x : aj_) : List T := [x.env_.t, .str x.s_, i4 x.fuel_, i4 x.mode_, i4 x.steps_, x.conts_.t, x.out_.t, x.now_.t, x.conds_.t, .bool x.full_, .bool x.abort_, .bool x.stop_, i4 x.code_]
instance : Enc aj_ := ⟨aj_.cells, 13, fun _ => rfl, fun _ => rfl, fun x => by simp [aj_.cells, pureL, pureT], fun a b h => by
 rcases a with ⟨_, _, _, _, _, _, _, _, _, _, _, _, _⟩; rcases b with ⟨_, _, _, _, _, _, _, _, _, _, _, _, _⟩; simp [aj_.cells] at h; simp_all⟩
instance : Lit aj_ := ⟨fun x => [x.env_.t, .str x.s_, i4 x.fuel_, i4 x.mode_, i4 x.steps_, x.conts_.t, x.out_.t, x.now_.t, x.conds_.t, .bool x.full_, .bool x.abort_, .bool x.stop_, i4 x.code_], fun _ => rfl⟩
instance : Hld false aj_ := ⟨fun a σ d => by show frzL (hold false σ d) (aj_.cells a) = some (aj_.cells a, []); simp [aj_.cells, frzL]⟩
structure aa_ where
 env_ : (Sl DNamed)
 subject_ : ByteArray
 fuel_ : Int
 steps_ : Int
 start_ : Int
 now_ : (Sl DCapture)
 conds_ : (Sl DCapture)
 matches_ : (Sl DMatch)
 most_ : Int
 isMere_ : Bool
 counts_ : T
 code_ : Int
def aa_.cells (x : aa_) : List T := [x.env_.t, .str x.subject_, i4 x.fuel_, i4 x.steps_, i4 x.start_, x.now_.t, x.conds_.t, x.matches_.t, i4 x.most_, .bool x.isMere_, x.counts_, i4 x.code_]
structure lq_ where
 addr_ : T
 buf_ : (Sl (Iv .u8))
def lq_.cells (x : lq_) : List T := [x.addr_, x.buf_.t]
def md : Nat → Md := fun f => bif [17, 27, 28, 39, 43, 68, 69, 72, 75, 81, 86, 91, 101, 123, 124, 156].elem f then .own else bif [21, 22, 31, 46, 74, 76, 77, 92, 93, 94, 96, 100, 110, 111, 115, 116, 117, 119, 120, 126, 127, 128, 129, 130, 143, 144, 146, 147, 149, 151, 152, 153, 154, 165, 167, 168, 169, 173, 174, 176, 179].elem f then .raw else .view
def ext : Ext := fun f => bif Nat.beq f 179 then some idxE else none
def bigN : Nat := 100000000000
theorem len0 {hs : List T} (h : hs.length = 0) : hs = [] := List.length_eq_zero_iff.1 h
theorem len1 {hs : List T} (h : hs.length = 1) : ∃ a0, hs = [a0] := by
 rcases hs with _ | ⟨a0, _ | ⟨x, l⟩⟩ <;> simp at h
 exact ⟨a0, rfl⟩
theorem len3 {hs : List T} (h : hs.length = 3) : ∃ a0 a1 a2, hs = [a0, a1, a2] := by
 rcases hs with _ | ⟨a0, _ | ⟨a1, _ | ⟨a2, _ | ⟨x, l⟩⟩⟩⟩ <;> simp at h
 exact ⟨a0, a1, a2, rfl⟩
theorem len4 {hs : List T} (h : hs.length = 4) : ∃ a0 a1 a2 a3, hs = [a0, a1, a2, a3] := by
 rcases hs with _ | ⟨a0, _ | ⟨a1, _ | ⟨a2, _ | ⟨a3, _ | ⟨x, l⟩⟩⟩⟩⟩ <;> simp at h
 exact ⟨a0, a1, a2, a3, rfl⟩
def fW_ (b : Nat) (x : aj_) (hs : List T) : List Ent := match hs with | [h1, h2, h3, h4] => [.box b [x.env_.t, .str x.s_, i4 x.fuel_, i4 x.mode_, i4 x.steps_, h1, h2, h3, h4, .bool x.full_, .bool x.abort_, .bool x.stop_, i4 x.code_], .flt 6 h1 x.conts_.t, .own true 3 h2 x.out_.t, .flt 4 h3 x.now_.t, .flt 4 h4 x.conds_.t] | _ => []
def a0_ (b : Nat) (x : aa_) (hs : List T) : List Ent := match hs with | [h1, h2, h3] => [.box b [x.env_.t, .str x.subject_, i4 x.fuel_, i4 x.steps_, i4 x.start_, h1, h2, h3, i4 x.most_, .bool x.isMere_, T.nilm, i4 x.code_], .flt 4 h1 x.now_.t, .flt 4 h2 x.conds_.t, .own true 3 h3 x.matches_.t] | _ => []
def E_bool : Bool → T := fun y => .bool y
theorem E_bool_inj : ∀ a b, E_bool a = E_bool b → a = b := inj_bool
theorem E_bool_p : ∀ v, pureT (E_bool v) = true := fun v => by simp [pureT, pureL, E_bool]
def E_i64 : Int → T := fun y => i4 y
theorem E_i64_inj : ∀ a b, E_i64 a = E_i64 b → a = b := kQ_
theorem E_i64_p : ∀ v, pureT (E_i64 v) = true := fun v => by simp [pureT, pureL, E_i64]
def E_t2_DPattern_bool : (DPattern × Bool) → T := fun y => .tup [.agg [i4 y.1.Kind, i4 y.1.Num, .str y.1.Text, y.1.Kids.t], .bool y.2]
theorem E_t2_DPattern_bool_inj : ∀ a b, E_t2_DPattern_bool a = E_t2_DPattern_bool b → a = b := ll_ DPattern.inj_agg inj_bool
theorem E_t2_DPattern_bool_p : ∀ v, pureT (E_t2_DPattern_bool v) = true := fun v => by simp [pureT, pureL, E_t2_DPattern_bool]
def E_sl_DNamed : (Sl DNamed) → T := fun y => y.t
theorem E_sl_DNamed_inj : ∀ a b, E_sl_DNamed a = E_sl_DNamed b → a = b := jZ_
def E_DPattern : DPattern → T := fun y => .agg [i4 y.Kind, i4 y.Num, .str y.Text, y.Kids.t]
theorem E_DPattern_inj : ∀ a b, E_DPattern a = E_DPattern b → a = b := DPattern.inj_agg
theorem E_DPattern_p : ∀ v, pureT (E_DPattern v) = true := fun v => by simp [pureT, pureL, E_DPattern]
def E_sl_u8 : (Sl (Iv .u8)) → T := fun y => y.t
theorem E_sl_u8_inj : ∀ a b, E_sl_u8 a = E_sl_u8 b → a = b := jZ_
def E_str : ByteArray → T := fun y => .str y
theorem E_str_inj : ∀ a b, E_str a = E_str b → a = b := inj_str
theorem E_str_p : ∀ v, pureT (E_str v) = true := fun v => by simp [pureT, pureL, E_str]
def E_t2_sl_DMatch_i64 : ((Sl DMatch) × Int) → T := fun y => .tup [y.1.t, i4 y.2]
theorem E_t2_sl_DMatch_i64_inj : ∀ a b, E_t2_sl_DMatch_i64 a = E_t2_sl_DMatch_i64 b → a = b := ll_ jZ_ kQ_
theorem E_t2_sl_DMatch_i64_p : ∀ v, pureT (E_t2_sl_DMatch_i64 v) = true := fun v => by simp [pureT, pureL, E_t2_sl_DMatch_i64]
noncomputable def Sh_DPattern : fc_ DPattern := ⟨1, fun hs y => match hs with | [h1] => .agg [i4 y.Kind, i4 y.Num, .str y.Text, h1] | _ => .tup [], fun hs y => match hs with | [h1] => [.own true 4 h1 (Sl.t (y.Kids : Sl DPattern))] | _ => [], E_DPattern, fun hs y h => by
 obtain ⟨h1, rfl⟩ := len1 h
 exact (HL.agg (es1 := [.own true 4 h1 (Sl.t (y.Kids : Sl DPattern))]) (es2 := []) (HL.leaf (fun σ d => by simp) (HL.leaf (fun σ d => by simp) (HL.leaf (fun σ d => by simp) (HL.own rfl HL.nil)))) HL.nil), E_DPattern_inj⟩
noncomputable def Sh_sl_DNamed : fc_ (Sl DNamed) := ⟨1, fun hs y => match hs with | [h1] => h1 | _ => .tup [], fun hs y => match hs with | [h1] => [.own true 5 h1 (Sl.t (y : Sl DNamed))] | _ => [], E_sl_DNamed, fun hs y h => by
 obtain ⟨h1, rfl⟩ := len1 h
 exact (HL.own rfl HL.nil), E_sl_DNamed_inj⟩
def E_sl_i64 : (Sl (Iv .i64)) → T := fun y => y.t
theorem E_sl_i64_inj : ∀ a b, E_sl_i64 a = E_sl_i64 b → a = b := jZ_
def E_t2_i64_str : (Int × ByteArray) → T := fun y => .tup [i4 y.1, .str y.2]
theorem E_t2_i64_str_inj : ∀ a b, E_t2_i64_str a = E_t2_i64_str b → a = b := ll_ kQ_ inj_str
theorem E_t2_i64_str_p : ∀ v, pureT (E_t2_i64_str v) = true := fun v => by simp [pureT, pureL, E_t2_i64_str]
def E_t0_ : Unit → T := fun _ => .tup []
def E_t2_str_str : (ByteArray × ByteArray) → T := fun y => .tup [.str y.1, .str y.2]
theorem E_t2_str_str_inj : ∀ a b, E_t2_str_str a = E_t2_str_str b → a = b := ll_ inj_str inj_str
theorem E_t2_str_str_p : ∀ v, pureT (E_t2_str_str v) = true := fun v => by simp [pureT, pureL, E_t2_str_str]
def E_sl_DCapture : (Sl DCapture) → T := fun y => y.t
theorem E_sl_DCapture_inj : ∀ a b, E_sl_DCapture a = E_sl_DCapture b → a = b := jZ_
noncomputable def Sh_t2_sl_DMatch_i64 : fc_ ((Sl DMatch) × Int) := ⟨1, fun hs y => match hs with | [h1] => .tup [h1, i4 y.2] | _ => .tup [], fun hs y => match hs with | [h1] => [.own true 3 h1 (Sl.t (y.1 : Sl DMatch))] | _ => [], E_t2_sl_DMatch_i64, fun hs y h => by
 obtain ⟨h1, rfl⟩ := len1 h
 exact (HL.tup (es1 := [.own true 3 h1 (Sl.t (y.1 : Sl DMatch))]) (es2 := []) (HL.own rfl (HL.leaf (fun σ d => by simp) HL.nil)) HL.nil), E_t2_sl_DMatch_i64_inj⟩
noncomputable def Sh_sl_i64 : fc_ (Sl (Iv .i64)) := ⟨1, fun hs y => match hs with | [h1] => h1 | _ => .tup [], fun hs y => match hs with | [h1] => [.own true 1 h1 (Sl.t (y : Sl (Iv .i64)))] | _ => [], E_sl_i64, fun hs y h => by
 obtain ⟨h1, rfl⟩ := len1 h
 exact (HL.own rfl HL.nil), E_sl_i64_inj⟩
noncomputable def Sh_sl_DCapture : fc_ (Sl DCapture) := ⟨1, fun hs y => match hs with | [h1] => h1 | _ => .tup [], fun hs y => match hs with | [h1] => [.own true 4 h1 (Sl.t (y : Sl DCapture))] | _ => [], E_sl_DCapture, fun hs y h => by
 obtain ⟨h1, rfl⟩ := len1 h
 exact (HL.own rfl HL.nil), E_sl_DCapture_inj⟩
noncomputable def eK_ (a0 : (Sl (Iv .u8))) : Option Bool := semV Try.prog md ext E_bool 14 [(a0.t)]
noncomputable def c0_ (a0 : (Sl DNamed)) (a1 : ByteArray) : Option (DPattern × Bool) := semV Try.prog md ext E_t2_DPattern_bool 29 [(a0.t), (.str a1)]
noncomputable def fu_ (a0 : Int) (a1 : (Sl (Iv .u8))) : Option (Sl (Iv .u8)) := semV Try.prog md ext E_sl_u8 33 [(i4 a0), (a1.t)]
noncomputable def cf_ (a0 : DPattern) (a1 : DPattern) : Option Bool := semV Try.prog md ext E_bool 36 [(.agg [i4 a0.Kind, i4 a0.Num, .str a0.Text, a0.Kids.t]), (.agg [i4 a1.Kind, i4 a1.Num, .str a1.Text, a1.Kids.t])]
noncomputable def dJ_ (a0 : (Sl (Iv .u8))) : Option ByteArray := semV Try.prog md ext E_str 48 [(a0.t)]
noncomputable def eY_ (a0 : Int) (a1 : ByteArray) (a2 : (Sl DPattern)) : Option DPattern := semV Try.prog md ext E_DPattern 50 [(i4 a0), (.str a1), (a2.t)]
noncomputable def gj_ (a0 : (Sl (Iv .u8))) (a1 : Int) (a2 : Int) : Option Int := semV Try.prog md ext E_i64 52 [(a0.t), (i4 a1), (i4 a2)]
noncomputable def fQ_ (a0 : (Sl (Iv .u8))) : Option (Sl DNamed) := semV Try.prog md ext E_sl_DNamed 57 [(a0.t)]
noncomputable def cz_ (a0 : (Sl DNamed)) (a1 : DPattern) (a2 : ByteArray) (a3 : Bool) (a4 : Int) : Option ((Sl DMatch) × Int) := semV Try.prog md ext E_t2_sl_DMatch_i64 59 [(a0.t), (.agg [i4 a1.Kind, i4 a1.Num, .str a1.Text, a1.Kids.t]), (.str a2), (.bool a3), (i4 a4)]
noncomputable def cU_ (a0 : (Sl DMatch)) (a1 : (Sl DMatch)) : Option Bool := semV Try.prog md ext E_bool 60 [(a0.t), (a1.t)]
noncomputable def b9_ (a0 : (Sl DNamed)) (a1 : ByteArray) : Option Int := semV Try.prog md ext E_i64 66 [(a0.t), (.str a1)]
noncomputable def d3_ (a0 : (Sl DNamed)) : Option Bool := semV Try.prog md ext E_bool 67 [(a0.t)]
noncomputable def c1_ (a0 : (Sl DNamed)) (a1 : ByteArray) : Option (DPattern × Bool) := semV Try.prog md ext E_t2_DPattern_bool 70 [(a0.t), (.str a1)]
noncomputable def c4_ (a0 : (Sl DNamed)) : Option Bool := semV Try.prog md ext E_bool 71 [(a0.t)]
noncomputable def bG_ (a0 : DPattern) : Option DPattern := semO Try.prog md ext Sh_DPattern 72 [(.agg [i4 a0.Kind, i4 a0.Num, .str a0.Text, a0.Kids.t])]
noncomputable def b2_ (a0 : DPattern) : Option Bool := semV Try.prog md ext E_bool 78 [(.agg [i4 a0.Kind, i4 a0.Num, .str a0.Text, a0.Kids.t])]
noncomputable def bE_ (a0 : (Sl DPattern)) (a1 : (Sl DPattern)) (a2 : T) : Option Bool := semV Try.prog md ext E_bool 80 [(a0.t), (a1.t), (a2)]
noncomputable def gz_ (a0 : (Sl DNamed)) (a1 : DPattern) (a2 : ByteArray) (a3 : Int) : Option Int := semV Try.prog md ext E_i64 84 [(a0.t), (.agg [i4 a1.Kind, i4 a1.Num, .str a1.Text, a1.Kids.t]), (.str a2), (i4 a3)]
noncomputable def cg_ (a0 : Int) (a1 : Int) (a2 : Int) : Option Bool := semV Try.prog md ext E_bool 85 [(i4 a0), (i4 a1), (i4 a2)]
noncomputable def fI_ (a0 : (Sl (Iv .i64))) : Option Int := semV Try.prog md ext E_i64 87 [(a0.t)]
noncomputable def dc_ (a0 : (Sl DNamed)) (a1 : DPattern) (a2 : ByteArray) (a3 : Int) : Option Int := semV Try.prog md ext E_i64 88 [(a0.t), (.agg [i4 a1.Kind, i4 a1.Num, .str a1.Text, a1.Kids.t]), (.str a2), (i4 a3)]
noncomputable def dO_ (a0 : Bool) (a1 : Int) : Option Int := semV Try.prog md ext E_i64 89 [(.bool a0), (i4 a1)]
noncomputable def bH_ (a0 : Int) (a1 : Int) (a2 : Int) : Option Bool := semV Try.prog md ext E_bool 90 [(i4 a0), (i4 a1), (i4 a2)]
noncomputable def ce_ (a0 : (Sl DNamed)) (a1 : DPattern) (a2 : ByteArray) (a3 : (Sl (Iv .i64))) (a4 : Int) : Option ((Sl DMatch) × Int) := semO Try.prog md ext Sh_t2_sl_DMatch_i64 91 [(a0.t), (.agg [i4 a1.Kind, i4 a1.Num, .str a1.Text, a1.Kids.t]), (.str a2), (a3.t), (i4 a4)]
noncomputable def cx_ (a0 : ByteArray) : Option Bool := semV Try.prog md ext E_bool 95 [(.str a0)]
noncomputable def cS_ (a0 : ByteArray) (a1 : Bool) : Option (Sl (Iv .i64)) := semO Try.prog md ext Sh_sl_i64 101 [(.str a0), (.bool a1)]
noncomputable def bQ_ (a0 : (Sl DMatch)) (a1 : (Sl DMatch)) (a2 : T) : Option Bool := semV Try.prog md ext E_bool 102 [(a0.t), (a1.t), (a2)]
noncomputable def dB_ (a0 : DMatch) (a1 : DMatch) : Option Bool := semV Try.prog md ext E_bool 103 [(.agg (DMatch.cells a0)), (.agg (DMatch.cells a1))]
noncomputable def aX_ (a0 : DPattern) (a1 : Int) : Option Int := semV Try.prog md ext E_i64 105 [(.agg [i4 a0.Kind, i4 a0.Num, .str a0.Text, a0.Kids.t]), (i4 a1)]
noncomputable def dX_ (a0 : ByteArray) : Option Bool := semV Try.prog md ext E_bool 108 [(.str a0)]
noncomputable def bZ_ (a0 : DPattern) : Option Bool := semV Try.prog md ext E_bool 109 [(.agg [i4 a0.Kind, i4 a0.Num, .str a0.Text, a0.Kids.t])]
noncomputable def cH_ (a0 : (Sl DNamed)) (a1 : T) : Option Bool := semV Try.prog md ext E_bool 112 [(a0.t), (a1)]
noncomputable def di_ (a0 : DNamed) : Option Bool := semV Try.prog md ext E_bool 113 [(.agg (DNamed.cells a0))]
noncomputable def dY_ (a0 : ByteArray) : Option Bool := semV Try.prog md ext E_bool 114 [(.str a0)]
noncomputable def b6_ (a0 : Int) : Option (Int × ByteArray) := semV Try.prog md ext E_t2_i64_str 118 [(i4 a0)]
noncomputable def aC_ (a0 : DPattern) (a1 : Int) : Option Int := semV Try.prog md ext E_i64 121 [(.agg [i4 a0.Kind, i4 a0.Num, .str a0.Text, a0.Kids.t]), (i4 a1)]
noncomputable def cc_ (a0 : (Sl DCapture)) (a1 : (Sl DCapture)) : Option Bool := semV Try.prog md ext E_bool 132 [(a0.t), (a1.t)]
noncomputable def eH_ (a0 : DPattern) : Option Bool := semV Try.prog md ext E_bool 133 [(.agg [i4 a0.Kind, i4 a0.Num, .str a0.Text, a0.Kids.t])]
noncomputable def dj_ (a0 : ByteArray) (a1 : Int) : Option Int := semV Try.prog md ext E_i64 135 [(.str a0), (i4 a1)]
noncomputable def cQ_ (a0 : Int) : Option Bool := semV Try.prog md ext E_bool 136 [(.int .u8 a0)]
noncomputable def ex_ (a0 : (Sl (Iv .u8))) (a1 : T) : Option Bool := semV Try.prog md ext E_bool 137 [(a0.t), (a1)]
noncomputable def dn_ (a0 : Int) : Option Bool := semV Try.prog md ext E_bool 138 [(.int .u8 a0)]
noncomputable def ga_ (a0 : Int) : Option (ByteArray × ByteArray) := semV Try.prog md ext E_t2_str_str 139 [(i4 a0)]
noncomputable def df_ (a0 : Int) (a1 : Int) (a2 : ByteArray) : Option Bool := semV Try.prog md ext E_bool 140 [(i4 a0), (i4 a1), (.str a2)]
noncomputable def e9_ (a0 : Int) : Option Int := semV Try.prog md ext E_i64 141 [(i4 a0)]
noncomputable def bX_ (a0 : ByteArray) (a1 : Int) (a2 : Int) : Option Int := semV Try.prog md ext E_i64 145 [(.str a0), (i4 a1), (i4 a2)]
noncomputable def fb_ (a0 : DPattern) (a1 : ByteArray) (a2 : Int) : Option Int := semV Try.prog md ext E_i64 148 [(.agg [i4 a0.Kind, i4 a0.Num, .str a0.Text, a0.Kids.t]), (.str a1), (i4 a2)]
noncomputable def bw_ (a0 : ByteArray) (a1 : Int) (a2 : Int) : Option Int := semV Try.prog md ext E_i64 150 [(.str a0), (i4 a1), (i4 a2)]
noncomputable def dU_ (a0 : Int) (a1 : Int) (a2 : ByteArray) (a3 : ByteArray) (a4 : Int) : Option Int := semV Try.prog md ext E_i64 155 [(i4 a0), (i4 a1), (.str a2), (.str a3), (i4 a4)]
noncomputable def a1_ (a0 : (Sl (Sl DCapture))) : Option (Sl DCapture) := semO Try.prog md ext Sh_sl_DCapture 156 [(a0.t)]
noncomputable def b4_ (a0 : Int) : Option Bool := semV Try.prog md ext E_bool 158 [(.int .u8 a0)]
noncomputable def c3_ (a0 : Int) : Option Bool := semV Try.prog md ext E_bool 159 [(.int .u8 a0)]
noncomputable def eC_ (a0 : Int) : Option Bool := semV Try.prog md ext E_bool 160 [(.int .u8 a0)]
noncomputable def fd_ (a0 : Int) : Option Bool := semV Try.prog md ext E_bool 161 [(i4 a0)]
noncomputable def dG_ (a0 : Int) : Option Bool := semV Try.prog md ext E_bool 162 [(i4 a0)]
noncomputable def eE_ (a0 : Int) : Option Bool := semV Try.prog md ext E_bool 163 [(i4 a0)]
noncomputable def cv_ (a0 : Int) : Option Bool := semV Try.prog md ext E_bool 164 [(i4 a0)]
noncomputable def a9_ (a0 : ByteArray) (a1 : Int) : Option Bool := semV Try.prog md ext E_bool 166 [(.str a0), (.int .u8 a1)]
noncomputable def bj_ (a0 : Int) (a1 : ByteArray) : Option Bool := semL Try.prog md ext E_bool 170 (fun bs => match bs with | [bp1] => [(.int .u8 a0), (.ptr bp1 0 0 1)] | _ => []) [[.str a1]]
noncomputable def cE_ (a0 : ByteArray) (a1 : Int) : Option Int := semV Try.prog md ext E_i64 171 [(.str a0), (.int .u8 a1)]
noncomputable def cB_ (a0 : ByteArray) (a1 : ByteArray) : Option Bool := semV Try.prog md ext E_bool 172 [(.str a0), (.str a1)]
noncomputable def dq_ (a0 : Int) (a1 : Int) (a2 : Bool) : Option Int := semV Try.prog md ext E_i64 175 [(i4 a0), (i4 a1), (.bool a2)]
noncomputable def ba_ (a0 : ByteArray) (a1 : Int) : Option Int := semV Try.prog md ext E_i64 177 [(.str a0), (.int .u8 a1)]
noncomputable def bd_ (a0 : ByteArray) (a1 : ByteArray) : Option Bool := semV Try.prog md ext E_bool 178 [(.str a0), (.str a1)]
theorem ext_x : XOk ext := by
 intro f g h1
 by_cases hf : f = 179
 · subst hf; injection h1 with h1; subst h1; exact tO_
 · have e : ext f = none := by
    show (bif Nat.beq f 179 then some idxE else none) = none
    cases hb : Nat.beq f 179 with
    | false => rfl
    | true => exact absurd (Nat.eq_of_beq_eq_true hb) hf
   rw [e] at h1; cases h1
noncomputable def bB_ (a0 : ByteArray) (a1 : Int) : Option Int := semV Try.prog md ext E_i64 179 [(.str a0), (.int .u8 a1)]
noncomputable def bC_ (a0 : ByteArray) (a1 : Int) : Option Int := some (firstIdx a0 a1.toNat.toUInt8)
theorem cN_ (a0 : ByteArray) (a1 : Int) (r : Int) (h : bC_ a0 a1 = some r) : bB_ a0 a1 = some r := by
 unfold bC_ at h
 injection h with h; subst h
 exact pv_ E_i64_inj rfl rfl a0 a1 (fun _ => rfl)
theorem ext_ok : ∀ f g args σ r σ', ext f = some g → g args σ = some (r, σ') → gq_ Try.prog f args σ r σ' := by
 intro f g args σ r σ' h1 h2
 by_cases hf : f = 179
 · subst hf; injection h1 with h1; subst h1; exact rh_ (fn := Try.f179) (by kernel_rfl) (by kernel_rfl) (by kernel_rfl) (by kernel_rfl) (by rfl) args σ r σ' h2
 · have e : ext f = none := by
    show (bif Nat.beq f 179 then some idxE else none) = none
    cases hb : Nat.beq f 179 with
    | false => rfl
    | true => exact absurd (Nat.eq_of_beq_eq_true hb) hf
   rw [e] at h1; cases h1
theorem ok_14 : Ok Try.prog 14 (Try.f14.body.getD .skip) Try.f14.ntmps Try.f14.results.toList := ⟨Try.f14, by kernel_rfl, by kernel_rfl, by kernel_rfl, by kernel_rfl, rfl, rfl⟩
theorem ok_29 : Ok Try.prog 29 (Try.f29.body.getD .skip) Try.f29.ntmps Try.f29.results.toList := ⟨Try.f29, by kernel_rfl, by kernel_rfl, by kernel_rfl, by kernel_rfl, rfl, rfl⟩
theorem ok_33 : Ok Try.prog 33 (Try.f33.body.getD .skip) Try.f33.ntmps Try.f33.results.toList := ⟨Try.f33, by kernel_rfl, by kernel_rfl, by kernel_rfl, by kernel_rfl, rfl, rfl⟩
theorem ok_36 : Ok Try.prog 36 (Try.f36.body.getD .skip) Try.f36.ntmps Try.f36.results.toList := ⟨Try.f36, by kernel_rfl, by kernel_rfl, by kernel_rfl, by kernel_rfl, rfl, rfl⟩
theorem ok_48 : Ok Try.prog 48 (Try.f48.body.getD .skip) Try.f48.ntmps Try.f48.results.toList := ⟨Try.f48, by kernel_rfl, by kernel_rfl, by kernel_rfl, by kernel_rfl, rfl, rfl⟩
theorem ok_50 : Ok Try.prog 50 (Try.f50.body.getD .skip) Try.f50.ntmps Try.f50.results.toList := ⟨Try.f50, by kernel_rfl, by kernel_rfl, by kernel_rfl, by kernel_rfl, rfl, rfl⟩
theorem ok_52 : Ok Try.prog 52 (Try.f52.body.getD .skip) Try.f52.ntmps Try.f52.results.toList := ⟨Try.f52, by kernel_rfl, by kernel_rfl, by kernel_rfl, by kernel_rfl, rfl, rfl⟩
theorem ok_57 : Ok Try.prog 57 (Try.f57.body.getD .skip) Try.f57.ntmps Try.f57.results.toList := ⟨Try.f57, by kernel_rfl, by kernel_rfl, by kernel_rfl, by kernel_rfl, rfl, rfl⟩
theorem ok_59 : Ok Try.prog 59 (Try.f59.body.getD .skip) Try.f59.ntmps Try.f59.results.toList := ⟨Try.f59, by kernel_rfl, by kernel_rfl, by kernel_rfl, by kernel_rfl, rfl, rfl⟩
theorem ok_60 : Ok Try.prog 60 (Try.f60.body.getD .skip) Try.f60.ntmps Try.f60.results.toList := ⟨Try.f60, by kernel_rfl, by kernel_rfl, by kernel_rfl, by kernel_rfl, rfl, rfl⟩
theorem ok_66 : Ok Try.prog 66 (Try.f66.body.getD .skip) Try.f66.ntmps Try.f66.results.toList := ⟨Try.f66, by kernel_rfl, by kernel_rfl, by kernel_rfl, by kernel_rfl, rfl, rfl⟩
theorem ok_67 : Ok Try.prog 67 (Try.f67.body.getD .skip) Try.f67.ntmps Try.f67.results.toList := ⟨Try.f67, by kernel_rfl, by kernel_rfl, by kernel_rfl, by kernel_rfl, rfl, rfl⟩
theorem ok_70 : Ok Try.prog 70 (Try.f70.body.getD .skip) Try.f70.ntmps Try.f70.results.toList := ⟨Try.f70, by kernel_rfl, by kernel_rfl, by kernel_rfl, by kernel_rfl, rfl, rfl⟩
theorem ok_71 : Ok Try.prog 71 (Try.f71.body.getD .skip) Try.f71.ntmps Try.f71.results.toList := ⟨Try.f71, by kernel_rfl, by kernel_rfl, by kernel_rfl, by kernel_rfl, rfl, rfl⟩
theorem ok_72 : Ok Try.prog 72 (Try.f72.body.getD .skip) Try.f72.ntmps Try.f72.results.toList := ⟨Try.f72, by kernel_rfl, by kernel_rfl, by kernel_rfl, by kernel_rfl, rfl, rfl⟩
theorem ok_74 : Ok Try.prog 74 (Try.f74.body.getD .skip) Try.f74.ntmps Try.f74.results.toList := ⟨Try.f74, by kernel_rfl, by kernel_rfl, by kernel_rfl, by kernel_rfl, rfl, rfl⟩
theorem ok_76 : Ok Try.prog 76 (Try.f76.body.getD .skip) Try.f76.ntmps Try.f76.results.toList := ⟨Try.f76, by kernel_rfl, by kernel_rfl, by kernel_rfl, by kernel_rfl, rfl, rfl⟩
theorem ok_77 : Ok Try.prog 77 (Try.f77.body.getD .skip) Try.f77.ntmps Try.f77.results.toList := ⟨Try.f77, by kernel_rfl, by kernel_rfl, by kernel_rfl, by kernel_rfl, rfl, rfl⟩
theorem ok_78 : Ok Try.prog 78 (Try.f78.body.getD .skip) Try.f78.ntmps Try.f78.results.toList := ⟨Try.f78, by kernel_rfl, by kernel_rfl, by kernel_rfl, by kernel_rfl, rfl, rfl⟩
theorem ok_80 : Ok Try.prog 80 (Try.f80.body.getD .skip) Try.f80.ntmps Try.f80.results.toList := ⟨Try.f80, by kernel_rfl, by kernel_rfl, by kernel_rfl, by kernel_rfl, rfl, rfl⟩
theorem ok_84 : Ok Try.prog 84 (Try.f84.body.getD .skip) Try.f84.ntmps Try.f84.results.toList := ⟨Try.f84, by kernel_rfl, by kernel_rfl, by kernel_rfl, by kernel_rfl, rfl, rfl⟩
theorem ok_85 : Ok Try.prog 85 (Try.f85.body.getD .skip) Try.f85.ntmps Try.f85.results.toList := ⟨Try.f85, by kernel_rfl, by kernel_rfl, by kernel_rfl, by kernel_rfl, rfl, rfl⟩
theorem ok_87 : Ok Try.prog 87 (Try.f87.body.getD .skip) Try.f87.ntmps Try.f87.results.toList := ⟨Try.f87, by kernel_rfl, by kernel_rfl, by kernel_rfl, by kernel_rfl, rfl, rfl⟩
theorem ok_88 : Ok Try.prog 88 (Try.f88.body.getD .skip) Try.f88.ntmps Try.f88.results.toList := ⟨Try.f88, by kernel_rfl, by kernel_rfl, by kernel_rfl, by kernel_rfl, rfl, rfl⟩
theorem ok_89 : Ok Try.prog 89 (Try.f89.body.getD .skip) Try.f89.ntmps Try.f89.results.toList := ⟨Try.f89, by kernel_rfl, by kernel_rfl, by kernel_rfl, by kernel_rfl, rfl, rfl⟩
theorem ok_90 : Ok Try.prog 90 (Try.f90.body.getD .skip) Try.f90.ntmps Try.f90.results.toList := ⟨Try.f90, by kernel_rfl, by kernel_rfl, by kernel_rfl, by kernel_rfl, rfl, rfl⟩
theorem ok_91 : Ok Try.prog 91 (Try.f91.body.getD .skip) Try.f91.ntmps Try.f91.results.toList := ⟨Try.f91, by kernel_rfl, by kernel_rfl, by kernel_rfl, by kernel_rfl, rfl, rfl⟩
theorem ok_92 : Ok Try.prog 92 (Try.f92.body.getD .skip) Try.f92.ntmps Try.f92.results.toList := ⟨Try.f92, by kernel_rfl, by kernel_rfl, by kernel_rfl, by kernel_rfl, rfl, rfl⟩
theorem ok_93 : Ok Try.prog 93 (Try.f93.body.getD .skip) Try.f93.ntmps Try.f93.results.toList := ⟨Try.f93, by kernel_rfl, by kernel_rfl, by kernel_rfl, by kernel_rfl, rfl, rfl⟩
theorem ok_95 : Ok Try.prog 95 (Try.f95.body.getD .skip) Try.f95.ntmps Try.f95.results.toList := ⟨Try.f95, by kernel_rfl, by kernel_rfl, by kernel_rfl, by kernel_rfl, rfl, rfl⟩
theorem ok_96 : Ok Try.prog 96 (Try.f96.body.getD .skip) Try.f96.ntmps Try.f96.results.toList := ⟨Try.f96, by kernel_rfl, by kernel_rfl, by kernel_rfl, by kernel_rfl, rfl, rfl⟩
theorem ok_100 : Ok Try.prog 100 (Try.f100.body.getD .skip) Try.f100.ntmps Try.f100.results.toList := ⟨Try.f100, by kernel_rfl, by kernel_rfl, by kernel_rfl, by kernel_rfl, rfl, rfl⟩
theorem ok_101 : Ok Try.prog 101 (Try.f101.body.getD .skip) Try.f101.ntmps Try.f101.results.toList := ⟨Try.f101, by kernel_rfl, by kernel_rfl, by kernel_rfl, by kernel_rfl, rfl, rfl⟩
theorem ok_102 : Ok Try.prog 102 (Try.f102.body.getD .skip) Try.f102.ntmps Try.f102.results.toList := ⟨Try.f102, by kernel_rfl, by kernel_rfl, by kernel_rfl, by kernel_rfl, rfl, rfl⟩
theorem ok_103 : Ok Try.prog 103 (Try.f103.body.getD .skip) Try.f103.ntmps Try.f103.results.toList := ⟨Try.f103, by kernel_rfl, by kernel_rfl, by kernel_rfl, by kernel_rfl, rfl, rfl⟩
theorem ok_105 : Ok Try.prog 105 (Try.f105.body.getD .skip) Try.f105.ntmps Try.f105.results.toList := ⟨Try.f105, by kernel_rfl, by kernel_rfl, by kernel_rfl, by kernel_rfl, rfl, rfl⟩
theorem ok_108 : Ok Try.prog 108 (Try.f108.body.getD .skip) Try.f108.ntmps Try.f108.results.toList := ⟨Try.f108, by kernel_rfl, by kernel_rfl, by kernel_rfl, by kernel_rfl, rfl, rfl⟩
theorem ok_109 : Ok Try.prog 109 (Try.f109.body.getD .skip) Try.f109.ntmps Try.f109.results.toList := ⟨Try.f109, by kernel_rfl, by kernel_rfl, by kernel_rfl, by kernel_rfl, rfl, rfl⟩
theorem ok_110 : Ok Try.prog 110 (Try.f110.body.getD .skip) Try.f110.ntmps Try.f110.results.toList := ⟨Try.f110, by kernel_rfl, by kernel_rfl, by kernel_rfl, by kernel_rfl, rfl, rfl⟩
theorem ok_111 : Ok Try.prog 111 (Try.f111.body.getD .skip) Try.f111.ntmps Try.f111.results.toList := ⟨Try.f111, by kernel_rfl, by kernel_rfl, by kernel_rfl, by kernel_rfl, rfl, rfl⟩
theorem ok_112 : Ok Try.prog 112 (Try.f112.body.getD .skip) Try.f112.ntmps Try.f112.results.toList := ⟨Try.f112, by kernel_rfl, by kernel_rfl, by kernel_rfl, by kernel_rfl, rfl, rfl⟩
theorem ok_113 : Ok Try.prog 113 (Try.f113.body.getD .skip) Try.f113.ntmps Try.f113.results.toList := ⟨Try.f113, by kernel_rfl, by kernel_rfl, by kernel_rfl, by kernel_rfl, rfl, rfl⟩
theorem ok_114 : Ok Try.prog 114 (Try.f114.body.getD .skip) Try.f114.ntmps Try.f114.results.toList := ⟨Try.f114, by kernel_rfl, by kernel_rfl, by kernel_rfl, by kernel_rfl, rfl, rfl⟩
theorem ok_115 : Ok Try.prog 115 (Try.f115.body.getD .skip) Try.f115.ntmps Try.f115.results.toList := ⟨Try.f115, by kernel_rfl, by kernel_rfl, by kernel_rfl, by kernel_rfl, rfl, rfl⟩
theorem ok_116 : Ok Try.prog 116 (Try.f116.body.getD .skip) Try.f116.ntmps Try.f116.results.toList := ⟨Try.f116, by kernel_rfl, by kernel_rfl, by kernel_rfl, by kernel_rfl, rfl, rfl⟩
theorem ok_117 : Ok Try.prog 117 (Try.f117.body.getD .skip) Try.f117.ntmps Try.f117.results.toList := ⟨Try.f117, by kernel_rfl, by kernel_rfl, by kernel_rfl, by kernel_rfl, rfl, rfl⟩
theorem ok_118 : Ok Try.prog 118 (Try.f118.body.getD .skip) Try.f118.ntmps Try.f118.results.toList := ⟨Try.f118, by kernel_rfl, by kernel_rfl, by kernel_rfl, by kernel_rfl, rfl, rfl⟩
theorem ok_119 : Ok Try.prog 119 (Try.f119.body.getD .skip) Try.f119.ntmps Try.f119.results.toList := ⟨Try.f119, by kernel_rfl, by kernel_rfl, by kernel_rfl, by kernel_rfl, rfl, rfl⟩
theorem ok_120 : Ok Try.prog 120 (Try.f120.body.getD .skip) Try.f120.ntmps Try.f120.results.toList := ⟨Try.f120, by kernel_rfl, by kernel_rfl, by kernel_rfl, by kernel_rfl, rfl, rfl⟩
theorem ok_121 : Ok Try.prog 121 (Try.f121.body.getD .skip) Try.f121.ntmps Try.f121.results.toList := ⟨Try.f121, by kernel_rfl, by kernel_rfl, by kernel_rfl, by kernel_rfl, rfl, rfl⟩
theorem ok_126 : Ok Try.prog 126 (Try.f126.body.getD .skip) Try.f126.ntmps Try.f126.results.toList := ⟨Try.f126, by kernel_rfl, by kernel_rfl, by kernel_rfl, by kernel_rfl, rfl, rfl⟩
theorem ok_127 : Ok Try.prog 127 (Try.f127.body.getD .skip) Try.f127.ntmps Try.f127.results.toList := ⟨Try.f127, by kernel_rfl, by kernel_rfl, by kernel_rfl, by kernel_rfl, rfl, rfl⟩
theorem ok_128 : Ok Try.prog 128 (Try.f128.body.getD .skip) Try.f128.ntmps Try.f128.results.toList := ⟨Try.f128, by kernel_rfl, by kernel_rfl, by kernel_rfl, by kernel_rfl, rfl, rfl⟩
theorem ok_129 : Ok Try.prog 129 (Try.f129.body.getD .skip) Try.f129.ntmps Try.f129.results.toList := ⟨Try.f129, by kernel_rfl, by kernel_rfl, by kernel_rfl, by kernel_rfl, rfl, rfl⟩
theorem ok_130 : Ok Try.prog 130 (Try.f130.body.getD .skip) Try.f130.ntmps Try.f130.results.toList := ⟨Try.f130, by kernel_rfl, by kernel_rfl, by kernel_rfl, by kernel_rfl, rfl, rfl⟩
theorem ok_132 : Ok Try.prog 132 (Try.f132.body.getD .skip) Try.f132.ntmps Try.f132.results.toList := ⟨Try.f132, by kernel_rfl, by kernel_rfl, by kernel_rfl, by kernel_rfl, rfl, rfl⟩
theorem ok_133 : Ok Try.prog 133 (Try.f133.body.getD .skip) Try.f133.ntmps Try.f133.results.toList := ⟨Try.f133, by kernel_rfl, by kernel_rfl, by kernel_rfl, by kernel_rfl, rfl, rfl⟩
theorem ok_135 : Ok Try.prog 135 (Try.f135.body.getD .skip) Try.f135.ntmps Try.f135.results.toList := ⟨Try.f135, by kernel_rfl, by kernel_rfl, by kernel_rfl, by kernel_rfl, rfl, rfl⟩
theorem ok_136 : Ok Try.prog 136 (Try.f136.body.getD .skip) Try.f136.ntmps Try.f136.results.toList := ⟨Try.f136, by kernel_rfl, by kernel_rfl, by kernel_rfl, by kernel_rfl, rfl, rfl⟩
theorem ok_137 : Ok Try.prog 137 (Try.f137.body.getD .skip) Try.f137.ntmps Try.f137.results.toList := ⟨Try.f137, by kernel_rfl, by kernel_rfl, by kernel_rfl, by kernel_rfl, rfl, rfl⟩
theorem ok_138 : Ok Try.prog 138 (Try.f138.body.getD .skip) Try.f138.ntmps Try.f138.results.toList := ⟨Try.f138, by kernel_rfl, by kernel_rfl, by kernel_rfl, by kernel_rfl, rfl, rfl⟩
theorem ok_139 : Ok Try.prog 139 (Try.f139.body.getD .skip) Try.f139.ntmps Try.f139.results.toList := ⟨Try.f139, by kernel_rfl, by kernel_rfl, by kernel_rfl, by kernel_rfl, rfl, rfl⟩
theorem ok_140 : Ok Try.prog 140 (Try.f140.body.getD .skip) Try.f140.ntmps Try.f140.results.toList := ⟨Try.f140, by kernel_rfl, by kernel_rfl, by kernel_rfl, by kernel_rfl, rfl, rfl⟩
theorem ok_141 : Ok Try.prog 141 (Try.f141.body.getD .skip) Try.f141.ntmps Try.f141.results.toList := ⟨Try.f141, by kernel_rfl, by kernel_rfl, by kernel_rfl, by kernel_rfl, rfl, rfl⟩
theorem ok_143 : Ok Try.prog 143 (Try.f143.body.getD .skip) Try.f143.ntmps Try.f143.results.toList := ⟨Try.f143, by kernel_rfl, by kernel_rfl, by kernel_rfl, by kernel_rfl, rfl, rfl⟩
theorem ok_144 : Ok Try.prog 144 (Try.f144.body.getD .skip) Try.f144.ntmps Try.f144.results.toList := ⟨Try.f144, by kernel_rfl, by kernel_rfl, by kernel_rfl, by kernel_rfl, rfl, rfl⟩
theorem ok_145 : Ok Try.prog 145 (Try.f145.body.getD .skip) Try.f145.ntmps Try.f145.results.toList := ⟨Try.f145, by kernel_rfl, by kernel_rfl, by kernel_rfl, by kernel_rfl, rfl, rfl⟩
theorem ok_146 : Ok Try.prog 146 (Try.f146.body.getD .skip) Try.f146.ntmps Try.f146.results.toList := ⟨Try.f146, by kernel_rfl, by kernel_rfl, by kernel_rfl, by kernel_rfl, rfl, rfl⟩
theorem ok_147 : Ok Try.prog 147 (Try.f147.body.getD .skip) Try.f147.ntmps Try.f147.results.toList := ⟨Try.f147, by kernel_rfl, by kernel_rfl, by kernel_rfl, by kernel_rfl, rfl, rfl⟩
theorem ok_148 : Ok Try.prog 148 (Try.f148.body.getD .skip) Try.f148.ntmps Try.f148.results.toList := ⟨Try.f148, by kernel_rfl, by kernel_rfl, by kernel_rfl, by kernel_rfl, rfl, rfl⟩
theorem ok_149 : Ok Try.prog 149 (Try.f149.body.getD .skip) Try.f149.ntmps Try.f149.results.toList := ⟨Try.f149, by kernel_rfl, by kernel_rfl, by kernel_rfl, by kernel_rfl, rfl, rfl⟩
theorem ok_150 : Ok Try.prog 150 (Try.f150.body.getD .skip) Try.f150.ntmps Try.f150.results.toList := ⟨Try.f150, by kernel_rfl, by kernel_rfl, by kernel_rfl, by kernel_rfl, rfl, rfl⟩
theorem ok_151 : Ok Try.prog 151 (Try.f151.body.getD .skip) Try.f151.ntmps Try.f151.results.toList := ⟨Try.f151, by kernel_rfl, by kernel_rfl, by kernel_rfl, by kernel_rfl, rfl, rfl⟩
theorem ok_152 : Ok Try.prog 152 (Try.f152.body.getD .skip) Try.f152.ntmps Try.f152.results.toList := ⟨Try.f152, by kernel_rfl, by kernel_rfl, by kernel_rfl, by kernel_rfl, rfl, rfl⟩
theorem ok_153 : Ok Try.prog 153 (Try.f153.body.getD .skip) Try.f153.ntmps Try.f153.results.toList := ⟨Try.f153, by kernel_rfl, by kernel_rfl, by kernel_rfl, by kernel_rfl, rfl, rfl⟩
theorem ok_154 : Ok Try.prog 154 (Try.f154.body.getD .skip) Try.f154.ntmps Try.f154.results.toList := ⟨Try.f154, by kernel_rfl, by kernel_rfl, by kernel_rfl, by kernel_rfl, rfl, rfl⟩
theorem ok_155 : Ok Try.prog 155 (Try.f155.body.getD .skip) Try.f155.ntmps Try.f155.results.toList := ⟨Try.f155, by kernel_rfl, by kernel_rfl, by kernel_rfl, by kernel_rfl, rfl, rfl⟩
theorem ok_156 : Ok Try.prog 156 (Try.f156.body.getD .skip) Try.f156.ntmps Try.f156.results.toList := ⟨Try.f156, by kernel_rfl, by kernel_rfl, by kernel_rfl, by kernel_rfl, rfl, rfl⟩
theorem ok_158 : Ok Try.prog 158 (Try.f158.body.getD .skip) Try.f158.ntmps Try.f158.results.toList := ⟨Try.f158, by kernel_rfl, by kernel_rfl, by kernel_rfl, by kernel_rfl, rfl, rfl⟩
theorem ok_159 : Ok Try.prog 159 (Try.f159.body.getD .skip) Try.f159.ntmps Try.f159.results.toList := ⟨Try.f159, by kernel_rfl, by kernel_rfl, by kernel_rfl, by kernel_rfl, rfl, rfl⟩
theorem ok_160 : Ok Try.prog 160 (Try.f160.body.getD .skip) Try.f160.ntmps Try.f160.results.toList := ⟨Try.f160, by kernel_rfl, by kernel_rfl, by kernel_rfl, by kernel_rfl, rfl, rfl⟩
theorem ok_161 : Ok Try.prog 161 (Try.f161.body.getD .skip) Try.f161.ntmps Try.f161.results.toList := ⟨Try.f161, by kernel_rfl, by kernel_rfl, by kernel_rfl, by kernel_rfl, rfl, rfl⟩
theorem ok_162 : Ok Try.prog 162 (Try.f162.body.getD .skip) Try.f162.ntmps Try.f162.results.toList := ⟨Try.f162, by kernel_rfl, by kernel_rfl, by kernel_rfl, by kernel_rfl, rfl, rfl⟩
theorem ok_163 : Ok Try.prog 163 (Try.f163.body.getD .skip) Try.f163.ntmps Try.f163.results.toList := ⟨Try.f163, by kernel_rfl, by kernel_rfl, by kernel_rfl, by kernel_rfl, rfl, rfl⟩
theorem ok_164 : Ok Try.prog 164 (Try.f164.body.getD .skip) Try.f164.ntmps Try.f164.results.toList := ⟨Try.f164, by kernel_rfl, by kernel_rfl, by kernel_rfl, by kernel_rfl, rfl, rfl⟩
theorem ok_165 : Ok Try.prog 165 (Try.f165.body.getD .skip) Try.f165.ntmps Try.f165.results.toList := ⟨Try.f165, by kernel_rfl, by kernel_rfl, by kernel_rfl, by kernel_rfl, rfl, rfl⟩
theorem ok_166 : Ok Try.prog 166 (Try.f166.body.getD .skip) Try.f166.ntmps Try.f166.results.toList := ⟨Try.f166, by kernel_rfl, by kernel_rfl, by kernel_rfl, by kernel_rfl, rfl, rfl⟩
theorem ok_167 : Ok Try.prog 167 (Try.f167.body.getD .skip) Try.f167.ntmps Try.f167.results.toList := ⟨Try.f167, by kernel_rfl, by kernel_rfl, by kernel_rfl, by kernel_rfl, rfl, rfl⟩
theorem ok_168 : Ok Try.prog 168 (Try.f168.body.getD .skip) Try.f168.ntmps Try.f168.results.toList := ⟨Try.f168, by kernel_rfl, by kernel_rfl, by kernel_rfl, by kernel_rfl, rfl, rfl⟩
theorem ok_169 : Ok Try.prog 169 (Try.f169.body.getD .skip) Try.f169.ntmps Try.f169.results.toList := ⟨Try.f169, by kernel_rfl, by kernel_rfl, by kernel_rfl, by kernel_rfl, rfl, rfl⟩
theorem ok_170 : Ok Try.prog 170 (Try.f170.body.getD .skip) Try.f170.ntmps Try.f170.results.toList := ⟨Try.f170, by kernel_rfl, by kernel_rfl, by kernel_rfl, by kernel_rfl, rfl, rfl⟩
theorem ok_171 : Ok Try.prog 171 (Try.f171.body.getD .skip) Try.f171.ntmps Try.f171.results.toList := ⟨Try.f171, by kernel_rfl, by kernel_rfl, by kernel_rfl, by kernel_rfl, rfl, rfl⟩
theorem ok_172 : Ok Try.prog 172 (Try.f172.body.getD .skip) Try.f172.ntmps Try.f172.results.toList := ⟨Try.f172, by kernel_rfl, by kernel_rfl, by kernel_rfl, by kernel_rfl, rfl, rfl⟩
theorem ok_173 : Ok Try.prog 173 (Try.f173.body.getD .skip) Try.f173.ntmps Try.f173.results.toList := ⟨Try.f173, by kernel_rfl, by kernel_rfl, by kernel_rfl, by kernel_rfl, rfl, rfl⟩
theorem ok_174 : Ok Try.prog 174 (Try.f174.body.getD .skip) Try.f174.ntmps Try.f174.results.toList := ⟨Try.f174, by kernel_rfl, by kernel_rfl, by kernel_rfl, by kernel_rfl, rfl, rfl⟩
theorem ok_175 : Ok Try.prog 175 (Try.f175.body.getD .skip) Try.f175.ntmps Try.f175.results.toList := ⟨Try.f175, by kernel_rfl, by kernel_rfl, by kernel_rfl, by kernel_rfl, rfl, rfl⟩
theorem ok_176 : Ok Try.prog 176 (Try.f176.body.getD .skip) Try.f176.ntmps Try.f176.results.toList := ⟨Try.f176, by kernel_rfl, by kernel_rfl, by kernel_rfl, by kernel_rfl, rfl, rfl⟩
theorem ok_177 : Ok Try.prog 177 (Try.f177.body.getD .skip) Try.f177.ntmps Try.f177.results.toList := ⟨Try.f177, by kernel_rfl, by kernel_rfl, by kernel_rfl, by kernel_rfl, rfl, rfl⟩
theorem ok_178 : Ok Try.prog 178 (Try.f178.body.getD .skip) Try.f178.ntmps Try.f178.results.toList := ⟨Try.f178, by kernel_rfl, by kernel_rfl, by kernel_rfl, by kernel_rfl, rfl, rfl⟩
end Go.Am
end
