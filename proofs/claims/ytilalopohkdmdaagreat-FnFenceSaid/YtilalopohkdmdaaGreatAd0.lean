/- The data. -/
import Derived.Test.YtilalopohkdmdaaGreatAm6
import Derived.Test.YtilalopohkdmdaaGreatProg
section
set_option maxRecDepth 100000
set_option linter.unusedVariables false
set_option linter.unusedSimpArgs false
namespace Go.Am
open Go.Proofs
structure DPattern where
 Kind : Int
 Num : Int
 Text : ByteArray
 Kids : (Sl DPattern)
mutual
def DPattern.cells : DPattern → List T
 | ⟨f0, f1, f2, ⟨z3, l3⟩⟩ => [i4 f0, i4 f1, .str f2, .row z3 l3.length (DPattern.cellsK l3)]
def DPattern.cellsK : List DPattern → List T
 | [] => []
 | p :: l => p.cells ++ DPattern.cellsK l
end
theorem DPattern.len (p : DPattern) : p.cells.length = 4 := by
 obtain ⟨f0, f1, f2, ⟨z3, l3⟩⟩ := p; simp [DPattern.cells]
theorem DPattern.one (p : DPattern) : p.cells.all T.one = true := by
 obtain ⟨f0, f1, f2, ⟨z3, l3⟩⟩ := p; simp [DPattern.cells]
mutual
theorem DPattern.pure : ∀ p : DPattern, pureL p.cells = true
 | ⟨f0, f1, f2, ⟨z3, l3⟩⟩ => by simp [DPattern.cells, pureL, pureT, DPattern.pureK l3]
theorem DPattern.pureK : ∀ l : List DPattern, pureL (DPattern.cellsK l) = true
 | [] => by simp [DPattern.cellsK, pureL]
 | p :: l => by simp [DPattern.cellsK, pureL_append, p.pure, DPattern.pureK l]
end
mutual
theorem DPattern.inj : ∀ p q : DPattern, p.cells = q.cells → p = q
 | ⟨f0, f1, f2, ⟨z3, l3⟩⟩, ⟨f0', f1', f2', ⟨z3', l3'⟩⟩, h => by
  simp only [DPattern.cells, List.cons.injEq, and_true, T.int.injEq, T.str.injEq, T.bool.injEq, T.row.injEq, true_and, Sl.inj_iff] at h
  have hk : l3 = l3' := DPattern.injK l3 l3' (by simp_all) (by simp_all)
  simp_all
theorem DPattern.injK : ∀ l l' : List DPattern, l.length = l'.length → DPattern.cellsK l = DPattern.cellsK l' → l = l'
 | [], [], _, _ => rfl
 | [], _ :: _, h, _ => by simp at h
 | _ :: _, [], h, _ => by simp at h
 | p :: l, p' :: l', h, k => by
  simp only [DPattern.cellsK] at k
  have e := List.append_inj k (by rw [DPattern.len, DPattern.len])
  rw [DPattern.inj p p' e.1, DPattern.injK l l' (by simpa using h) e.2]
end
instance : Enc DPattern := ⟨DPattern.cells, 4, DPattern.len, DPattern.one, DPattern.pure, DPattern.inj⟩
theorem DPattern.cellsK_eq : ∀ l : List DPattern, DPattern.cellsK l = al_ l
 | [] => rfl
 | p :: l => by simp only [DPattern.cellsK, al_, DPattern.cellsK_eq l]; rfl
theorem DPattern.cells_eq (p : DPattern) : p.cells = [i4 p.Kind, i4 p.Num, .str p.Text, p.Kids.t] := by
 obtain ⟨f0, f1, f2, ⟨z3, l3⟩⟩ := p; simp only [DPattern.cells, DPattern.cellsK_eq]; rfl
theorem DPattern.enc_eq (p : DPattern) : Enc.cells p = [i4 p.Kind, i4 p.Num, .str p.Text, p.Kids.t] := DPattern.cells_eq p
instance : Lit DPattern := ⟨fun p => [i4 p.Kind, i4 p.Num, .str p.Text, p.Kids.t], fun p => DPattern.cells_eq p⟩
theorem DPattern.inj_agg : ∀ p q : DPattern, T.agg [i4 p.Kind, i4 p.Num, .str p.Text, p.Kids.t] = T.agg [i4 q.Kind, i4 q.Num, .str q.Text, q.Kids.t] → p = q := fun p q h => DPattern.inj p q (by injection h with h; rw [DPattern.cells_eq, DPattern.cells_eq]; exact h)
structure DNamed where
 Name : ByteArray
 Pattern : DPattern
def DNamed.cells (x : DNamed) : List T := [.str x.Name, i4 x.Pattern.Kind, i4 x.Pattern.Num, .str x.Pattern.Text, x.Pattern.Kids.t]
instance : Enc DNamed := ⟨DNamed.cells, 5, fun _ => rfl, fun _ => rfl, fun x => by simp [DNamed.cells, pureL, pureT], fun a b h => by
 rcases a with ⟨_, ⟨_, _, _, _⟩⟩; rcases b with ⟨_, ⟨_, _, _, _⟩⟩; simp [DNamed.cells] at h; simp_all⟩
instance : Lit DNamed := ⟨fun x => [.str x.Name, i4 x.Pattern.Kind, i4 x.Pattern.Num, .str x.Pattern.Text, x.Pattern.Kids.t], fun _ => rfl⟩
instance : Hld false DNamed := ⟨fun a σ d => by show frzL (hold false σ d) (DNamed.cells a) = some (DNamed.cells a, []); simp [DNamed.cells, frzL]⟩
structure DCapture where
 Name : ByteArray
 Text : ByteArray
 Cursor : Int
 Kind : Int
def DCapture.cells (x : DCapture) : List T := [.str x.Name, .str x.Text, i4 x.Cursor, i4 x.Kind]
instance : Enc DCapture := ⟨DCapture.cells, 4, fun _ => rfl, fun _ => rfl, fun x => by simp [DCapture.cells, pureL, pureT], fun a b h => by
 rcases a with ⟨_, _, _, _⟩; rcases b with ⟨_, _, _, _⟩; simp [DCapture.cells] at h; simp_all⟩
instance : Lit DCapture := ⟨fun x => [.str x.Name, .str x.Text, i4 x.Cursor, i4 x.Kind], fun _ => rfl⟩
instance (z : Bool) : Hld z DCapture := ⟨fun a σ d => by show frzL (hold z σ d) (DCapture.cells a) = some (DCapture.cells a, []); simp [DCapture.cells, frzL]⟩
structure DMatch where
 Start : Int
 End : Int
 Captures : (Sl DCapture)
def DMatch.cells (x : DMatch) : List T := [i4 x.Start, i4 x.End, x.Captures.t]
instance : Enc DMatch := ⟨DMatch.cells, 3, fun _ => rfl, fun _ => rfl, fun x => by simp [DMatch.cells, pureL, pureT], fun a b h => by
 rcases a with ⟨_, _, _⟩; rcases b with ⟨_, _, _⟩; simp [DMatch.cells] at h; simp_all⟩
instance : Lit DMatch := ⟨fun x => [i4 x.Start, i4 x.End, x.Captures.t], fun _ => rfl⟩
instance : Hld false DMatch := ⟨fun a σ d => by show frzL (hold false σ d) (DMatch.cells a) = some (DMatch.cells a, []); simp [DMatch.cells, frzL]⟩
structure ai_ where
 code_ : (Sl (Iv .u8))
 at_ : Int
 seed_ : Int
def ai_.cells (x : ai_) : List T := [x.code_.t, i4 x.at_, .int .u64 x.seed_]
instance : Enc ai_ := ⟨ai_.cells, 3, fun _ => rfl, fun _ => rfl, fun x => by simp [ai_.cells, pureL, pureT], fun a b h => by
 rcases a with ⟨_, _, _⟩; rcases b with ⟨_, _, _⟩; simp [ai_.cells] at h; simp_all⟩
instance : Lit ai_ := ⟨fun x => [x.code_.t, i4 x.at_, .int .u64 x.seed_], fun _ => rfl⟩
instance : Hld false ai_ := ⟨fun a σ d => by show frzL (hold false σ d) (ai_.cells a) = some (ai_.cells a, []); simp [ai_.cells, frzL]⟩
structure aa_ where
 env_ : (Sl DNamed)
 subject_ : ByteArray
 fuel_ : Int
 steps_ : Int
 start_ : Int
 now_ : (Sl DCapture)
 conds_ : (Sl DCapture)
 matches_ : (Sl DMatch)
 most_ : Int
 isMere_ : Bool
 counts_ : T
 code_ : Int
def aa_.cells (x : aa_) : List T := [x.env_.t, .str x.subject_, i4 x.fuel_, i4 x.steps_, i4 x.start_, x.now_.t, x.conds_.t, x.matches_.t, i4 x.most_, .bool x.isMere_, x.counts_, i4 x.code_]
structure ah_ where
 p_ : DPattern
 c_ : Int
 next_ : Int
def ah_.cells (x : ah_) : List T := [i4 x.p_.Kind, i4 x.p_.Num, .str x.p_.Text, x.p_.Kids.t, i4 x.c_, i4 x.next_]
instance : Enc ah_ := ⟨ah_.cells, 6, fun _ => rfl, fun _ => rfl, fun x => by simp [ah_.cells, pureL, pureT], fun a b h => by
 rcases a with ⟨⟨_, _, _, _⟩, _, _⟩; rcases b with ⟨⟨_, _, _, _⟩, _, _⟩; simp [ah_.cells] at h; simp_all⟩
instance : Lit ah_ := ⟨fun x => [i4 x.p_.Kind, i4 x.p_.Num, .str x.p_.Text, x.p_.Kids.t, i4 x.c_, i4 x.next_], fun _ => rfl⟩
instance : Hld false ah_ := ⟨fun a σ d => by show frzL (hold false σ d) (ah_.cells a) = some (ah_.cells a, []); simp [ah_.cells, frzL]⟩
structure an_ where
 env_ : (Sl DNamed)
 s_ : ByteArray
 fuel_ : Int
 mode_ : Int
 steps_ : Int
 conts_ : (Sl ah_)
 out_ : (Sl DMatch)
 now_ : (Sl DCapture)
 conds_ : (Sl DCapture)
 full_ : Bool
 abort_ : Bool
 stop_ : Bool
 code_ : Int
def an_.cells (x : an_) : List T := [x.env_.t, .str x.s_, i4 x.fuel_, i4 x.mode_, i4 x.steps_, x.conts_.t, x.out_.t, x.now_.t, x.conds_.t, .bool x.full_, .bool x.abort_, .bool x.stop_, i4 x.code_]
instance : Enc an_ := ⟨an_.cells, 13, fun _ => rfl, fun _ => rfl, fun x => by simp [an_.cells, pureL, pureT], fun a b h => by
 rcases a with ⟨_, _, _, _, _, _, _, _, _, _, _, _, _⟩; rcases b with ⟨_, _, _, _, _, _, _, _, _, _, _, _, _⟩; simp [an_.cells] at h; simp_all⟩
instance : Lit an_ := ⟨fun x => [x.env_.t, .str x.s_, i4 x.fuel_, i4 x.mode_, i4 x.steps_, x.conts_.t, x.out_.t, x.now_.t, x.conds_.t, .bool x.full_, .bool x.abort_, .bool x.stop_, i4 x.code_], fun _ => rfl⟩
instance : Hld false an_ := ⟨fun a σ d => by show frzL (hold false σ d) (an_.cells a) = some (an_.cells a, []); simp [an_.cells, frzL]⟩
def md : Nat → Md := fun f => bif [35, 39, 44, 45, 47, 54, 63, 67, 68, 69, 100].elem f then .own else bif [33, 34, 36, 37, 38, 50, 53, 55, 56, 58, 59, 60, 66, 80, 81, 82, 89, 90, 93, 95, 96, 97, 98, 101, 102, 110, 111, 112, 116, 117, 119, 120, 121, 123, 124, 131, 133].elem f then .raw else .view
def ext : Ext := fun f => bif Nat.beq f 133 then some idxE else none
def bigN : Nat := 100000000000
theorem len0 {hs : List T} (h : hs.length = 0) : hs = [] := List.length_eq_zero_iff.1 h
theorem len1 {hs : List T} (h : hs.length = 1) : ∃ a0, hs = [a0] := by
 rcases hs with _ | ⟨a0, _ | ⟨x, l⟩⟩ <;> simp at h
 exact ⟨a0, rfl⟩
theorem len3 {hs : List T} (h : hs.length = 3) : ∃ a0 a1 a2, hs = [a0, a1, a2] := by
 rcases hs with _ | ⟨a0, _ | ⟨a1, _ | ⟨a2, _ | ⟨x, l⟩⟩⟩⟩ <;> simp at h
 exact ⟨a0, a1, a2, rfl⟩
theorem len4 {hs : List T} (h : hs.length = 4) : ∃ a0 a1 a2 a3, hs = [a0, a1, a2, a3] := by
 rcases hs with _ | ⟨a0, _ | ⟨a1, _ | ⟨a2, _ | ⟨a3, _ | ⟨x, l⟩⟩⟩⟩⟩ <;> simp at h
 exact ⟨a0, a1, a2, a3, rfl⟩
def a5_ (b : Nat) (x : aa_) (hs : List T) : List Ent := match hs with | [h1, h2, h3] => [.box b [x.env_.t, .str x.subject_, i4 x.fuel_, i4 x.steps_, i4 x.start_, h1, h2, h3, i4 x.most_, .bool x.isMere_, T.nilm, i4 x.code_], .flt 4 h1 x.now_.t, .flt 4 h2 x.conds_.t, .own true 3 h3 x.matches_.t] | _ => []
def f3_ (b : Nat) (x : an_) (hs : List T) : List Ent := match hs with | [h1, h2, h3, h4] => [.box b [x.env_.t, .str x.s_, i4 x.fuel_, i4 x.mode_, i4 x.steps_, h1, h2, h3, h4, .bool x.full_, .bool x.abort_, .bool x.stop_, i4 x.code_], .flt 6 h1 x.conts_.t, .own true 3 h2 x.out_.t, .flt 4 h3 x.now_.t, .flt 4 h4 x.conds_.t] | _ => []
def E_bool : Bool → T := fun y => .bool y
theorem E_bool_inj : ∀ a b, E_bool a = E_bool b → a = b := inj_bool
theorem E_bool_p : ∀ v, pureT (E_bool v) = true := fun v => by simp [pureT, pureL, E_bool]
def E_sl_DNamed : (Sl DNamed) → T := fun y => y.t
theorem E_sl_DNamed_inj : ∀ a b, E_sl_DNamed a = E_sl_DNamed b → a = b := ja_
def E_DPattern : DPattern → T := fun y => .agg [i4 y.Kind, i4 y.Num, .str y.Text, y.Kids.t]
theorem E_DPattern_inj : ∀ a b, E_DPattern a = E_DPattern b → a = b := DPattern.inj_agg
theorem E_DPattern_p : ∀ v, pureT (E_DPattern v) = true := fun v => by simp [pureT, pureL, E_DPattern]
def E_sl_u8 : (Sl (Iv .u8)) → T := fun y => y.t
theorem E_sl_u8_inj : ∀ a b, E_sl_u8 a = E_sl_u8 b → a = b := ja_
def E_str : ByteArray → T := fun y => .str y
theorem E_str_inj : ∀ a b, E_str a = E_str b → a = b := inj_str
theorem E_str_p : ∀ v, pureT (E_str v) = true := fun v => by simp [pureT, pureL, E_str]
def E_i64 : Int → T := fun y => i4 y
theorem E_i64_inj : ∀ a b, E_i64 a = E_i64 b → a = b := h9_
theorem E_i64_p : ∀ v, pureT (E_i64 v) = true := fun v => by simp [pureT, pureL, E_i64]
def E_t3_sl_i64_i64_bool : ((Sl (Iv .i64)) × Int × Bool) → T := fun y => .tup [y.1.t, i4 y.2.1, .bool y.2.2]
theorem E_t3_sl_i64_i64_bool_inj : ∀ a b, E_t3_sl_i64_i64_bool a = E_t3_sl_i64_i64_bool b → a = b := sr_ ja_ h9_ inj_bool
theorem E_t3_sl_i64_i64_bool_p : ∀ v, pureT (E_t3_sl_i64_i64_bool v) = true := fun v => by simp [pureT, pureL, E_t3_sl_i64_i64_bool]
def E_t2_sl_i64_i64 : ((Sl (Iv .i64)) × Int) → T := fun y => .tup [y.1.t, i4 y.2]
theorem E_t2_sl_i64_i64_inj : ∀ a b, E_t2_sl_i64_i64 a = E_t2_sl_i64_i64 b → a = b := ka_ ja_ h9_
theorem E_t2_sl_i64_i64_p : ∀ v, pureT (E_t2_sl_i64_i64 v) = true := fun v => by simp [pureT, pureL, E_t2_sl_i64_i64]
noncomputable def Sh_sl_DNamed : fx_ (Sl DNamed) := ⟨1, fun hs y => match hs with | [h1] => h1 | _ => .tup [], fun hs y => match hs with | [h1] => [.own true 5 h1 (Sl.t (y : Sl DNamed))] | _ => [], E_sl_DNamed, fun hs y h => by
 obtain ⟨h1, rfl⟩ := len1 h
 exact (HL.own rfl HL.nil), E_sl_DNamed_inj⟩
noncomputable def Sh_DPattern : fx_ DPattern := ⟨1, fun hs y => match hs with | [h1] => .agg [i4 y.Kind, i4 y.Num, .str y.Text, h1] | _ => .tup [], fun hs y => match hs with | [h1] => [.own true 4 h1 (Sl.t (y.Kids : Sl DPattern))] | _ => [], E_DPattern, fun hs y h => by
 obtain ⟨h1, rfl⟩ := len1 h
 exact (HL.agg (es1 := [.own true 4 h1 (Sl.t (y.Kids : Sl DPattern))]) (es2 := []) (HL.leaf (fun σ d => by simp) (HL.leaf (fun σ d => by simp) (HL.leaf (fun σ d => by simp) (HL.own rfl HL.nil)))) HL.nil), E_DPattern_inj⟩
def E_t2_sl_DMatch_i64 : ((Sl DMatch) × Int) → T := fun y => .tup [y.1.t, i4 y.2]
theorem E_t2_sl_DMatch_i64_inj : ∀ a b, E_t2_sl_DMatch_i64 a = E_t2_sl_DMatch_i64 b → a = b := ka_ ja_ h9_
def E_t2_i64_str : (Int × ByteArray) → T := fun y => .tup [i4 y.1, .str y.2]
theorem E_t2_i64_str_inj : ∀ a b, E_t2_i64_str a = E_t2_i64_str b → a = b := ka_ h9_ inj_str
theorem E_t2_i64_str_p : ∀ v, pureT (E_t2_i64_str v) = true := fun v => by simp [pureT, pureL, E_t2_i64_str]
def E_t2_str_str : (ByteArray × ByteArray) → T := fun y => .tup [.str y.1, .str y.2]
theorem E_t2_str_str_inj : ∀ a b, E_t2_str_str a = E_t2_str_str b → a = b := ka_ inj_str inj_str
theorem E_t2_str_str_p : ∀ v, pureT (E_t2_str_str v) = true := fun v => by simp [pureT, pureL, E_t2_str_str]
def E_sl_DCapture : (Sl DCapture) → T := fun y => y.t
theorem E_sl_DCapture_inj : ∀ a b, E_sl_DCapture a = E_sl_DCapture b → a = b := ja_
def E_t0_ : Unit → T := fun _ => .tup []
def E_t2_DPattern_bool : (DPattern × Bool) → T := fun y => .tup [.agg [i4 y.1.Kind, i4 y.1.Num, .str y.1.Text, y.1.Kids.t], .bool y.2]
theorem E_t2_DPattern_bool_inj : ∀ a b, E_t2_DPattern_bool a = E_t2_DPattern_bool b → a = b := ka_ DPattern.inj_agg inj_bool
theorem E_t2_DPattern_bool_p : ∀ v, pureT (E_t2_DPattern_bool v) = true := fun v => by simp [pureT, pureL, E_t2_DPattern_bool]
noncomputable def Sh_t2_sl_i64_i64 : fx_ ((Sl (Iv .i64)) × Int) := ⟨1, fun hs y => match hs with | [h1] => .tup [h1, i4 y.2] | _ => .tup [], fun hs y => match hs with | [h1] => [.own true 1 h1 (Sl.t (y.1 : Sl (Iv .i64)))] | _ => [], E_t2_sl_i64_i64, fun hs y h => by
 obtain ⟨h1, rfl⟩ := len1 h
 exact (HL.tup (es1 := [.own true 1 h1 (Sl.t (y.1 : Sl (Iv .i64)))]) (es2 := []) (HL.own rfl (HL.leaf (fun σ d => by simp) HL.nil)) HL.nil), E_t2_sl_i64_i64_inj⟩
noncomputable def Sh_t2_sl_DMatch_i64 : fx_ ((Sl DMatch) × Int) := ⟨1, fun hs y => match hs with | [h1] => .tup [h1, i4 y.2] | _ => .tup [], fun hs y => match hs with | [h1] => [.own true 3 h1 (Sl.t (y.1 : Sl DMatch))] | _ => [], E_t2_sl_DMatch_i64, fun hs y h => by
 obtain ⟨h1, rfl⟩ := len1 h
 exact (HL.tup (es1 := [.own true 3 h1 (Sl.t (y.1 : Sl DMatch))]) (es2 := []) (HL.own rfl (HL.leaf (fun σ d => by simp) HL.nil)) HL.nil), E_t2_sl_DMatch_i64_inj⟩
noncomputable def Sh_sl_DCapture : fx_ (Sl DCapture) := ⟨1, fun hs y => match hs with | [h1] => h1 | _ => .tup [], fun hs y => match hs with | [h1] => [.own true 4 h1 (Sl.t (y : Sl DCapture))] | _ => [], E_sl_DCapture, fun hs y h => by
 obtain ⟨h1, rfl⟩ := len1 h
 exact (HL.own rfl HL.nil), E_sl_DCapture_inj⟩
noncomputable def gj_ (a0 : (Sl (Iv .u8))) : Option Bool := semV Tryz.prog md ext E_bool 5 [(a0.t)]
noncomputable def dO_ (a0 : (Sl (Iv .u8))) : Option (Sl DNamed) := semV Tryz.prog md ext E_sl_DNamed 10 [(a0.t)]
noncomputable def d4_ (a0 : (Sl (Iv .u8))) : Option DPattern := semV Tryz.prog md ext E_DPattern 11 [(a0.t)]
noncomputable def dx_ (a0 : Int) (a1 : (Sl (Iv .u8))) : Option (Sl (Iv .u8)) := semV Tryz.prog md ext E_sl_u8 12 [(i4 a0), (a1.t)]
noncomputable def dF_ (a0 : (Sl (Iv .u8))) : Option ByteArray := semV Tryz.prog md ext E_str 13 [(a0.t)]
noncomputable def go_ (a0 : (Sl (Iv .u8))) (a1 : Int) (a2 : Int) : Option Int := semV Tryz.prog md ext E_i64 14 [(a0.t), (i4 a1), (i4 a2)]
noncomputable def d0_ (a0 : (Sl DNamed)) (a1 : DPattern) (a2 : ByteArray) (a3 : Int) (a4 : Int) : Option ((Sl (Iv .i64)) × Int × Bool) := semV Tryz.prog md ext E_t3_sl_i64_i64_bool 15 [(a0.t), (.agg [i4 a1.Kind, i4 a1.Num, .str a1.Text, a1.Kids.t]), (.str a2), (i4 a3), (i4 a4)]
noncomputable def d3_ (a0 : (Sl (Iv .i64))) (a1 : (Sl (Iv .i64))) : Option Bool := semV Tryz.prog md ext E_bool 17 [(a0.t), (a1.t)]
noncomputable def eH_ (a0 : DPattern) (a1 : DPattern) : Option DPattern := semV Tryz.prog md ext E_DPattern 18 [(.agg [i4 a0.Kind, i4 a0.Num, .str a0.Text, a0.Kids.t]), (.agg [i4 a1.Kind, i4 a1.Num, .str a1.Text, a1.Kids.t])]
noncomputable def c6_ (a0 : (Sl DNamed)) (a1 : DPattern) (a2 : ByteArray) (a3 : Int) (a4 : Int) : Option ((Sl (Iv .i64)) × Int) := semV Tryz.prog md ext E_t2_sl_i64_i64 19 [(a0.t), (.agg [i4 a1.Kind, i4 a1.Num, .str a1.Text, a1.Kids.t]), (.str a2), (i4 a3), (i4 a4)]
noncomputable def c5_ (a0 : Int) (a1 : ByteArray) (a2 : (Sl DPattern)) : Option DPattern := semV Tryz.prog md ext E_DPattern 20 [(i4 a0), (.str a1), (a2.t)]
noncomputable def bA_ (a0 : DPattern) : Option DPattern := semO Tryz.prog md ext Sh_DPattern 35 [(.agg [i4 a0.Kind, i4 a0.Num, .str a0.Text, a0.Kids.t])]
noncomputable def ft_ (a0 : (Sl DNamed)) (a1 : DPattern) (a2 : ByteArray) (a3 : Int) (a4 : Int) : Option ((Sl (Iv .i64)) × Int) := semO Tryz.prog md ext Sh_t2_sl_i64_i64 39 [(a0.t), (.agg [i4 a1.Kind, i4 a1.Num, .str a1.Text, a1.Kids.t]), (.str a2), (i4 a3), (i4 a4)]
noncomputable def ey_ (a0 : (Sl (Iv .i64))) : Option Int := semV Tryz.prog md ext E_i64 40 [(a0.t)]
noncomputable def dh_ (a0 : (Sl DNamed)) (a1 : DPattern) (a2 : ByteArray) (a3 : Int) : Option Int := semV Tryz.prog md ext E_i64 41 [(a0.t), (.agg [i4 a1.Kind, i4 a1.Num, .str a1.Text, a1.Kids.t]), (.str a2), (i4 a3)]
noncomputable def c2_ (a0 : Bool) (a1 : Int) : Option Int := semV Tryz.prog md ext E_i64 42 [(.bool a0), (i4 a1)]
noncomputable def bx_ (a0 : Int) (a1 : Int) (a2 : Int) : Option Bool := semV Tryz.prog md ext E_bool 43 [(i4 a0), (i4 a1), (i4 a2)]
noncomputable def bS_ (a0 : (Sl DNamed)) (a1 : DPattern) (a2 : ByteArray) (a3 : (Sl (Iv .i64))) (a4 : Int) : Option ((Sl DMatch) × Int) := semO Tryz.prog md ext Sh_t2_sl_DMatch_i64 44 [(a0.t), (.agg [i4 a1.Kind, i4 a1.Num, .str a1.Text, a1.Kids.t]), (.str a2), (a3.t), (i4 a4)]
noncomputable def cI_ (a0 : ByteArray) : Option Bool := semV Tryz.prog md ext E_bool 52 [(.str a0)]
noncomputable def bB_ (a0 : DPattern) : Option DPattern := semO Tryz.prog md ext Sh_DPattern 54 [(.agg [i4 a0.Kind, i4 a0.Num, .str a0.Text, a0.Kids.t])]
noncomputable def cg_ (a0 : Int) : Option (Int × ByteArray) := semV Tryz.prog md ext E_t2_i64_str 57 [(i4 a0)]
noncomputable def fk_ (a0 : (Sl DNamed)) (a1 : DPattern) (a2 : ByteArray) (a3 : Int) : Option Int := semV Tryz.prog md ext E_i64 61 [(a0.t), (.agg [i4 a1.Kind, i4 a1.Num, .str a1.Text, a1.Kids.t]), (.str a2), (i4 a3)]
noncomputable def b0_ (a0 : Int) (a1 : Int) (a2 : Int) : Option Bool := semV Tryz.prog md ext E_bool 62 [(i4 a0), (i4 a1), (i4 a2)]
noncomputable def eI_ (a0 : (Sl DNamed)) (a1 : DPattern) (a2 : ByteArray) (a3 : Int) (a4 : Int) : Option ((Sl (Iv .i64)) × Int) := semO Tryz.prog md ext Sh_t2_sl_i64_i64 63 [(a0.t), (.agg [i4 a1.Kind, i4 a1.Num, .str a1.Text, a1.Kids.t]), (.str a2), (i4 a3), (i4 a4)]
noncomputable def ek_ (a0 : (Sl DNamed)) : Option Bool := semV Tryz.prog md ext E_bool 64 [(a0.t)]
noncomputable def b5_ (a0 : DPattern) : Option Bool := semV Tryz.prog md ext E_bool 65 [(.agg [i4 a0.Kind, i4 a0.Num, .str a0.Text, a0.Kids.t])]
noncomputable def dj_ (a0 : (Sl DNamed)) (a1 : DPattern) (a2 : ByteArray) (a3 : (Sl (Iv .i64))) (a4 : Int) : Option ((Sl DMatch) × Int) := semO Tryz.prog md ext Sh_t2_sl_DMatch_i64 68 [(a0.t), (.agg [i4 a1.Kind, i4 a1.Num, .str a1.Text, a1.Kids.t]), (.str a2), (a3.t), (i4 a4)]
noncomputable def gc_ (a0 : Int) : Option (ByteArray × ByteArray) := semV Tryz.prog md ext E_t2_str_str 72 [(i4 a0)]
noncomputable def d6_ (a0 : (Sl DNamed)) : Option Bool := semV Tryz.prog md ext E_bool 73 [(a0.t)]
noncomputable def b7_ (a0 : DPattern) : Option Bool := semV Tryz.prog md ext E_bool 74 [(.agg [i4 a0.Kind, i4 a0.Num, .str a0.Text, a0.Kids.t])]
noncomputable def cT_ (a0 : (Sl DNamed)) (a1 : T) : Option Bool := semV Tryz.prog md ext E_bool 75 [(a0.t), (a1)]
noncomputable def dg_ (a0 : DNamed) : Option Bool := semV Tryz.prog md ext E_bool 76 [(.agg (DNamed.cells a0))]
noncomputable def d2_ (a0 : ByteArray) : Option Bool := semV Tryz.prog md ext E_bool 77 [(.str a0)]
noncomputable def d5_ (a0 : (Sl DNamed)) (a1 : ByteArray) : Option (DPattern × Bool) := semV Tryz.prog md ext E_t2_DPattern_bool 78 [(a0.t), (.str a1)]
noncomputable def aG_ (a0 : DPattern) (a1 : Int) : Option Int := semV Tryz.prog md ext E_i64 79 [(.agg [i4 a0.Kind, i4 a0.Num, .str a0.Text, a0.Kids.t]), (i4 a1)]
noncomputable def dS_ (a0 : ByteArray) : Option Bool := semV Tryz.prog md ext E_bool 84 [(.str a0)]
noncomputable def aX_ (a0 : DPattern) (a1 : Int) : Option Int := semV Tryz.prog md ext E_i64 85 [(.agg [i4 a0.Kind, i4 a0.Num, .str a0.Text, a0.Kids.t]), (i4 a1)]
noncomputable def cX_ (a0 : Int) : Option Bool := semV Tryz.prog md ext E_bool 86 [(.int .u8 a0)]
noncomputable def eB_ (a0 : (Sl (Iv .u8))) (a1 : T) : Option Bool := semV Tryz.prog md ext E_bool 87 [(a0.t), (a1)]
noncomputable def de_ (a0 : Int) : Option Bool := semV Tryz.prog md ext E_bool 88 [(.int .u8 a0)]
noncomputable def df_ (a0 : Int) (a1 : Int) (a2 : ByteArray) : Option Bool := semV Tryz.prog md ext E_bool 91 [(i4 a0), (i4 a1), (.str a2)]
noncomputable def fv_ (a0 : Int) : Option Int := semV Tryz.prog md ext E_i64 92 [(i4 a0)]
noncomputable def a2_ (a0 : ByteArray) (a1 : Int) (a2 : Int) : Option Int := semV Tryz.prog md ext E_i64 94 [(.str a0), (i4 a1), (i4 a2)]
noncomputable def dX_ (a0 : Int) (a1 : Int) (a2 : ByteArray) (a3 : ByteArray) (a4 : Int) : Option Int := semV Tryz.prog md ext E_i64 99 [(i4 a0), (i4 a1), (.str a2), (.str a3), (i4 a4)]
noncomputable def b8_ (a0 : (Sl (Sl DCapture))) : Option (Sl DCapture) := semO Tryz.prog md ext Sh_sl_DCapture 100 [(a0.t)]
noncomputable def di_ (a0 : ByteArray) (a1 : Int) : Option Int := semV Tryz.prog md ext E_i64 103 [(.str a0), (i4 a1)]
noncomputable def eL_ (a0 : DPattern) : Option Bool := semV Tryz.prog md ext E_bool 104 [(.agg [i4 a0.Kind, i4 a0.Num, .str a0.Text, a0.Kids.t])]
noncomputable def eQ_ (a0 : Int) : Option Bool := semV Tryz.prog md ext E_bool 105 [(.int .u8 a0)]
noncomputable def fp_ (a0 : Int) : Option Bool := semV Tryz.prog md ext E_bool 106 [(i4 a0)]
noncomputable def dH_ (a0 : Int) : Option Bool := semV Tryz.prog md ext E_bool 107 [(i4 a0)]
noncomputable def eO_ (a0 : Int) : Option Bool := semV Tryz.prog md ext E_bool 108 [(i4 a0)]
noncomputable def cG_ (a0 : Int) : Option Bool := semV Tryz.prog md ext E_bool 109 [(i4 a0)]
noncomputable def bp_ (a0 : Int) (a1 : ByteArray) : Option Bool := semL Tryz.prog md ext E_bool 113 (fun bs => match bs with | [bp1] => [(.int .u8 a0), (.ptr bp1 0 0 1)] | _ => []) [[.str a1]]
noncomputable def cQ_ (a0 : ByteArray) (a1 : Int) : Option Int := semV Tryz.prog md ext E_i64 114 [(.str a0), (.int .u8 a1)]
noncomputable def cM_ (a0 : ByteArray) (a1 : ByteArray) : Option Bool := semV Tryz.prog md ext E_bool 115 [(.str a0), (.str a1)]
noncomputable def ds_ (a0 : Int) (a1 : Int) (a2 : Bool) : Option Int := semV Tryz.prog md ext E_i64 118 [(i4 a0), (i4 a1), (.bool a2)]
noncomputable def b6_ (a0 : ByteArray) (a1 : Int) (a2 : Int) : Option Int := semV Tryz.prog md ext E_i64 122 [(.str a0), (i4 a1), (i4 a2)]
noncomputable def ch_ (a0 : (Sl DNamed)) (a1 : ByteArray) : Option Int := semV Tryz.prog md ext E_i64 125 [(a0.t), (.str a1)]
noncomputable def fw_ (a0 : DPattern) (a1 : ByteArray) (a2 : Int) : Option Int := semV Tryz.prog md ext E_i64 126 [(.agg [i4 a0.Kind, i4 a0.Num, .str a0.Text, a0.Kids.t]), (.str a1), (i4 a2)]
noncomputable def ce_ (a0 : Int) : Option Bool := semV Tryz.prog md ext E_bool 127 [(.int .u8 a0)]
noncomputable def c4_ (a0 : Int) : Option Bool := semV Tryz.prog md ext E_bool 128 [(.int .u8 a0)]
noncomputable def bf_ (a0 : ByteArray) (a1 : Int) : Option Int := semV Tryz.prog md ext E_i64 129 [(.str a0), (.int .u8 a1)]
noncomputable def bj_ (a0 : ByteArray) (a1 : ByteArray) : Option Bool := semV Tryz.prog md ext E_bool 130 [(.str a0), (.str a1)]
noncomputable def bc_ (a0 : ByteArray) (a1 : Int) : Option Bool := semV Tryz.prog md ext E_bool 132 [(.str a0), (.int .u8 a1)]
theorem ext_x : XOk ext := by
 intro f g h1
 by_cases hf : f = 133
 · subst hf; injection h1 with h1; subst h1; exact ur_
 · have e : ext f = none := by
    show (bif Nat.beq f 133 then some idxE else none) = none
    cases hb : Nat.beq f 133 with
    | false => rfl
    | true => exact absurd (Nat.eq_of_beq_eq_true hb) hf
   rw [e] at h1; cases h1
noncomputable def bM_ (a0 : ByteArray) (a1 : Int) : Option Int := semV Tryz.prog md ext E_i64 133 [(.str a0), (.int .u8 a1)]
noncomputable def bL_ (a0 : ByteArray) (a1 : Int) : Option Int := some (firstIdx a0 a1.toNat.toUInt8)
theorem cU_ (a0 : ByteArray) (a1 : Int) (r : Int) (h : bL_ a0 a1 = some r) : bM_ a0 a1 = some r := by
 unfold bL_ at h
 injection h with h; subst h
 exact qc_ E_i64_inj rfl rfl a0 a1 (fun _ => rfl)
theorem ext_ok : ∀ f g args σ r σ', ext f = some g → g args σ = some (r, σ') → gq_ Tryz.prog f args σ r σ' := by
 intro f g args σ r σ' h1 h2
 by_cases hf : f = 133
 · subst hf; injection h1 with h1; subst h1; exact rQ_ (fn := Tryz.f133) (by kernel_rfl) (by kernel_rfl) (by kernel_rfl) (by kernel_rfl) (by rfl) args σ r σ' h2
 · have e : ext f = none := by
    show (bif Nat.beq f 133 then some idxE else none) = none
    cases hb : Nat.beq f 133 with
    | false => rfl
    | true => exact absurd (Nat.eq_of_beq_eq_true hb) hf
   rw [e] at h1; cases h1
theorem ok_5 : Ok Tryz.prog 5 (Tryz.f5.body.getD .skip) Tryz.f5.ntmps Tryz.f5.results.toList := ⟨Tryz.f5, by kernel_rfl, by kernel_rfl, by kernel_rfl, by kernel_rfl, rfl, rfl⟩
theorem ok_10 : Ok Tryz.prog 10 (Tryz.f10.body.getD .skip) Tryz.f10.ntmps Tryz.f10.results.toList := ⟨Tryz.f10, by kernel_rfl, by kernel_rfl, by kernel_rfl, by kernel_rfl, rfl, rfl⟩
theorem ok_11 : Ok Tryz.prog 11 (Tryz.f11.body.getD .skip) Tryz.f11.ntmps Tryz.f11.results.toList := ⟨Tryz.f11, by kernel_rfl, by kernel_rfl, by kernel_rfl, by kernel_rfl, rfl, rfl⟩
theorem ok_12 : Ok Tryz.prog 12 (Tryz.f12.body.getD .skip) Tryz.f12.ntmps Tryz.f12.results.toList := ⟨Tryz.f12, by kernel_rfl, by kernel_rfl, by kernel_rfl, by kernel_rfl, rfl, rfl⟩
theorem ok_13 : Ok Tryz.prog 13 (Tryz.f13.body.getD .skip) Tryz.f13.ntmps Tryz.f13.results.toList := ⟨Tryz.f13, by kernel_rfl, by kernel_rfl, by kernel_rfl, by kernel_rfl, rfl, rfl⟩
theorem ok_14 : Ok Tryz.prog 14 (Tryz.f14.body.getD .skip) Tryz.f14.ntmps Tryz.f14.results.toList := ⟨Tryz.f14, by kernel_rfl, by kernel_rfl, by kernel_rfl, by kernel_rfl, rfl, rfl⟩
theorem ok_15 : Ok Tryz.prog 15 (Tryz.f15.body.getD .skip) Tryz.f15.ntmps Tryz.f15.results.toList := ⟨Tryz.f15, by kernel_rfl, by kernel_rfl, by kernel_rfl, by kernel_rfl, rfl, rfl⟩
theorem ok_17 : Ok Tryz.prog 17 (Tryz.f17.body.getD .skip) Tryz.f17.ntmps Tryz.f17.results.toList := ⟨Tryz.f17, by kernel_rfl, by kernel_rfl, by kernel_rfl, by kernel_rfl, rfl, rfl⟩
theorem ok_18 : Ok Tryz.prog 18 (Tryz.f18.body.getD .skip) Tryz.f18.ntmps Tryz.f18.results.toList := ⟨Tryz.f18, by kernel_rfl, by kernel_rfl, by kernel_rfl, by kernel_rfl, rfl, rfl⟩
theorem ok_19 : Ok Tryz.prog 19 (Tryz.f19.body.getD .skip) Tryz.f19.ntmps Tryz.f19.results.toList := ⟨Tryz.f19, by kernel_rfl, by kernel_rfl, by kernel_rfl, by kernel_rfl, rfl, rfl⟩
theorem ok_20 : Ok Tryz.prog 20 (Tryz.f20.body.getD .skip) Tryz.f20.ntmps Tryz.f20.results.toList := ⟨Tryz.f20, by kernel_rfl, by kernel_rfl, by kernel_rfl, by kernel_rfl, rfl, rfl⟩
theorem ok_33 : Ok Tryz.prog 33 (Tryz.f33.body.getD .skip) Tryz.f33.ntmps Tryz.f33.results.toList := ⟨Tryz.f33, by kernel_rfl, by kernel_rfl, by kernel_rfl, by kernel_rfl, rfl, rfl⟩
theorem ok_34 : Ok Tryz.prog 34 (Tryz.f34.body.getD .skip) Tryz.f34.ntmps Tryz.f34.results.toList := ⟨Tryz.f34, by kernel_rfl, by kernel_rfl, by kernel_rfl, by kernel_rfl, rfl, rfl⟩
theorem ok_35 : Ok Tryz.prog 35 (Tryz.f35.body.getD .skip) Tryz.f35.ntmps Tryz.f35.results.toList := ⟨Tryz.f35, by kernel_rfl, by kernel_rfl, by kernel_rfl, by kernel_rfl, rfl, rfl⟩
theorem ok_36 : Ok Tryz.prog 36 (Tryz.f36.body.getD .skip) Tryz.f36.ntmps Tryz.f36.results.toList := ⟨Tryz.f36, by kernel_rfl, by kernel_rfl, by kernel_rfl, by kernel_rfl, rfl, rfl⟩
theorem ok_37 : Ok Tryz.prog 37 (Tryz.f37.body.getD .skip) Tryz.f37.ntmps Tryz.f37.results.toList := ⟨Tryz.f37, by kernel_rfl, by kernel_rfl, by kernel_rfl, by kernel_rfl, rfl, rfl⟩
theorem ok_38 : Ok Tryz.prog 38 (Tryz.f38.body.getD .skip) Tryz.f38.ntmps Tryz.f38.results.toList := ⟨Tryz.f38, by kernel_rfl, by kernel_rfl, by kernel_rfl, by kernel_rfl, rfl, rfl⟩
theorem ok_39 : Ok Tryz.prog 39 (Tryz.f39.body.getD .skip) Tryz.f39.ntmps Tryz.f39.results.toList := ⟨Tryz.f39, by kernel_rfl, by kernel_rfl, by kernel_rfl, by kernel_rfl, rfl, rfl⟩
theorem ok_40 : Ok Tryz.prog 40 (Tryz.f40.body.getD .skip) Tryz.f40.ntmps Tryz.f40.results.toList := ⟨Tryz.f40, by kernel_rfl, by kernel_rfl, by kernel_rfl, by kernel_rfl, rfl, rfl⟩
theorem ok_41 : Ok Tryz.prog 41 (Tryz.f41.body.getD .skip) Tryz.f41.ntmps Tryz.f41.results.toList := ⟨Tryz.f41, by kernel_rfl, by kernel_rfl, by kernel_rfl, by kernel_rfl, rfl, rfl⟩
theorem ok_42 : Ok Tryz.prog 42 (Tryz.f42.body.getD .skip) Tryz.f42.ntmps Tryz.f42.results.toList := ⟨Tryz.f42, by kernel_rfl, by kernel_rfl, by kernel_rfl, by kernel_rfl, rfl, rfl⟩
theorem ok_43 : Ok Tryz.prog 43 (Tryz.f43.body.getD .skip) Tryz.f43.ntmps Tryz.f43.results.toList := ⟨Tryz.f43, by kernel_rfl, by kernel_rfl, by kernel_rfl, by kernel_rfl, rfl, rfl⟩
theorem ok_44 : Ok Tryz.prog 44 (Tryz.f44.body.getD .skip) Tryz.f44.ntmps Tryz.f44.results.toList := ⟨Tryz.f44, by kernel_rfl, by kernel_rfl, by kernel_rfl, by kernel_rfl, rfl, rfl⟩
theorem ok_50 : Ok Tryz.prog 50 (Tryz.f50.body.getD .skip) Tryz.f50.ntmps Tryz.f50.results.toList := ⟨Tryz.f50, by kernel_rfl, by kernel_rfl, by kernel_rfl, by kernel_rfl, rfl, rfl⟩
theorem ok_52 : Ok Tryz.prog 52 (Tryz.f52.body.getD .skip) Tryz.f52.ntmps Tryz.f52.results.toList := ⟨Tryz.f52, by kernel_rfl, by kernel_rfl, by kernel_rfl, by kernel_rfl, rfl, rfl⟩
theorem ok_53 : Ok Tryz.prog 53 (Tryz.f53.body.getD .skip) Tryz.f53.ntmps Tryz.f53.results.toList := ⟨Tryz.f53, by kernel_rfl, by kernel_rfl, by kernel_rfl, by kernel_rfl, rfl, rfl⟩
theorem ok_54 : Ok Tryz.prog 54 (Tryz.f54.body.getD .skip) Tryz.f54.ntmps Tryz.f54.results.toList := ⟨Tryz.f54, by kernel_rfl, by kernel_rfl, by kernel_rfl, by kernel_rfl, rfl, rfl⟩
theorem ok_55 : Ok Tryz.prog 55 (Tryz.f55.body.getD .skip) Tryz.f55.ntmps Tryz.f55.results.toList := ⟨Tryz.f55, by kernel_rfl, by kernel_rfl, by kernel_rfl, by kernel_rfl, rfl, rfl⟩
theorem ok_56 : Ok Tryz.prog 56 (Tryz.f56.body.getD .skip) Tryz.f56.ntmps Tryz.f56.results.toList := ⟨Tryz.f56, by kernel_rfl, by kernel_rfl, by kernel_rfl, by kernel_rfl, rfl, rfl⟩
theorem ok_57 : Ok Tryz.prog 57 (Tryz.f57.body.getD .skip) Tryz.f57.ntmps Tryz.f57.results.toList := ⟨Tryz.f57, by kernel_rfl, by kernel_rfl, by kernel_rfl, by kernel_rfl, rfl, rfl⟩
theorem ok_58 : Ok Tryz.prog 58 (Tryz.f58.body.getD .skip) Tryz.f58.ntmps Tryz.f58.results.toList := ⟨Tryz.f58, by kernel_rfl, by kernel_rfl, by kernel_rfl, by kernel_rfl, rfl, rfl⟩
theorem ok_59 : Ok Tryz.prog 59 (Tryz.f59.body.getD .skip) Tryz.f59.ntmps Tryz.f59.results.toList := ⟨Tryz.f59, by kernel_rfl, by kernel_rfl, by kernel_rfl, by kernel_rfl, rfl, rfl⟩
theorem ok_60 : Ok Tryz.prog 60 (Tryz.f60.body.getD .skip) Tryz.f60.ntmps Tryz.f60.results.toList := ⟨Tryz.f60, by kernel_rfl, by kernel_rfl, by kernel_rfl, by kernel_rfl, rfl, rfl⟩
theorem ok_61 : Ok Tryz.prog 61 (Tryz.f61.body.getD .skip) Tryz.f61.ntmps Tryz.f61.results.toList := ⟨Tryz.f61, by kernel_rfl, by kernel_rfl, by kernel_rfl, by kernel_rfl, rfl, rfl⟩
theorem ok_62 : Ok Tryz.prog 62 (Tryz.f62.body.getD .skip) Tryz.f62.ntmps Tryz.f62.results.toList := ⟨Tryz.f62, by kernel_rfl, by kernel_rfl, by kernel_rfl, by kernel_rfl, rfl, rfl⟩
theorem ok_63 : Ok Tryz.prog 63 (Tryz.f63.body.getD .skip) Tryz.f63.ntmps Tryz.f63.results.toList := ⟨Tryz.f63, by kernel_rfl, by kernel_rfl, by kernel_rfl, by kernel_rfl, rfl, rfl⟩
theorem ok_64 : Ok Tryz.prog 64 (Tryz.f64.body.getD .skip) Tryz.f64.ntmps Tryz.f64.results.toList := ⟨Tryz.f64, by kernel_rfl, by kernel_rfl, by kernel_rfl, by kernel_rfl, rfl, rfl⟩
theorem ok_65 : Ok Tryz.prog 65 (Tryz.f65.body.getD .skip) Tryz.f65.ntmps Tryz.f65.results.toList := ⟨Tryz.f65, by kernel_rfl, by kernel_rfl, by kernel_rfl, by kernel_rfl, rfl, rfl⟩
theorem ok_66 : Ok Tryz.prog 66 (Tryz.f66.body.getD .skip) Tryz.f66.ntmps Tryz.f66.results.toList := ⟨Tryz.f66, by kernel_rfl, by kernel_rfl, by kernel_rfl, by kernel_rfl, rfl, rfl⟩
theorem ok_68 : Ok Tryz.prog 68 (Tryz.f68.body.getD .skip) Tryz.f68.ntmps Tryz.f68.results.toList := ⟨Tryz.f68, by kernel_rfl, by kernel_rfl, by kernel_rfl, by kernel_rfl, rfl, rfl⟩
theorem ok_72 : Ok Tryz.prog 72 (Tryz.f72.body.getD .skip) Tryz.f72.ntmps Tryz.f72.results.toList := ⟨Tryz.f72, by kernel_rfl, by kernel_rfl, by kernel_rfl, by kernel_rfl, rfl, rfl⟩
theorem ok_73 : Ok Tryz.prog 73 (Tryz.f73.body.getD .skip) Tryz.f73.ntmps Tryz.f73.results.toList := ⟨Tryz.f73, by kernel_rfl, by kernel_rfl, by kernel_rfl, by kernel_rfl, rfl, rfl⟩
theorem ok_74 : Ok Tryz.prog 74 (Tryz.f74.body.getD .skip) Tryz.f74.ntmps Tryz.f74.results.toList := ⟨Tryz.f74, by kernel_rfl, by kernel_rfl, by kernel_rfl, by kernel_rfl, rfl, rfl⟩
theorem ok_75 : Ok Tryz.prog 75 (Tryz.f75.body.getD .skip) Tryz.f75.ntmps Tryz.f75.results.toList := ⟨Tryz.f75, by kernel_rfl, by kernel_rfl, by kernel_rfl, by kernel_rfl, rfl, rfl⟩
theorem ok_76 : Ok Tryz.prog 76 (Tryz.f76.body.getD .skip) Tryz.f76.ntmps Tryz.f76.results.toList := ⟨Tryz.f76, by kernel_rfl, by kernel_rfl, by kernel_rfl, by kernel_rfl, rfl, rfl⟩
theorem ok_77 : Ok Tryz.prog 77 (Tryz.f77.body.getD .skip) Tryz.f77.ntmps Tryz.f77.results.toList := ⟨Tryz.f77, by kernel_rfl, by kernel_rfl, by kernel_rfl, by kernel_rfl, rfl, rfl⟩
theorem ok_78 : Ok Tryz.prog 78 (Tryz.f78.body.getD .skip) Tryz.f78.ntmps Tryz.f78.results.toList := ⟨Tryz.f78, by kernel_rfl, by kernel_rfl, by kernel_rfl, by kernel_rfl, rfl, rfl⟩
theorem ok_79 : Ok Tryz.prog 79 (Tryz.f79.body.getD .skip) Tryz.f79.ntmps Tryz.f79.results.toList := ⟨Tryz.f79, by kernel_rfl, by kernel_rfl, by kernel_rfl, by kernel_rfl, rfl, rfl⟩
theorem ok_80 : Ok Tryz.prog 80 (Tryz.f80.body.getD .skip) Tryz.f80.ntmps Tryz.f80.results.toList := ⟨Tryz.f80, by kernel_rfl, by kernel_rfl, by kernel_rfl, by kernel_rfl, rfl, rfl⟩
theorem ok_81 : Ok Tryz.prog 81 (Tryz.f81.body.getD .skip) Tryz.f81.ntmps Tryz.f81.results.toList := ⟨Tryz.f81, by kernel_rfl, by kernel_rfl, by kernel_rfl, by kernel_rfl, rfl, rfl⟩
theorem ok_82 : Ok Tryz.prog 82 (Tryz.f82.body.getD .skip) Tryz.f82.ntmps Tryz.f82.results.toList := ⟨Tryz.f82, by kernel_rfl, by kernel_rfl, by kernel_rfl, by kernel_rfl, rfl, rfl⟩
theorem ok_84 : Ok Tryz.prog 84 (Tryz.f84.body.getD .skip) Tryz.f84.ntmps Tryz.f84.results.toList := ⟨Tryz.f84, by kernel_rfl, by kernel_rfl, by kernel_rfl, by kernel_rfl, rfl, rfl⟩
theorem ok_85 : Ok Tryz.prog 85 (Tryz.f85.body.getD .skip) Tryz.f85.ntmps Tryz.f85.results.toList := ⟨Tryz.f85, by kernel_rfl, by kernel_rfl, by kernel_rfl, by kernel_rfl, rfl, rfl⟩
theorem ok_86 : Ok Tryz.prog 86 (Tryz.f86.body.getD .skip) Tryz.f86.ntmps Tryz.f86.results.toList := ⟨Tryz.f86, by kernel_rfl, by kernel_rfl, by kernel_rfl, by kernel_rfl, rfl, rfl⟩
theorem ok_87 : Ok Tryz.prog 87 (Tryz.f87.body.getD .skip) Tryz.f87.ntmps Tryz.f87.results.toList := ⟨Tryz.f87, by kernel_rfl, by kernel_rfl, by kernel_rfl, by kernel_rfl, rfl, rfl⟩
theorem ok_88 : Ok Tryz.prog 88 (Tryz.f88.body.getD .skip) Tryz.f88.ntmps Tryz.f88.results.toList := ⟨Tryz.f88, by kernel_rfl, by kernel_rfl, by kernel_rfl, by kernel_rfl, rfl, rfl⟩
theorem ok_89 : Ok Tryz.prog 89 (Tryz.f89.body.getD .skip) Tryz.f89.ntmps Tryz.f89.results.toList := ⟨Tryz.f89, by kernel_rfl, by kernel_rfl, by kernel_rfl, by kernel_rfl, rfl, rfl⟩
theorem ok_90 : Ok Tryz.prog 90 (Tryz.f90.body.getD .skip) Tryz.f90.ntmps Tryz.f90.results.toList := ⟨Tryz.f90, by kernel_rfl, by kernel_rfl, by kernel_rfl, by kernel_rfl, rfl, rfl⟩
theorem ok_91 : Ok Tryz.prog 91 (Tryz.f91.body.getD .skip) Tryz.f91.ntmps Tryz.f91.results.toList := ⟨Tryz.f91, by kernel_rfl, by kernel_rfl, by kernel_rfl, by kernel_rfl, rfl, rfl⟩
theorem ok_92 : Ok Tryz.prog 92 (Tryz.f92.body.getD .skip) Tryz.f92.ntmps Tryz.f92.results.toList := ⟨Tryz.f92, by kernel_rfl, by kernel_rfl, by kernel_rfl, by kernel_rfl, rfl, rfl⟩
theorem ok_93 : Ok Tryz.prog 93 (Tryz.f93.body.getD .skip) Tryz.f93.ntmps Tryz.f93.results.toList := ⟨Tryz.f93, by kernel_rfl, by kernel_rfl, by kernel_rfl, by kernel_rfl, rfl, rfl⟩
theorem ok_94 : Ok Tryz.prog 94 (Tryz.f94.body.getD .skip) Tryz.f94.ntmps Tryz.f94.results.toList := ⟨Tryz.f94, by kernel_rfl, by kernel_rfl, by kernel_rfl, by kernel_rfl, rfl, rfl⟩
theorem ok_95 : Ok Tryz.prog 95 (Tryz.f95.body.getD .skip) Tryz.f95.ntmps Tryz.f95.results.toList := ⟨Tryz.f95, by kernel_rfl, by kernel_rfl, by kernel_rfl, by kernel_rfl, rfl, rfl⟩
theorem ok_96 : Ok Tryz.prog 96 (Tryz.f96.body.getD .skip) Tryz.f96.ntmps Tryz.f96.results.toList := ⟨Tryz.f96, by kernel_rfl, by kernel_rfl, by kernel_rfl, by kernel_rfl, rfl, rfl⟩
theorem ok_97 : Ok Tryz.prog 97 (Tryz.f97.body.getD .skip) Tryz.f97.ntmps Tryz.f97.results.toList := ⟨Tryz.f97, by kernel_rfl, by kernel_rfl, by kernel_rfl, by kernel_rfl, rfl, rfl⟩
theorem ok_98 : Ok Tryz.prog 98 (Tryz.f98.body.getD .skip) Tryz.f98.ntmps Tryz.f98.results.toList := ⟨Tryz.f98, by kernel_rfl, by kernel_rfl, by kernel_rfl, by kernel_rfl, rfl, rfl⟩
theorem ok_99 : Ok Tryz.prog 99 (Tryz.f99.body.getD .skip) Tryz.f99.ntmps Tryz.f99.results.toList := ⟨Tryz.f99, by kernel_rfl, by kernel_rfl, by kernel_rfl, by kernel_rfl, rfl, rfl⟩
theorem ok_100 : Ok Tryz.prog 100 (Tryz.f100.body.getD .skip) Tryz.f100.ntmps Tryz.f100.results.toList := ⟨Tryz.f100, by kernel_rfl, by kernel_rfl, by kernel_rfl, by kernel_rfl, rfl, rfl⟩
theorem ok_101 : Ok Tryz.prog 101 (Tryz.f101.body.getD .skip) Tryz.f101.ntmps Tryz.f101.results.toList := ⟨Tryz.f101, by kernel_rfl, by kernel_rfl, by kernel_rfl, by kernel_rfl, rfl, rfl⟩
theorem ok_102 : Ok Tryz.prog 102 (Tryz.f102.body.getD .skip) Tryz.f102.ntmps Tryz.f102.results.toList := ⟨Tryz.f102, by kernel_rfl, by kernel_rfl, by kernel_rfl, by kernel_rfl, rfl, rfl⟩
theorem ok_103 : Ok Tryz.prog 103 (Tryz.f103.body.getD .skip) Tryz.f103.ntmps Tryz.f103.results.toList := ⟨Tryz.f103, by kernel_rfl, by kernel_rfl, by kernel_rfl, by kernel_rfl, rfl, rfl⟩
theorem ok_104 : Ok Tryz.prog 104 (Tryz.f104.body.getD .skip) Tryz.f104.ntmps Tryz.f104.results.toList := ⟨Tryz.f104, by kernel_rfl, by kernel_rfl, by kernel_rfl, by kernel_rfl, rfl, rfl⟩
theorem ok_105 : Ok Tryz.prog 105 (Tryz.f105.body.getD .skip) Tryz.f105.ntmps Tryz.f105.results.toList := ⟨Tryz.f105, by kernel_rfl, by kernel_rfl, by kernel_rfl, by kernel_rfl, rfl, rfl⟩
theorem ok_106 : Ok Tryz.prog 106 (Tryz.f106.body.getD .skip) Tryz.f106.ntmps Tryz.f106.results.toList := ⟨Tryz.f106, by kernel_rfl, by kernel_rfl, by kernel_rfl, by kernel_rfl, rfl, rfl⟩
theorem ok_107 : Ok Tryz.prog 107 (Tryz.f107.body.getD .skip) Tryz.f107.ntmps Tryz.f107.results.toList := ⟨Tryz.f107, by kernel_rfl, by kernel_rfl, by kernel_rfl, by kernel_rfl, rfl, rfl⟩
theorem ok_108 : Ok Tryz.prog 108 (Tryz.f108.body.getD .skip) Tryz.f108.ntmps Tryz.f108.results.toList := ⟨Tryz.f108, by kernel_rfl, by kernel_rfl, by kernel_rfl, by kernel_rfl, rfl, rfl⟩
theorem ok_109 : Ok Tryz.prog 109 (Tryz.f109.body.getD .skip) Tryz.f109.ntmps Tryz.f109.results.toList := ⟨Tryz.f109, by kernel_rfl, by kernel_rfl, by kernel_rfl, by kernel_rfl, rfl, rfl⟩
theorem ok_110 : Ok Tryz.prog 110 (Tryz.f110.body.getD .skip) Tryz.f110.ntmps Tryz.f110.results.toList := ⟨Tryz.f110, by kernel_rfl, by kernel_rfl, by kernel_rfl, by kernel_rfl, rfl, rfl⟩
theorem ok_111 : Ok Tryz.prog 111 (Tryz.f111.body.getD .skip) Tryz.f111.ntmps Tryz.f111.results.toList := ⟨Tryz.f111, by kernel_rfl, by kernel_rfl, by kernel_rfl, by kernel_rfl, rfl, rfl⟩
theorem ok_112 : Ok Tryz.prog 112 (Tryz.f112.body.getD .skip) Tryz.f112.ntmps Tryz.f112.results.toList := ⟨Tryz.f112, by kernel_rfl, by kernel_rfl, by kernel_rfl, by kernel_rfl, rfl, rfl⟩
theorem ok_113 : Ok Tryz.prog 113 (Tryz.f113.body.getD .skip) Tryz.f113.ntmps Tryz.f113.results.toList := ⟨Tryz.f113, by kernel_rfl, by kernel_rfl, by kernel_rfl, by kernel_rfl, rfl, rfl⟩
theorem ok_114 : Ok Tryz.prog 114 (Tryz.f114.body.getD .skip) Tryz.f114.ntmps Tryz.f114.results.toList := ⟨Tryz.f114, by kernel_rfl, by kernel_rfl, by kernel_rfl, by kernel_rfl, rfl, rfl⟩
theorem ok_115 : Ok Tryz.prog 115 (Tryz.f115.body.getD .skip) Tryz.f115.ntmps Tryz.f115.results.toList := ⟨Tryz.f115, by kernel_rfl, by kernel_rfl, by kernel_rfl, by kernel_rfl, rfl, rfl⟩
theorem ok_116 : Ok Tryz.prog 116 (Tryz.f116.body.getD .skip) Tryz.f116.ntmps Tryz.f116.results.toList := ⟨Tryz.f116, by kernel_rfl, by kernel_rfl, by kernel_rfl, by kernel_rfl, rfl, rfl⟩
theorem ok_117 : Ok Tryz.prog 117 (Tryz.f117.body.getD .skip) Tryz.f117.ntmps Tryz.f117.results.toList := ⟨Tryz.f117, by kernel_rfl, by kernel_rfl, by kernel_rfl, by kernel_rfl, rfl, rfl⟩
theorem ok_118 : Ok Tryz.prog 118 (Tryz.f118.body.getD .skip) Tryz.f118.ntmps Tryz.f118.results.toList := ⟨Tryz.f118, by kernel_rfl, by kernel_rfl, by kernel_rfl, by kernel_rfl, rfl, rfl⟩
theorem ok_119 : Ok Tryz.prog 119 (Tryz.f119.body.getD .skip) Tryz.f119.ntmps Tryz.f119.results.toList := ⟨Tryz.f119, by kernel_rfl, by kernel_rfl, by kernel_rfl, by kernel_rfl, rfl, rfl⟩
theorem ok_120 : Ok Tryz.prog 120 (Tryz.f120.body.getD .skip) Tryz.f120.ntmps Tryz.f120.results.toList := ⟨Tryz.f120, by kernel_rfl, by kernel_rfl, by kernel_rfl, by kernel_rfl, rfl, rfl⟩
theorem ok_121 : Ok Tryz.prog 121 (Tryz.f121.body.getD .skip) Tryz.f121.ntmps Tryz.f121.results.toList := ⟨Tryz.f121, by kernel_rfl, by kernel_rfl, by kernel_rfl, by kernel_rfl, rfl, rfl⟩
theorem ok_122 : Ok Tryz.prog 122 (Tryz.f122.body.getD .skip) Tryz.f122.ntmps Tryz.f122.results.toList := ⟨Tryz.f122, by kernel_rfl, by kernel_rfl, by kernel_rfl, by kernel_rfl, rfl, rfl⟩
theorem ok_123 : Ok Tryz.prog 123 (Tryz.f123.body.getD .skip) Tryz.f123.ntmps Tryz.f123.results.toList := ⟨Tryz.f123, by kernel_rfl, by kernel_rfl, by kernel_rfl, by kernel_rfl, rfl, rfl⟩
theorem ok_124 : Ok Tryz.prog 124 (Tryz.f124.body.getD .skip) Tryz.f124.ntmps Tryz.f124.results.toList := ⟨Tryz.f124, by kernel_rfl, by kernel_rfl, by kernel_rfl, by kernel_rfl, rfl, rfl⟩
theorem ok_125 : Ok Tryz.prog 125 (Tryz.f125.body.getD .skip) Tryz.f125.ntmps Tryz.f125.results.toList := ⟨Tryz.f125, by kernel_rfl, by kernel_rfl, by kernel_rfl, by kernel_rfl, rfl, rfl⟩
theorem ok_126 : Ok Tryz.prog 126 (Tryz.f126.body.getD .skip) Tryz.f126.ntmps Tryz.f126.results.toList := ⟨Tryz.f126, by kernel_rfl, by kernel_rfl, by kernel_rfl, by kernel_rfl, rfl, rfl⟩
theorem ok_127 : Ok Tryz.prog 127 (Tryz.f127.body.getD .skip) Tryz.f127.ntmps Tryz.f127.results.toList := ⟨Tryz.f127, by kernel_rfl, by kernel_rfl, by kernel_rfl, by kernel_rfl, rfl, rfl⟩
theorem ok_128 : Ok Tryz.prog 128 (Tryz.f128.body.getD .skip) Tryz.f128.ntmps Tryz.f128.results.toList := ⟨Tryz.f128, by kernel_rfl, by kernel_rfl, by kernel_rfl, by kernel_rfl, rfl, rfl⟩
theorem ok_129 : Ok Tryz.prog 129 (Tryz.f129.body.getD .skip) Tryz.f129.ntmps Tryz.f129.results.toList := ⟨Tryz.f129, by kernel_rfl, by kernel_rfl, by kernel_rfl, by kernel_rfl, rfl, rfl⟩
theorem ok_130 : Ok Tryz.prog 130 (Tryz.f130.body.getD .skip) Tryz.f130.ntmps Tryz.f130.results.toList := ⟨Tryz.f130, by kernel_rfl, by kernel_rfl, by kernel_rfl, by kernel_rfl, rfl, rfl⟩
theorem ok_131 : Ok Tryz.prog 131 (Tryz.f131.body.getD .skip) Tryz.f131.ntmps Tryz.f131.results.toList := ⟨Tryz.f131, by kernel_rfl, by kernel_rfl, by kernel_rfl, by kernel_rfl, rfl, rfl⟩
theorem ok_132 : Ok Tryz.prog 132 (Tryz.f132.body.getD .skip) Tryz.f132.ntmps Tryz.f132.results.toList := ⟨Tryz.f132, by kernel_rfl, by kernel_rfl, by kernel_rfl, by kernel_rfl, rfl, rfl⟩
end Go.Am
end
