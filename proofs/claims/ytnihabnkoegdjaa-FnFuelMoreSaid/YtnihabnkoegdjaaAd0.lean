/- The data. -/
import Derived.Test.YtnihabnkoegdjaaAm6
import Derived.Test.YtnihabnkoegdjaaProg
section
set_option maxRecDepth 100000
set_option linter.unusedVariables false
set_option linter.unusedSimpArgs false
namespace Go.Am
open Go.Proofs
structure DPattern where
 Kind : Int
 Num : Int
 Text : ByteArray
 Kids : (Sl DPattern)
mutual
def DPattern.cells : DPattern → List T
 | ⟨f0, f1, f2, ⟨z3, l3⟩⟩ => [i4 f0, i4 f1, .str f2, .row z3 l3.length (DPattern.cellsK l3)]
def DPattern.cellsK : List DPattern → List T
 | [] => []
 | p :: l => p.cells ++ DPattern.cellsK l
end
theorem DPattern.len (p : DPattern) : p.cells.length = 4 := by
 obtain ⟨f0, f1, f2, ⟨z3, l3⟩⟩ := p; simp [DPattern.cells]
theorem DPattern.one (p : DPattern) : p.cells.all T.one = true := by
 obtain ⟨f0, f1, f2, ⟨z3, l3⟩⟩ := p; simp [DPattern.cells]
mutual
theorem DPattern.pure : ∀ p : DPattern, pureL p.cells = true
 | ⟨f0, f1, f2, ⟨z3, l3⟩⟩ => by simp [DPattern.cells, pureL, pureT, DPattern.pureK l3]
theorem DPattern.pureK : ∀ l : List DPattern, pureL (DPattern.cellsK l) = true
 | [] => by simp [DPattern.cellsK, pureL]
 | p :: l => by simp [DPattern.cellsK, pureL_append, p.pure, DPattern.pureK l]
end
mutual
theorem DPattern.inj : ∀ p q : DPattern, p.cells = q.cells → p = q
 | ⟨f0, f1, f2, ⟨z3, l3⟩⟩, ⟨f0', f1', f2', ⟨z3', l3'⟩⟩, h => by
  simp only [DPattern.cells, List.cons.injEq, and_true, T.int.injEq, T.str.injEq, T.bool.injEq, T.row.injEq, true_and, Sl.inj_iff] at h
  have hk : l3 = l3' := DPattern.injK l3 l3' (by simp_all) (by simp_all)
  simp_all
theorem DPattern.injK : ∀ l l' : List DPattern, l.length = l'.length → DPattern.cellsK l = DPattern.cellsK l' → l = l'
 | [], [], _, _ => rfl
 | [], _ :: _, h, _ => by simp at h
 | _ :: _, [], h, _ => by simp at h
 | p :: l, p' :: l', h, k => by
  simp only [DPattern.cellsK] at k
  have e := List.append_inj k (by rw [DPattern.len, DPattern.len])
  rw [DPattern.inj p p' e.1, DPattern.injK l l' (by simpa using h) e.2]
end
instance : Enc DPattern := ⟨DPattern.cells, 4, DPattern.len, DPattern.one, DPattern.pure, DPattern.inj⟩
theorem DPattern.cellsK_eq : ∀ l : List DPattern, DPattern.cellsK l = am_ l
 | [] => rfl
 | p :: l => by simp only [DPattern.cellsK, am_, DPattern.cellsK_eq l]; rfl
theorem DPattern.cells_eq (p : DPattern) : p.cells = [i4 p.Kind, i4 p.Num, .str p.Text, p.Kids.t] := by
 obtain ⟨f0, f1, f2, ⟨z3, l3⟩⟩ := p; simp only [DPattern.cells, DPattern.cellsK_eq]; rfl
theorem DPattern.enc_eq (p : DPattern) : Enc.cells p = [i4 p.Kind, i4 p.Num, .str p.Text, p.Kids.t] := DPattern.cells_eq p
instance : Lit DPattern := ⟨fun p => [i4 p.Kind, i4 p.Num, .str p.Text, p.Kids.t], fun p => DPattern.cells_eq p⟩
theorem DPattern.inj_agg : ∀ p q : DPattern, T.agg [i4 p.Kind, i4 p.Num, .str p.Text, p.Kids.t] = T.agg [i4 q.Kind, i4 q.Num, .str q.Text, q.Kids.t] → p = q := fun p q h => DPattern.inj p q (by injection h with h; rw [DPattern.cells_eq, DPattern.cells_eq]; exact h)
structure DNamed where
 Name : ByteArray
 Pattern : DPattern
def DNamed.cells (x : DNamed) : List T := [.str x.Name, i4 x.Pattern.Kind, i4 x.Pattern.Num, .str x.Pattern.Text, x.Pattern.Kids.t]
instance : Enc DNamed := ⟨DNamed.cells, 5, fun _ => rfl, fun _ => rfl, fun x => by simp [DNamed.cells, pureL, pureT], fun a b h => by
 rcases a with ⟨_, ⟨_, _, _, _⟩⟩; rcases b with ⟨_, ⟨_, _, _, _⟩⟩; simp [DNamed.cells] at h; simp_all⟩
instance : Lit DNamed := ⟨fun x => [.str x.Name, i4 x.Pattern.Kind, i4 x.Pattern.Num, .str x.Pattern.Text, x.Pattern.Kids.t], fun _ => rfl⟩
instance : Hld false DNamed := ⟨fun a σ d => by show frzL (hold false σ d) (DNamed.cells a) = some (DNamed.cells a, []); simp [DNamed.cells, frzL]⟩
structure ag_ where
 code_ : (Sl (Iv .u8))
 at_ : Int
 seed_ : Int
def ag_.cells (x : ag_) : List T := [x.code_.t, i4 x.at_, .int .u64 x.seed_]
instance : Enc ag_ := ⟨ag_.cells, 3, fun _ => rfl, fun _ => rfl, fun x => by simp [ag_.cells, pureL, pureT], fun a b h => by
 rcases a with ⟨_, _, _⟩; rcases b with ⟨_, _, _⟩; simp [ag_.cells] at h; simp_all⟩
instance : Lit ag_ := ⟨fun x => [x.code_.t, i4 x.at_, .int .u64 x.seed_], fun _ => rfl⟩
instance : Hld false ag_ := ⟨fun a σ d => by show frzL (hold false σ d) (ag_.cells a) = some (ag_.cells a, []); simp [ag_.cells, frzL]⟩
structure DCapture where
 Name : ByteArray
 Text : ByteArray
 Cursor : Int
 Kind : Int
def DCapture.cells (x : DCapture) : List T := [.str x.Name, .str x.Text, i4 x.Cursor, i4 x.Kind]
instance : Enc DCapture := ⟨DCapture.cells, 4, fun _ => rfl, fun _ => rfl, fun x => by simp [DCapture.cells, pureL, pureT], fun a b h => by
 rcases a with ⟨_, _, _, _⟩; rcases b with ⟨_, _, _, _⟩; simp [DCapture.cells] at h; simp_all⟩
instance : Lit DCapture := ⟨fun x => [.str x.Name, .str x.Text, i4 x.Cursor, i4 x.Kind], fun _ => rfl⟩
instance (z : Bool) : Hld z DCapture := ⟨fun a σ d => by show frzL (hold z σ d) (DCapture.cells a) = some (DCapture.cells a, []); simp [DCapture.cells, frzL]⟩
structure DMatch where
 Start : Int
 End : Int
 Captures : (Sl DCapture)
def DMatch.cells (x : DMatch) : List T := [i4 x.Start, i4 x.End, x.Captures.t]
instance : Enc DMatch := ⟨DMatch.cells, 3, fun _ => rfl, fun _ => rfl, fun x => by simp [DMatch.cells, pureL, pureT], fun a b h => by
 rcases a with ⟨_, _, _⟩; rcases b with ⟨_, _, _⟩; simp [DMatch.cells] at h; simp_all⟩
instance : Lit DMatch := ⟨fun x => [i4 x.Start, i4 x.End, x.Captures.t], fun _ => rfl⟩
instance : Hld false DMatch := ⟨fun a σ d => by show frzL (hold false σ d) (DMatch.cells a) = some (DMatch.cells a, []); simp [DMatch.cells, frzL]⟩
structure aa_ where
 env_ : (Sl DNamed)
 subject_ : ByteArray
 fuel_ : Int
 steps_ : Int
 start_ : Int
 now_ : (Sl DCapture)
 conds_ : (Sl DCapture)
 matches_ : (Sl DMatch)
 most_ : Int
 isMere_ : Bool
 counts_ : T
 code_ : Int
structure hQ_ where
 addr_ : T
 buf_ : (Sl (Iv .u8))
def hQ_.cells (x : hQ_) : List T := [x.addr_, x.buf_.t]
structure ah_ where
 p_ : DPattern
 c_ : Int
 next_ : Int
def ah_.cells (x : ah_) : List T := [i4 x.p_.Kind, i4 x.p_.Num, .str x.p_.Text, x.p_.Kids.t, i4 x.c_, i4 x.next_]
instance : Enc ah_ := ⟨ah_.cells, 6, fun _ => rfl, fun _ => rfl, fun x => by simp [ah_.cells, pureL, pureT], fun a b h => by
 rcases a with ⟨⟨_, _, _, _⟩, _, _⟩; rcases b with ⟨⟨_, _, _, _⟩, _, _⟩; simp [ah_.cells] at h; simp_all⟩
instance : Lit ah_ := ⟨fun x => [i4 x.p_.Kind, i4 x.p_.Num, .str x.p_.Text, x.p_.Kids.t, i4 x.c_, i4 x.next_], fun _ => rfl⟩
instance : Hld false ah_ := ⟨fun a σ d => by show frzL (hold false σ d) (ah_.cells a) = some (ah_.cells a, []); simp [ah_.cells, frzL]⟩
structure an_ where
 env_ : (Sl DNamed)
 s_ : ByteArray
 fuel_ : Int
 mode_ : Int
 steps_ : Int
 conts_ : (Sl ah_)
 out_ : (Sl DMatch)
 now_ : (Sl DCapture)
 conds_ : (Sl DCapture)
 full_ : Bool
 abort_ : Bool
 stop_ : Bool
 code_ : Int
def an_.cells (x : an_) : List T := [x.env_.t, .str x.s_, i4 x.fuel_, i4 x.mode_, i4 x.steps_, x.conts_.t, x.out_.t, x.now_.t, x.conds_.t, .bool x.full_, .bool x.abort_, .bool x.stop_, i4 x.code_]
instance : Enc an_ := ⟨an_.cells, 13, fun _ => rfl, fun _ => rfl, fun x => by simp [an_.cells, pureL, pureT], fun a b h => by
 rcases a with ⟨_, _, _, _, _, _, _, _, _, _, _, _, _⟩; rcases b with ⟨_, _, _, _, _, _, _, _, _, _, _, _, _⟩; simp [an_.cells] at h; simp_all⟩
instance : Lit an_ := ⟨fun x => [x.env_.t, .str x.s_, i4 x.fuel_, i4 x.mode_, i4 x.steps_, x.conts_.t, x.out_.t, x.now_.t, x.conds_.t, .bool x.full_, .bool x.abort_, .bool x.stop_, i4 x.code_], fun _ => rfl⟩
instance : Hld false an_ := ⟨fun a σ d => by show frzL (hold false σ d) (an_.cells a) = some (an_.cells a, []); simp [an_.cells, frzL]⟩
def md : Nat → Md := fun f => bif [23, 38, 39, 53, 56, 75, 76, 80, 97, 98, 107, 145].elem f then .own else bif [26, 27, 55, 57, 58, 65, 66, 71, 79, 82, 83, 91, 99, 100, 101, 103, 104, 111, 112, 113, 118, 119, 137, 139, 140, 141, 142, 143, 148, 149, 151, 152, 162, 167, 168, 169, 172, 173, 175, 177, 184].elem f then .raw else .view
def ext : Ext := fun f => bif Nat.beq f 184 then some idxE else none
def bigN : Nat := 100000000000
theorem len0 {hs : List T} (h : hs.length = 0) : hs = [] := List.length_eq_zero_iff.1 h
theorem len1 {hs : List T} (h : hs.length = 1) : ∃ a0, hs = [a0] := by
 rcases hs with _ | ⟨a0, _ | ⟨x, l⟩⟩ <;> simp at h
 exact ⟨a0, rfl⟩
theorem len3 {hs : List T} (h : hs.length = 3) : ∃ a0 a1 a2, hs = [a0, a1, a2] := by
 rcases hs with _ | ⟨a0, _ | ⟨a1, _ | ⟨a2, _ | ⟨x, l⟩⟩⟩⟩ <;> simp at h
 exact ⟨a0, a1, a2, rfl⟩
theorem len4 {hs : List T} (h : hs.length = 4) : ∃ a0 a1 a2 a3, hs = [a0, a1, a2, a3] := by
 rcases hs with _ | ⟨a0, _ | ⟨a1, _ | ⟨a2, _ | ⟨a3, _ | ⟨x, l⟩⟩⟩⟩⟩ <;> simp at h
 exact ⟨a0, a1, a2, a3, rfl⟩
def a1_ (b : Nat) (mq : T) (x : aa_) (hs : List T) : List Ent := match hs with | [h1, h2, h3] => [.box b [x.env_.t, .str x.subject_, i4 x.fuel_, i4 x.steps_, i4 x.start_, h1, h2, h3, i4 x.most_, .bool x.isMere_, mq, i4 x.code_], .flt 4 h1 x.now_.t, .flt 4 h2 x.conds_.t, .own true 3 h3 x.matches_.t] | _ => []
def f6_ (b : Nat) (x : an_) (hs : List T) : List Ent := match hs with | [h1, h2, h3, h4] => [.box b [x.env_.t, .str x.s_, i4 x.fuel_, i4 x.mode_, i4 x.steps_, h1, h2, h3, h4, .bool x.full_, .bool x.abort_, .bool x.stop_, i4 x.code_], .flt 6 h1 x.conts_.t, .own true 3 h2 x.out_.t, .flt 4 h3 x.now_.t, .flt 4 h4 x.conds_.t] | _ => []
def E_bool : Bool → T := fun y => .bool y
theorem E_bool_inj : ∀ a b, E_bool a = E_bool b → a = b := inj_bool
theorem E_bool_p : ∀ v, pureT (E_bool v) = true := fun v => by simp [pureT, pureL, E_bool]
def E_DPattern : DPattern → T := fun y => .agg [i4 y.Kind, i4 y.Num, .str y.Text, y.Kids.t]
theorem E_DPattern_inj : ∀ a b, E_DPattern a = E_DPattern b → a = b := DPattern.inj_agg
def E_sl_u8 : (Sl (Iv .u8)) → T := fun y => y.t
theorem E_sl_u8_inj : ∀ a b, E_sl_u8 a = E_sl_u8 b → a = b := jk_
def E_i64 : Int → T := fun y => i4 y
theorem E_i64_inj : ∀ a b, E_i64 a = E_i64 b → a = b := hg_
theorem E_i64_p : ∀ v, pureT (E_i64 v) = true := fun v => by simp [pureT, pureL, E_i64]
def E_t2_DPattern_bool : (DPattern × Bool) → T := fun y => .tup [.agg [i4 y.1.Kind, i4 y.1.Num, .str y.1.Text, y.1.Kids.t], .bool y.2]
theorem E_t2_DPattern_bool_inj : ∀ a b, E_t2_DPattern_bool a = E_t2_DPattern_bool b → a = b := je_ DPattern.inj_agg inj_bool
theorem E_t2_DPattern_bool_p : ∀ v, pureT (E_t2_DPattern_bool v) = true := fun v => by simp [pureT, pureL, E_t2_DPattern_bool]
def E_str : ByteArray → T := fun y => .str y
theorem E_str_inj : ∀ a b, E_str a = E_str b → a = b := inj_str
theorem E_str_p : ∀ v, pureT (E_str v) = true := fun v => by simp [pureT, pureL, E_str]
def E_t2_sl_DMatch_i64 : ((Sl DMatch) × Int) → T := fun y => .tup [y.1.t, i4 y.2]
theorem E_t2_sl_DMatch_i64_inj : ∀ a b, E_t2_sl_DMatch_i64 a = E_t2_sl_DMatch_i64 b → a = b := je_ jk_ hg_
theorem E_t2_sl_DMatch_i64_p : ∀ v, pureT (E_t2_sl_DMatch_i64 v) = true := fun v => by simp [pureT, pureL, E_t2_sl_DMatch_i64]
def E_sl_DNamed : (Sl DNamed) → T := fun y => y.t
theorem E_sl_DNamed_inj : ∀ a b, E_sl_DNamed a = E_sl_DNamed b → a = b := jk_
def E_t2_i64_i64 : (Int × Int) → T := fun y => .tup [i4 y.1, i4 y.2]
theorem E_t2_i64_i64_inj : ∀ a b, E_t2_i64_i64 a = E_t2_i64_i64 b → a = b := je_ hg_ hg_
theorem E_t2_i64_i64_p : ∀ v, pureT (E_t2_i64_i64 v) = true := fun v => by simp [pureT, pureL, E_t2_i64_i64]
def E_t2_sl_i64_i64 : ((Sl (Iv .i64)) × Int) → T := fun y => .tup [y.1.t, i4 y.2]
theorem E_t2_sl_i64_i64_inj : ∀ a b, E_t2_sl_i64_i64 a = E_t2_sl_i64_i64 b → a = b := je_ jk_ hg_
noncomputable def Sh_t2_sl_i64_i64 : fF_ ((Sl (Iv .i64)) × Int) := ⟨1, fun hs y => match hs with | [h1] => .tup [h1, i4 y.2] | _ => .tup [], fun hs y => match hs with | [h1] => [.own true 1 h1 (Sl.t (y.1 : Sl (Iv .i64)))] | _ => [], E_t2_sl_i64_i64, fun hs y h => by
 obtain ⟨h1, rfl⟩ := len1 h
 exact (HL.tup (es1 := [.own true 1 h1 (Sl.t (y.1 : Sl (Iv .i64)))]) (es2 := []) (HL.own rfl (HL.leaf (fun σ d => by simp) HL.nil)) HL.nil), E_t2_sl_i64_i64_inj⟩
noncomputable def Sh_DPattern : fF_ DPattern := ⟨1, fun hs y => match hs with | [h1] => .agg [i4 y.Kind, i4 y.Num, .str y.Text, h1] | _ => .tup [], fun hs y => match hs with | [h1] => [.own true 4 h1 (Sl.t (y.Kids : Sl DPattern))] | _ => [], E_DPattern, fun hs y h => by
 obtain ⟨h1, rfl⟩ := len1 h
 exact (HL.agg (es1 := [.own true 4 h1 (Sl.t (y.Kids : Sl DPattern))]) (es2 := []) (HL.leaf (fun σ d => by simp) (HL.leaf (fun σ d => by simp) (HL.leaf (fun σ d => by simp) (HL.own rfl HL.nil)))) HL.nil), E_DPattern_inj⟩
def E_t2_i64_T : (Int × T) → T := fun y => .tup [i4 y.1, y.2]
def E_sl_i64 : (Sl (Iv .i64)) → T := fun y => y.t
theorem E_sl_i64_inj : ∀ a b, E_sl_i64 a = E_sl_i64 b → a = b := jk_
noncomputable def Sh_sl_DNamed : fF_ (Sl DNamed) := ⟨1, fun hs y => match hs with | [h1] => h1 | _ => .tup [], fun hs y => match hs with | [h1] => [.own true 5 h1 (Sl.t (y : Sl DNamed))] | _ => [], E_sl_DNamed, fun hs y h => by
 obtain ⟨h1, rfl⟩ := len1 h
 exact (HL.own rfl HL.nil), E_sl_DNamed_inj⟩
def E_t0_ : Unit → T := fun _ => .tup []
def E_t2_i64_str : (Int × ByteArray) → T := fun y => .tup [i4 y.1, .str y.2]
theorem E_t2_i64_str_inj : ∀ a b, E_t2_i64_str a = E_t2_i64_str b → a = b := je_ hg_ inj_str
theorem E_t2_i64_str_p : ∀ v, pureT (E_t2_i64_str v) = true := fun v => by simp [pureT, pureL, E_t2_i64_str]
def E_t2_str_str : (ByteArray × ByteArray) → T := fun y => .tup [.str y.1, .str y.2]
theorem E_t2_str_str_inj : ∀ a b, E_t2_str_str a = E_t2_str_str b → a = b := je_ inj_str inj_str
theorem E_t2_str_str_p : ∀ v, pureT (E_t2_str_str v) = true := fun v => by simp [pureT, pureL, E_t2_str_str]
def E_sl_DCapture : (Sl DCapture) → T := fun y => y.t
theorem E_sl_DCapture_inj : ∀ a b, E_sl_DCapture a = E_sl_DCapture b → a = b := jk_
noncomputable def Sh_t2_sl_DMatch_i64 : fF_ ((Sl DMatch) × Int) := ⟨1, fun hs y => match hs with | [h1] => .tup [h1, i4 y.2] | _ => .tup [], fun hs y => match hs with | [h1] => [.own true 3 h1 (Sl.t (y.1 : Sl DMatch))] | _ => [], E_t2_sl_DMatch_i64, fun hs y h => by
 obtain ⟨h1, rfl⟩ := len1 h
 exact (HL.tup (es1 := [.own true 3 h1 (Sl.t (y.1 : Sl DMatch))]) (es2 := []) (HL.own rfl (HL.leaf (fun σ d => by simp) HL.nil)) HL.nil), E_t2_sl_DMatch_i64_inj⟩
noncomputable def Sh_sl_i64 : fF_ (Sl (Iv .i64)) := ⟨1, fun hs y => match hs with | [h1] => h1 | _ => .tup [], fun hs y => match hs with | [h1] => [.own true 1 h1 (Sl.t (y : Sl (Iv .i64)))] | _ => [], E_sl_i64, fun hs y h => by
 obtain ⟨h1, rfl⟩ := len1 h
 exact (HL.own rfl HL.nil), E_sl_i64_inj⟩
noncomputable def Sh_sl_DCapture : fF_ (Sl DCapture) := ⟨1, fun hs y => match hs with | [h1] => h1 | _ => .tup [], fun hs y => match hs with | [h1] => [.own true 4 h1 (Sl.t (y : Sl DCapture))] | _ => [], E_sl_DCapture, fun hs y h => by
 obtain ⟨h1, rfl⟩ := len1 h
 exact (HL.own rfl HL.nil), E_sl_DCapture_inj⟩
noncomputable def e6_ (a0 : (Sl (Iv .u8))) : Option Bool := semV Try.prog md ext E_bool 8 [(a0.t)]
noncomputable def fh_ (a0 : (Sl (Iv .u8))) : Option DPattern := semV Try.prog md ext E_DPattern 14 [(a0.t)]
noncomputable def eE_ (a0 : Int) (a1 : (Sl (Iv .u8))) : Option (Sl (Iv .u8)) := semV Try.prog md ext E_sl_u8 15 [(i4 a0), (a1.t)]
noncomputable def dR_ (a0 : (Sl (Iv .u8))) : Option ByteArray := semV Try.prog md ext E_str 30 [(a0.t)]
noncomputable def cO_ (a0 : (Sl DNamed)) (a1 : DPattern) (a2 : ByteArray) (a3 : Bool) (a4 : Int) : Option ((Sl DMatch) × Int) := semV Try.prog md ext E_t2_sl_DMatch_i64 34 [(a0.t), (.agg [i4 a1.Kind, i4 a1.Num, .str a1.Text, a1.Kids.t]), (.str a2), (.bool a3), (i4 a4)]
noncomputable def dN_ (a0 : (Sl (Iv .u8))) : Option (Sl DNamed) := semV Try.prog md ext E_sl_DNamed 41 [(a0.t)]
noncomputable def fb_ (a0 : (Sl (Iv .u8))) (a1 : Int) (a2 : Int) : Option Int := semV Try.prog md ext E_i64 42 [(a0.t), (i4 a1), (i4 a2)]
noncomputable def cF_ (a0 : (Sl DNamed)) (a1 : DPattern) (a2 : ByteArray) (a3 : Bool) (a4 : Int) : Option (Int × Int) := semV Try.prog md ext E_t2_i64_i64 43 [(a0.t), (.agg [i4 a1.Kind, i4 a1.Num, .str a1.Text, a1.Kids.t]), (.str a2), (.bool a3), (i4 a4)]
noncomputable def cn_ (a0 : (Sl DMatch)) (a1 : (Sl DMatch)) : Option Bool := semV Try.prog md ext E_bool 44 [(a0.t), (a1.t)]
noncomputable def b3_ (a0 : DPattern) : Option Bool := semV Try.prog md ext E_bool 52 [(.agg [i4 a0.Kind, i4 a0.Num, .str a0.Text, a0.Kids.t])]
noncomputable def bw_ (a0 : DPattern) : Option DPattern := semO Try.prog md ext Sh_DPattern 56 [(.agg [i4 a0.Kind, i4 a0.Num, .str a0.Text, a0.Kids.t])]
noncomputable def fO_ (a0 : (Sl (Iv .i64))) : Option Int := semV Try.prog md ext E_i64 67 [(a0.t)]
noncomputable def dY_ (a0 : Bool) (a1 : Int) : Option Int := semV Try.prog md ext E_i64 68 [(.bool a0), (i4 a1)]
noncomputable def cL_ (a0 : ByteArray) : Option Bool := semV Try.prog md ext E_bool 69 [(.str a0)]
noncomputable def cz_ (a0 : (Sl DNamed)) (a1 : DPattern) (a2 : ByteArray) (a3 : Int) : Option Int := semV Try.prog md ext E_i64 70 [(a0.t), (.agg [i4 a1.Kind, i4 a1.Num, .str a1.Text, a1.Kids.t]), (.str a2), (i4 a3)]
noncomputable def hK_ (a0 : hQ_) (a1 : ByteArray) : Option (Int × T) := semL Try.prog md ext E_t2_i64_T 72 (fun bs => match bs with | [bp0] => [(.ptr bp0 0 0 2), (.str a1)] | _ => []) [hQ_.cells a0]
noncomputable def db_ (a0 : (Sl DNamed)) (a1 : DPattern) (a2 : ByteArray) (a3 : (Sl (Iv .i64))) (a4 : Int) : Option ((Sl DMatch) × Int) := semO Try.prog md ext Sh_t2_sl_DMatch_i64 75 [(a0.t), (.agg [i4 a1.Kind, i4 a1.Num, .str a1.Text, a1.Kids.t]), (.str a2), (a3.t), (i4 a4)]
noncomputable def bm_ (a0 : ByteArray) (a1 : Bool) : Option (Sl (Iv .i64)) := semO Try.prog md ext Sh_sl_i64 76 [(.str a0), (.bool a1)]
noncomputable def gU_ (a0 : (Sl DNamed)) (a1 : DPattern) (a2 : ByteArray) (a3 : Int) : Option Int := semV Try.prog md ext E_i64 78 [(a0.t), (.agg [i4 a1.Kind, i4 a1.Num, .str a1.Text, a1.Kids.t]), (.str a2), (i4 a3)]
noncomputable def bU_ (a0 : (Sl DMatch)) (a1 : (Sl DMatch)) (a2 : T) : Option Bool := semV Try.prog md ext E_bool 84 [(a0.t), (a1.t), (a2)]
noncomputable def dE_ (a0 : DMatch) (a1 : DMatch) : Option Bool := semV Try.prog md ext E_bool 85 [(.agg (DMatch.cells a0)), (.agg (DMatch.cells a1))]
noncomputable def aG_ (a0 : DPattern) (a1 : Int) : Option Int := semV Try.prog md ext E_i64 92 [(.agg [i4 a0.Kind, i4 a0.Num, .str a0.Text, a0.Kids.t]), (i4 a1)]
noncomputable def bM_ (a0 : Int) (a1 : Int) (a2 : Int) : Option Bool := semV Try.prog md ext E_bool 94 [(i4 a0), (i4 a1), (i4 a2)]
noncomputable def el_ (a0 : (Sl DNamed)) : Option Bool := semV Try.prog md ext E_bool 95 [(a0.t)]
noncomputable def fB_ (a0 : ByteArray) (a1 : Bool) : Option (Sl (Iv .i64)) := semO Try.prog md ext Sh_sl_i64 97 [(.str a0), (.bool a1)]
noncomputable def bz_ (a0 : DPattern) : Option DPattern := semO Try.prog md ext Sh_DPattern 98 [(.agg [i4 a0.Kind, i4 a0.Num, .str a0.Text, a0.Kids.t])]
noncomputable def ch_ (a0 : Int) : Option (Int × ByteArray) := semV Try.prog md ext E_t2_i64_str 102 [(i4 a0)]
noncomputable def aX_ (a0 : DPattern) (a1 : Int) : Option Int := semV Try.prog md ext E_i64 110 [(.agg [i4 a0.Kind, i4 a0.Num, .str a0.Text, a0.Kids.t]), (i4 a1)]
noncomputable def eo_ (a0 : (Sl DNamed)) : Option Bool := semV Try.prog md ext E_bool 115 [(a0.t)]
noncomputable def b8_ (a0 : DPattern) : Option Bool := semV Try.prog md ext E_bool 116 [(.agg [i4 a0.Kind, i4 a0.Num, .str a0.Text, a0.Kids.t])]
noncomputable def cq_ (a0 : Int) (a1 : Int) (a2 : Int) : Option Bool := semV Try.prog md ext E_bool 117 [(i4 a0), (i4 a1), (i4 a2)]
noncomputable def cm_ (a0 : (Sl DCapture)) (a1 : (Sl DCapture)) : Option Bool := semV Try.prog md ext E_bool 120 [(a0.t), (a1.t)]
noncomputable def dt_ (a0 : Int) (a1 : Int) (a2 : ByteArray) : Option Bool := semV Try.prog md ext E_bool 123 [(i4 a0), (i4 a1), (.str a2)]
noncomputable def fy_ (a0 : Int) : Option Int := semV Try.prog md ext E_i64 124 [(i4 a0)]
noncomputable def cX_ (a0 : (Sl DNamed)) (a1 : T) : Option Bool := semV Try.prog md ext E_bool 125 [(a0.t), (a1)]
noncomputable def dq_ (a0 : DNamed) : Option Bool := semV Try.prog md ext E_bool 126 [(.agg (DNamed.cells a0))]
noncomputable def d0_ (a0 : ByteArray) : Option Bool := semV Try.prog md ext E_bool 127 [(.str a0)]
noncomputable def d6_ (a0 : (Sl DNamed)) (a1 : ByteArray) : Option (DPattern × Bool) := semV Try.prog md ext E_t2_DPattern_bool 128 [(a0.t), (.str a1)]
noncomputable def cS_ (a0 : ByteArray) (a1 : ByteArray) : Option Bool := semV Try.prog md ext E_bool 130 [(.str a0), (.str a1)]
noncomputable def gi_ (a0 : Int) : Option (ByteArray × ByteArray) := semV Try.prog md ext E_t2_str_str 133 [(i4 a0)]
noncomputable def eW_ (a0 : DPattern) : Option Bool := semV Try.prog md ext E_bool 136 [(.agg [i4 a0.Kind, i4 a0.Num, .str a0.Text, a0.Kids.t])]
noncomputable def bF_ (a0 : ByteArray) (a1 : Int) (a2 : Int) : Option Int := semV Try.prog md ext E_i64 138 [(.str a0), (i4 a1), (i4 a2)]
noncomputable def d8_ (a0 : Int) (a1 : Int) (a2 : ByteArray) (a3 : ByteArray) (a4 : Int) : Option Int := semV Try.prog md ext E_i64 144 [(i4 a0), (i4 a1), (.str a2), (.str a3), (i4 a4)]
noncomputable def a9_ (a0 : (Sl (Sl DCapture))) : Option (Sl DCapture) := semO Try.prog md ext Sh_sl_DCapture 145 [(a0.t)]
noncomputable def d7_ (a0 : ByteArray) : Option Bool := semV Try.prog md ext E_bool 147 [(.str a0)]
noncomputable def b4_ (a0 : ByteArray) (a1 : Int) (a2 : Int) : Option Int := semV Try.prog md ext E_i64 150 [(.str a0), (i4 a1), (i4 a2)]
noncomputable def ce_ (a0 : (Sl DNamed)) (a1 : ByteArray) : Option Int := semV Try.prog md ext E_i64 153 [(a0.t), (.str a1)]
noncomputable def fn_ (a0 : DPattern) (a1 : ByteArray) (a2 : Int) : Option Int := semV Try.prog md ext E_i64 154 [(.agg [i4 a0.Kind, i4 a0.Num, .str a0.Text, a0.Kids.t]), (.str a1), (i4 a2)]
noncomputable def ft_ (a0 : Int) : Option Bool := semV Try.prog md ext E_bool 155 [(i4 a0)]
noncomputable def dF_ (a0 : Int) : Option Bool := semV Try.prog md ext E_bool 156 [(i4 a0)]
noncomputable def eP_ (a0 : Int) : Option Bool := semV Try.prog md ext E_bool 157 [(i4 a0)]
noncomputable def cH_ (a0 : Int) : Option Bool := semV Try.prog md ext E_bool 158 [(i4 a0)]
noncomputable def da_ (a0 : Int) : Option Bool := semV Try.prog md ext E_bool 159 [(.int .u8 a0)]
noncomputable def eH_ (a0 : (Sl (Iv .u8))) (a1 : T) : Option Bool := semV Try.prog md ext E_bool 160 [(a0.t), (a1)]
noncomputable def dk_ (a0 : Int) : Option Bool := semV Try.prog md ext E_bool 161 [(.int .u8 a0)]
noncomputable def bi_ (a0 : ByteArray) (a1 : ByteArray) : Option Bool := semV Try.prog md ext E_bool 165 [(.str a0), (.str a1)]
noncomputable def bn_ (a0 : Int) (a1 : ByteArray) : Option Bool := semL Try.prog md ext E_bool 170 (fun bs => match bs with | [bp1] => [(.int .u8 a0), (.ptr bp1 0 0 1)] | _ => []) [[.str a1]]
noncomputable def cR_ (a0 : ByteArray) (a1 : Int) : Option Int := semV Try.prog md ext E_i64 171 [(.str a0), (.int .u8 a1)]
noncomputable def dv_ (a0 : Int) (a1 : Int) (a2 : Bool) : Option Int := semV Try.prog md ext E_i64 174 [(i4 a0), (i4 a1), (.bool a2)]
noncomputable def dr_ (a0 : ByteArray) (a1 : Int) : Option Int := semV Try.prog md ext E_i64 176 [(.str a0), (i4 a1)]
noncomputable def ba_ (a0 : ByteArray) (a1 : Int) : Option Bool := semV Try.prog md ext E_bool 178 [(.str a0), (.int .u8 a1)]
noncomputable def eQ_ (a0 : Int) : Option Bool := semV Try.prog md ext E_bool 179 [(.int .u8 a0)]
noncomputable def bg_ (a0 : ByteArray) (a1 : Int) : Option Int := semV Try.prog md ext E_i64 181 [(.str a0), (.int .u8 a1)]
noncomputable def cb_ (a0 : Int) : Option Bool := semV Try.prog md ext E_bool 182 [(.int .u8 a0)]
noncomputable def c3_ (a0 : Int) : Option Bool := semV Try.prog md ext E_bool 183 [(.int .u8 a0)]
theorem ext_x : XOk ext := by
 intro f g h1
 unfold ext at h1
 cases h184 : Nat.beq f 184 with
 | true => rw [h184] at h1; have h1 : some idxE = some g := h1; injection h1 with h1; subst h1; exact t5_
 | false =>
 rw [h184] at h1
 simp only [cond_false] at h1
 cases h1
noncomputable def bH_ (a0 : ByteArray) (a1 : Int) : Option Int := semV Try.prog md ext E_i64 184 [(.str a0), (.int .u8 a1)]
noncomputable def bG_ (a0 : ByteArray) (a1 : Int) : Option Int := some (firstIdx a0 a1.toNat.toUInt8)
theorem cZ_ (a0 : ByteArray) (a1 : Int) (r : Int) (h : bG_ a0 a1 = some r) : bH_ a0 a1 = some r := by
 unfold bG_ at h
 injection h with h; subst h
 exact q4_ E_i64_inj rfl rfl a0 a1 (fun _ => rfl)
theorem ext_ok : ∀ f g args σ r σ', ext f = some g → g args σ = some (r, σ') → gB_ Try.prog f args σ r σ' := by
 intro f g args σ r σ' h1 h2
 unfold ext at h1
 cases h184 : Nat.beq f 184 with
 | true => have e := Nat.eq_of_beq_eq_true h184; rw [h184] at h1; have h1 : some idxE = some g := h1; injection h1 with h1; subst h1; subst e; exact sH_ (fn := Try.f184) (by kernel_rfl) (by kernel_rfl) (by kernel_rfl) (by kernel_rfl) (by rfl) args σ r σ' h2
 | false =>
 rw [h184] at h1
 simp only [cond_false] at h1
 cases h1
theorem ok_8 : Ok Try.prog 8 (Try.f8.body.getD .skip) Try.f8.ntmps Try.f8.results.toList := ⟨Try.f8, by kernel_rfl, by kernel_rfl, by kernel_rfl, by kernel_rfl, rfl, rfl⟩
theorem ok_14 : Ok Try.prog 14 (Try.f14.body.getD .skip) Try.f14.ntmps Try.f14.results.toList := ⟨Try.f14, by kernel_rfl, by kernel_rfl, by kernel_rfl, by kernel_rfl, rfl, rfl⟩
theorem ok_15 : Ok Try.prog 15 (Try.f15.body.getD .skip) Try.f15.ntmps Try.f15.results.toList := ⟨Try.f15, by kernel_rfl, by kernel_rfl, by kernel_rfl, by kernel_rfl, rfl, rfl⟩
theorem ok_30 : Ok Try.prog 30 (Try.f30.body.getD .skip) Try.f30.ntmps Try.f30.results.toList := ⟨Try.f30, by kernel_rfl, by kernel_rfl, by kernel_rfl, by kernel_rfl, rfl, rfl⟩
theorem ok_34 : Ok Try.prog 34 (Try.f34.body.getD .skip) Try.f34.ntmps Try.f34.results.toList := ⟨Try.f34, by kernel_rfl, by kernel_rfl, by kernel_rfl, by kernel_rfl, rfl, rfl⟩
theorem ok_41 : Ok Try.prog 41 (Try.f41.body.getD .skip) Try.f41.ntmps Try.f41.results.toList := ⟨Try.f41, by kernel_rfl, by kernel_rfl, by kernel_rfl, by kernel_rfl, rfl, rfl⟩
theorem ok_42 : Ok Try.prog 42 (Try.f42.body.getD .skip) Try.f42.ntmps Try.f42.results.toList := ⟨Try.f42, by kernel_rfl, by kernel_rfl, by kernel_rfl, by kernel_rfl, rfl, rfl⟩
theorem ok_43 : Ok Try.prog 43 (Try.f43.body.getD .skip) Try.f43.ntmps Try.f43.results.toList := ⟨Try.f43, by kernel_rfl, by kernel_rfl, by kernel_rfl, by kernel_rfl, rfl, rfl⟩
theorem ok_44 : Ok Try.prog 44 (Try.f44.body.getD .skip) Try.f44.ntmps Try.f44.results.toList := ⟨Try.f44, by kernel_rfl, by kernel_rfl, by kernel_rfl, by kernel_rfl, rfl, rfl⟩
theorem ok_52 : Ok Try.prog 52 (Try.f52.body.getD .skip) Try.f52.ntmps Try.f52.results.toList := ⟨Try.f52, by kernel_rfl, by kernel_rfl, by kernel_rfl, by kernel_rfl, rfl, rfl⟩
theorem ok_55 : Ok Try.prog 55 (Try.f55.body.getD .skip) Try.f55.ntmps Try.f55.results.toList := ⟨Try.f55, by kernel_rfl, by kernel_rfl, by kernel_rfl, by kernel_rfl, rfl, rfl⟩
theorem ok_56 : Ok Try.prog 56 (Try.f56.body.getD .skip) Try.f56.ntmps Try.f56.results.toList := ⟨Try.f56, by kernel_rfl, by kernel_rfl, by kernel_rfl, by kernel_rfl, rfl, rfl⟩
theorem ok_57 : Ok Try.prog 57 (Try.f57.body.getD .skip) Try.f57.ntmps Try.f57.results.toList := ⟨Try.f57, by kernel_rfl, by kernel_rfl, by kernel_rfl, by kernel_rfl, rfl, rfl⟩
theorem ok_58 : Ok Try.prog 58 (Try.f58.body.getD .skip) Try.f58.ntmps Try.f58.results.toList := ⟨Try.f58, by kernel_rfl, by kernel_rfl, by kernel_rfl, by kernel_rfl, rfl, rfl⟩
theorem ok_65 : Ok Try.prog 65 (Try.f65.body.getD .skip) Try.f65.ntmps Try.f65.results.toList := ⟨Try.f65, by kernel_rfl, by kernel_rfl, by kernel_rfl, by kernel_rfl, rfl, rfl⟩
theorem ok_66 : Ok Try.prog 66 (Try.f66.body.getD .skip) Try.f66.ntmps Try.f66.results.toList := ⟨Try.f66, by kernel_rfl, by kernel_rfl, by kernel_rfl, by kernel_rfl, rfl, rfl⟩
theorem ok_67 : Ok Try.prog 67 (Try.f67.body.getD .skip) Try.f67.ntmps Try.f67.results.toList := ⟨Try.f67, by kernel_rfl, by kernel_rfl, by kernel_rfl, by kernel_rfl, rfl, rfl⟩
theorem ok_68 : Ok Try.prog 68 (Try.f68.body.getD .skip) Try.f68.ntmps Try.f68.results.toList := ⟨Try.f68, by kernel_rfl, by kernel_rfl, by kernel_rfl, by kernel_rfl, rfl, rfl⟩
theorem ok_69 : Ok Try.prog 69 (Try.f69.body.getD .skip) Try.f69.ntmps Try.f69.results.toList := ⟨Try.f69, by kernel_rfl, by kernel_rfl, by kernel_rfl, by kernel_rfl, rfl, rfl⟩
theorem ok_70 : Ok Try.prog 70 (Try.f70.body.getD .skip) Try.f70.ntmps Try.f70.results.toList := ⟨Try.f70, by kernel_rfl, by kernel_rfl, by kernel_rfl, by kernel_rfl, rfl, rfl⟩
theorem ok_71 : Ok Try.prog 71 (Try.f71.body.getD .skip) Try.f71.ntmps Try.f71.results.toList := ⟨Try.f71, by kernel_rfl, by kernel_rfl, by kernel_rfl, by kernel_rfl, rfl, rfl⟩
theorem ok_75 : Ok Try.prog 75 (Try.f75.body.getD .skip) Try.f75.ntmps Try.f75.results.toList := ⟨Try.f75, by kernel_rfl, by kernel_rfl, by kernel_rfl, by kernel_rfl, rfl, rfl⟩
theorem ok_76 : Ok Try.prog 76 (Try.f76.body.getD .skip) Try.f76.ntmps Try.f76.results.toList := ⟨Try.f76, by kernel_rfl, by kernel_rfl, by kernel_rfl, by kernel_rfl, rfl, rfl⟩
theorem ok_78 : Ok Try.prog 78 (Try.f78.body.getD .skip) Try.f78.ntmps Try.f78.results.toList := ⟨Try.f78, by kernel_rfl, by kernel_rfl, by kernel_rfl, by kernel_rfl, rfl, rfl⟩
theorem ok_82 : Ok Try.prog 82 (Try.f82.body.getD .skip) Try.f82.ntmps Try.f82.results.toList := ⟨Try.f82, by kernel_rfl, by kernel_rfl, by kernel_rfl, by kernel_rfl, rfl, rfl⟩
theorem ok_83 : Ok Try.prog 83 (Try.f83.body.getD .skip) Try.f83.ntmps Try.f83.results.toList := ⟨Try.f83, by kernel_rfl, by kernel_rfl, by kernel_rfl, by kernel_rfl, rfl, rfl⟩
theorem ok_84 : Ok Try.prog 84 (Try.f84.body.getD .skip) Try.f84.ntmps Try.f84.results.toList := ⟨Try.f84, by kernel_rfl, by kernel_rfl, by kernel_rfl, by kernel_rfl, rfl, rfl⟩
theorem ok_85 : Ok Try.prog 85 (Try.f85.body.getD .skip) Try.f85.ntmps Try.f85.results.toList := ⟨Try.f85, by kernel_rfl, by kernel_rfl, by kernel_rfl, by kernel_rfl, rfl, rfl⟩
theorem ok_92 : Ok Try.prog 92 (Try.f92.body.getD .skip) Try.f92.ntmps Try.f92.results.toList := ⟨Try.f92, by kernel_rfl, by kernel_rfl, by kernel_rfl, by kernel_rfl, rfl, rfl⟩
theorem ok_94 : Ok Try.prog 94 (Try.f94.body.getD .skip) Try.f94.ntmps Try.f94.results.toList := ⟨Try.f94, by kernel_rfl, by kernel_rfl, by kernel_rfl, by kernel_rfl, rfl, rfl⟩
theorem ok_95 : Ok Try.prog 95 (Try.f95.body.getD .skip) Try.f95.ntmps Try.f95.results.toList := ⟨Try.f95, by kernel_rfl, by kernel_rfl, by kernel_rfl, by kernel_rfl, rfl, rfl⟩
theorem ok_97 : Ok Try.prog 97 (Try.f97.body.getD .skip) Try.f97.ntmps Try.f97.results.toList := ⟨Try.f97, by kernel_rfl, by kernel_rfl, by kernel_rfl, by kernel_rfl, rfl, rfl⟩
theorem ok_98 : Ok Try.prog 98 (Try.f98.body.getD .skip) Try.f98.ntmps Try.f98.results.toList := ⟨Try.f98, by kernel_rfl, by kernel_rfl, by kernel_rfl, by kernel_rfl, rfl, rfl⟩
theorem ok_99 : Ok Try.prog 99 (Try.f99.body.getD .skip) Try.f99.ntmps Try.f99.results.toList := ⟨Try.f99, by kernel_rfl, by kernel_rfl, by kernel_rfl, by kernel_rfl, rfl, rfl⟩
theorem ok_100 : Ok Try.prog 100 (Try.f100.body.getD .skip) Try.f100.ntmps Try.f100.results.toList := ⟨Try.f100, by kernel_rfl, by kernel_rfl, by kernel_rfl, by kernel_rfl, rfl, rfl⟩
theorem ok_101 : Ok Try.prog 101 (Try.f101.body.getD .skip) Try.f101.ntmps Try.f101.results.toList := ⟨Try.f101, by kernel_rfl, by kernel_rfl, by kernel_rfl, by kernel_rfl, rfl, rfl⟩
theorem ok_102 : Ok Try.prog 102 (Try.f102.body.getD .skip) Try.f102.ntmps Try.f102.results.toList := ⟨Try.f102, by kernel_rfl, by kernel_rfl, by kernel_rfl, by kernel_rfl, rfl, rfl⟩
theorem ok_103 : Ok Try.prog 103 (Try.f103.body.getD .skip) Try.f103.ntmps Try.f103.results.toList := ⟨Try.f103, by kernel_rfl, by kernel_rfl, by kernel_rfl, by kernel_rfl, rfl, rfl⟩
theorem ok_104 : Ok Try.prog 104 (Try.f104.body.getD .skip) Try.f104.ntmps Try.f104.results.toList := ⟨Try.f104, by kernel_rfl, by kernel_rfl, by kernel_rfl, by kernel_rfl, rfl, rfl⟩
theorem ok_110 : Ok Try.prog 110 (Try.f110.body.getD .skip) Try.f110.ntmps Try.f110.results.toList := ⟨Try.f110, by kernel_rfl, by kernel_rfl, by kernel_rfl, by kernel_rfl, rfl, rfl⟩
theorem ok_111 : Ok Try.prog 111 (Try.f111.body.getD .skip) Try.f111.ntmps Try.f111.results.toList := ⟨Try.f111, by kernel_rfl, by kernel_rfl, by kernel_rfl, by kernel_rfl, rfl, rfl⟩
theorem ok_112 : Ok Try.prog 112 (Try.f112.body.getD .skip) Try.f112.ntmps Try.f112.results.toList := ⟨Try.f112, by kernel_rfl, by kernel_rfl, by kernel_rfl, by kernel_rfl, rfl, rfl⟩
theorem ok_113 : Ok Try.prog 113 (Try.f113.body.getD .skip) Try.f113.ntmps Try.f113.results.toList := ⟨Try.f113, by kernel_rfl, by kernel_rfl, by kernel_rfl, by kernel_rfl, rfl, rfl⟩
theorem ok_115 : Ok Try.prog 115 (Try.f115.body.getD .skip) Try.f115.ntmps Try.f115.results.toList := ⟨Try.f115, by kernel_rfl, by kernel_rfl, by kernel_rfl, by kernel_rfl, rfl, rfl⟩
theorem ok_116 : Ok Try.prog 116 (Try.f116.body.getD .skip) Try.f116.ntmps Try.f116.results.toList := ⟨Try.f116, by kernel_rfl, by kernel_rfl, by kernel_rfl, by kernel_rfl, rfl, rfl⟩
theorem ok_117 : Ok Try.prog 117 (Try.f117.body.getD .skip) Try.f117.ntmps Try.f117.results.toList := ⟨Try.f117, by kernel_rfl, by kernel_rfl, by kernel_rfl, by kernel_rfl, rfl, rfl⟩
theorem ok_118 : Ok Try.prog 118 (Try.f118.body.getD .skip) Try.f118.ntmps Try.f118.results.toList := ⟨Try.f118, by kernel_rfl, by kernel_rfl, by kernel_rfl, by kernel_rfl, rfl, rfl⟩
theorem ok_119 : Ok Try.prog 119 (Try.f119.body.getD .skip) Try.f119.ntmps Try.f119.results.toList := ⟨Try.f119, by kernel_rfl, by kernel_rfl, by kernel_rfl, by kernel_rfl, rfl, rfl⟩
theorem ok_120 : Ok Try.prog 120 (Try.f120.body.getD .skip) Try.f120.ntmps Try.f120.results.toList := ⟨Try.f120, by kernel_rfl, by kernel_rfl, by kernel_rfl, by kernel_rfl, rfl, rfl⟩
theorem ok_123 : Ok Try.prog 123 (Try.f123.body.getD .skip) Try.f123.ntmps Try.f123.results.toList := ⟨Try.f123, by kernel_rfl, by kernel_rfl, by kernel_rfl, by kernel_rfl, rfl, rfl⟩
theorem ok_124 : Ok Try.prog 124 (Try.f124.body.getD .skip) Try.f124.ntmps Try.f124.results.toList := ⟨Try.f124, by kernel_rfl, by kernel_rfl, by kernel_rfl, by kernel_rfl, rfl, rfl⟩
theorem ok_125 : Ok Try.prog 125 (Try.f125.body.getD .skip) Try.f125.ntmps Try.f125.results.toList := ⟨Try.f125, by kernel_rfl, by kernel_rfl, by kernel_rfl, by kernel_rfl, rfl, rfl⟩
theorem ok_126 : Ok Try.prog 126 (Try.f126.body.getD .skip) Try.f126.ntmps Try.f126.results.toList := ⟨Try.f126, by kernel_rfl, by kernel_rfl, by kernel_rfl, by kernel_rfl, rfl, rfl⟩
theorem ok_127 : Ok Try.prog 127 (Try.f127.body.getD .skip) Try.f127.ntmps Try.f127.results.toList := ⟨Try.f127, by kernel_rfl, by kernel_rfl, by kernel_rfl, by kernel_rfl, rfl, rfl⟩
theorem ok_128 : Ok Try.prog 128 (Try.f128.body.getD .skip) Try.f128.ntmps Try.f128.results.toList := ⟨Try.f128, by kernel_rfl, by kernel_rfl, by kernel_rfl, by kernel_rfl, rfl, rfl⟩
theorem ok_130 : Ok Try.prog 130 (Try.f130.body.getD .skip) Try.f130.ntmps Try.f130.results.toList := ⟨Try.f130, by kernel_rfl, by kernel_rfl, by kernel_rfl, by kernel_rfl, rfl, rfl⟩
theorem ok_133 : Ok Try.prog 133 (Try.f133.body.getD .skip) Try.f133.ntmps Try.f133.results.toList := ⟨Try.f133, by kernel_rfl, by kernel_rfl, by kernel_rfl, by kernel_rfl, rfl, rfl⟩
theorem ok_136 : Ok Try.prog 136 (Try.f136.body.getD .skip) Try.f136.ntmps Try.f136.results.toList := ⟨Try.f136, by kernel_rfl, by kernel_rfl, by kernel_rfl, by kernel_rfl, rfl, rfl⟩
theorem ok_137 : Ok Try.prog 137 (Try.f137.body.getD .skip) Try.f137.ntmps Try.f137.results.toList := ⟨Try.f137, by kernel_rfl, by kernel_rfl, by kernel_rfl, by kernel_rfl, rfl, rfl⟩
theorem ok_138 : Ok Try.prog 138 (Try.f138.body.getD .skip) Try.f138.ntmps Try.f138.results.toList := ⟨Try.f138, by kernel_rfl, by kernel_rfl, by kernel_rfl, by kernel_rfl, rfl, rfl⟩
theorem ok_139 : Ok Try.prog 139 (Try.f139.body.getD .skip) Try.f139.ntmps Try.f139.results.toList := ⟨Try.f139, by kernel_rfl, by kernel_rfl, by kernel_rfl, by kernel_rfl, rfl, rfl⟩
theorem ok_140 : Ok Try.prog 140 (Try.f140.body.getD .skip) Try.f140.ntmps Try.f140.results.toList := ⟨Try.f140, by kernel_rfl, by kernel_rfl, by kernel_rfl, by kernel_rfl, rfl, rfl⟩
theorem ok_141 : Ok Try.prog 141 (Try.f141.body.getD .skip) Try.f141.ntmps Try.f141.results.toList := ⟨Try.f141, by kernel_rfl, by kernel_rfl, by kernel_rfl, by kernel_rfl, rfl, rfl⟩
theorem ok_142 : Ok Try.prog 142 (Try.f142.body.getD .skip) Try.f142.ntmps Try.f142.results.toList := ⟨Try.f142, by kernel_rfl, by kernel_rfl, by kernel_rfl, by kernel_rfl, rfl, rfl⟩
theorem ok_143 : Ok Try.prog 143 (Try.f143.body.getD .skip) Try.f143.ntmps Try.f143.results.toList := ⟨Try.f143, by kernel_rfl, by kernel_rfl, by kernel_rfl, by kernel_rfl, rfl, rfl⟩
theorem ok_144 : Ok Try.prog 144 (Try.f144.body.getD .skip) Try.f144.ntmps Try.f144.results.toList := ⟨Try.f144, by kernel_rfl, by kernel_rfl, by kernel_rfl, by kernel_rfl, rfl, rfl⟩
theorem ok_145 : Ok Try.prog 145 (Try.f145.body.getD .skip) Try.f145.ntmps Try.f145.results.toList := ⟨Try.f145, by kernel_rfl, by kernel_rfl, by kernel_rfl, by kernel_rfl, rfl, rfl⟩
theorem ok_147 : Ok Try.prog 147 (Try.f147.body.getD .skip) Try.f147.ntmps Try.f147.results.toList := ⟨Try.f147, by kernel_rfl, by kernel_rfl, by kernel_rfl, by kernel_rfl, rfl, rfl⟩
theorem ok_148 : Ok Try.prog 148 (Try.f148.body.getD .skip) Try.f148.ntmps Try.f148.results.toList := ⟨Try.f148, by kernel_rfl, by kernel_rfl, by kernel_rfl, by kernel_rfl, rfl, rfl⟩
theorem ok_149 : Ok Try.prog 149 (Try.f149.body.getD .skip) Try.f149.ntmps Try.f149.results.toList := ⟨Try.f149, by kernel_rfl, by kernel_rfl, by kernel_rfl, by kernel_rfl, rfl, rfl⟩
theorem ok_150 : Ok Try.prog 150 (Try.f150.body.getD .skip) Try.f150.ntmps Try.f150.results.toList := ⟨Try.f150, by kernel_rfl, by kernel_rfl, by kernel_rfl, by kernel_rfl, rfl, rfl⟩
theorem ok_151 : Ok Try.prog 151 (Try.f151.body.getD .skip) Try.f151.ntmps Try.f151.results.toList := ⟨Try.f151, by kernel_rfl, by kernel_rfl, by kernel_rfl, by kernel_rfl, rfl, rfl⟩
theorem ok_152 : Ok Try.prog 152 (Try.f152.body.getD .skip) Try.f152.ntmps Try.f152.results.toList := ⟨Try.f152, by kernel_rfl, by kernel_rfl, by kernel_rfl, by kernel_rfl, rfl, rfl⟩
theorem ok_153 : Ok Try.prog 153 (Try.f153.body.getD .skip) Try.f153.ntmps Try.f153.results.toList := ⟨Try.f153, by kernel_rfl, by kernel_rfl, by kernel_rfl, by kernel_rfl, rfl, rfl⟩
theorem ok_154 : Ok Try.prog 154 (Try.f154.body.getD .skip) Try.f154.ntmps Try.f154.results.toList := ⟨Try.f154, by kernel_rfl, by kernel_rfl, by kernel_rfl, by kernel_rfl, rfl, rfl⟩
theorem ok_155 : Ok Try.prog 155 (Try.f155.body.getD .skip) Try.f155.ntmps Try.f155.results.toList := ⟨Try.f155, by kernel_rfl, by kernel_rfl, by kernel_rfl, by kernel_rfl, rfl, rfl⟩
theorem ok_156 : Ok Try.prog 156 (Try.f156.body.getD .skip) Try.f156.ntmps Try.f156.results.toList := ⟨Try.f156, by kernel_rfl, by kernel_rfl, by kernel_rfl, by kernel_rfl, rfl, rfl⟩
theorem ok_157 : Ok Try.prog 157 (Try.f157.body.getD .skip) Try.f157.ntmps Try.f157.results.toList := ⟨Try.f157, by kernel_rfl, by kernel_rfl, by kernel_rfl, by kernel_rfl, rfl, rfl⟩
theorem ok_158 : Ok Try.prog 158 (Try.f158.body.getD .skip) Try.f158.ntmps Try.f158.results.toList := ⟨Try.f158, by kernel_rfl, by kernel_rfl, by kernel_rfl, by kernel_rfl, rfl, rfl⟩
theorem ok_159 : Ok Try.prog 159 (Try.f159.body.getD .skip) Try.f159.ntmps Try.f159.results.toList := ⟨Try.f159, by kernel_rfl, by kernel_rfl, by kernel_rfl, by kernel_rfl, rfl, rfl⟩
theorem ok_160 : Ok Try.prog 160 (Try.f160.body.getD .skip) Try.f160.ntmps Try.f160.results.toList := ⟨Try.f160, by kernel_rfl, by kernel_rfl, by kernel_rfl, by kernel_rfl, rfl, rfl⟩
theorem ok_161 : Ok Try.prog 161 (Try.f161.body.getD .skip) Try.f161.ntmps Try.f161.results.toList := ⟨Try.f161, by kernel_rfl, by kernel_rfl, by kernel_rfl, by kernel_rfl, rfl, rfl⟩
theorem ok_162 : Ok Try.prog 162 (Try.f162.body.getD .skip) Try.f162.ntmps Try.f162.results.toList := ⟨Try.f162, by kernel_rfl, by kernel_rfl, by kernel_rfl, by kernel_rfl, rfl, rfl⟩
theorem ok_165 : Ok Try.prog 165 (Try.f165.body.getD .skip) Try.f165.ntmps Try.f165.results.toList := ⟨Try.f165, by kernel_rfl, by kernel_rfl, by kernel_rfl, by kernel_rfl, rfl, rfl⟩
theorem ok_167 : Ok Try.prog 167 (Try.f167.body.getD .skip) Try.f167.ntmps Try.f167.results.toList := ⟨Try.f167, by kernel_rfl, by kernel_rfl, by kernel_rfl, by kernel_rfl, rfl, rfl⟩
theorem ok_168 : Ok Try.prog 168 (Try.f168.body.getD .skip) Try.f168.ntmps Try.f168.results.toList := ⟨Try.f168, by kernel_rfl, by kernel_rfl, by kernel_rfl, by kernel_rfl, rfl, rfl⟩
theorem ok_169 : Ok Try.prog 169 (Try.f169.body.getD .skip) Try.f169.ntmps Try.f169.results.toList := ⟨Try.f169, by kernel_rfl, by kernel_rfl, by kernel_rfl, by kernel_rfl, rfl, rfl⟩
theorem ok_170 : Ok Try.prog 170 (Try.f170.body.getD .skip) Try.f170.ntmps Try.f170.results.toList := ⟨Try.f170, by kernel_rfl, by kernel_rfl, by kernel_rfl, by kernel_rfl, rfl, rfl⟩
theorem ok_171 : Ok Try.prog 171 (Try.f171.body.getD .skip) Try.f171.ntmps Try.f171.results.toList := ⟨Try.f171, by kernel_rfl, by kernel_rfl, by kernel_rfl, by kernel_rfl, rfl, rfl⟩
theorem ok_172 : Ok Try.prog 172 (Try.f172.body.getD .skip) Try.f172.ntmps Try.f172.results.toList := ⟨Try.f172, by kernel_rfl, by kernel_rfl, by kernel_rfl, by kernel_rfl, rfl, rfl⟩
theorem ok_173 : Ok Try.prog 173 (Try.f173.body.getD .skip) Try.f173.ntmps Try.f173.results.toList := ⟨Try.f173, by kernel_rfl, by kernel_rfl, by kernel_rfl, by kernel_rfl, rfl, rfl⟩
theorem ok_174 : Ok Try.prog 174 (Try.f174.body.getD .skip) Try.f174.ntmps Try.f174.results.toList := ⟨Try.f174, by kernel_rfl, by kernel_rfl, by kernel_rfl, by kernel_rfl, rfl, rfl⟩
theorem ok_175 : Ok Try.prog 175 (Try.f175.body.getD .skip) Try.f175.ntmps Try.f175.results.toList := ⟨Try.f175, by kernel_rfl, by kernel_rfl, by kernel_rfl, by kernel_rfl, rfl, rfl⟩
theorem ok_176 : Ok Try.prog 176 (Try.f176.body.getD .skip) Try.f176.ntmps Try.f176.results.toList := ⟨Try.f176, by kernel_rfl, by kernel_rfl, by kernel_rfl, by kernel_rfl, rfl, rfl⟩
theorem ok_177 : Ok Try.prog 177 (Try.f177.body.getD .skip) Try.f177.ntmps Try.f177.results.toList := ⟨Try.f177, by kernel_rfl, by kernel_rfl, by kernel_rfl, by kernel_rfl, rfl, rfl⟩
theorem ok_178 : Ok Try.prog 178 (Try.f178.body.getD .skip) Try.f178.ntmps Try.f178.results.toList := ⟨Try.f178, by kernel_rfl, by kernel_rfl, by kernel_rfl, by kernel_rfl, rfl, rfl⟩
theorem ok_179 : Ok Try.prog 179 (Try.f179.body.getD .skip) Try.f179.ntmps Try.f179.results.toList := ⟨Try.f179, by kernel_rfl, by kernel_rfl, by kernel_rfl, by kernel_rfl, rfl, rfl⟩
theorem ok_181 : Ok Try.prog 181 (Try.f181.body.getD .skip) Try.f181.ntmps Try.f181.results.toList := ⟨Try.f181, by kernel_rfl, by kernel_rfl, by kernel_rfl, by kernel_rfl, rfl, rfl⟩
theorem ok_182 : Ok Try.prog 182 (Try.f182.body.getD .skip) Try.f182.ntmps Try.f182.results.toList := ⟨Try.f182, by kernel_rfl, by kernel_rfl, by kernel_rfl, by kernel_rfl, rfl, rfl⟩
theorem ok_183 : Ok Try.prog 183 (Try.f183.body.getD .skip) Try.f183.ntmps Try.f183.results.toList := ⟨Try.f183, by kernel_rfl, by kernel_rfl, by kernel_rfl, by kernel_rfl, rfl, rfl⟩
end Go.Am
end
