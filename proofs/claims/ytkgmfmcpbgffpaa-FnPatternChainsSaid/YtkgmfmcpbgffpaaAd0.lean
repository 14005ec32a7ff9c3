/- The data. -/
import Derived.Test.YtkgmfmcpbgffpaaAm6
import Derived.Test.YtkgmfmcpbgffpaaProg
section
set_option maxRecDepth 100000
set_option linter.unusedVariables false
set_option linter.unusedSimpArgs false
namespace Go.Am
open Go.Proofs
structure DPattern where
 Kind : Int
 Num : Int
 Text : ByteArray
 Kids : (Sl DPattern)
mutual
def DPattern.cells : DPattern → List T
 | ⟨f0, f1, f2, ⟨z3, l3⟩⟩ => [i4 f0, i4 f1, .str f2, .row z3 l3.length (DPattern.cellsK l3)]
def DPattern.cellsK : List DPattern → List T
 | [] => []
 | p :: l => p.cells ++ DPattern.cellsK l
end
theorem DPattern.len (p : DPattern) : p.cells.length = 4 := by
 obtain ⟨f0, f1, f2, ⟨z3, l3⟩⟩ := p; simp [DPattern.cells]
theorem DPattern.one (p : DPattern) : p.cells.all T.one = true := by
 obtain ⟨f0, f1, f2, ⟨z3, l3⟩⟩ := p; simp [DPattern.cells]
mutual
theorem DPattern.pure : ∀ p : DPattern, pureL p.cells = true
 | ⟨f0, f1, f2, ⟨z3, l3⟩⟩ => by simp [DPattern.cells, pureL, pureT, DPattern.pureK l3]
theorem DPattern.pureK : ∀ l : List DPattern, pureL (DPattern.cellsK l) = true
 | [] => by simp [DPattern.cellsK, pureL]
 | p :: l => by simp [DPattern.cellsK, pureL_append, p.pure, DPattern.pureK l]
end
mutual
theorem DPattern.inj : ∀ p q : DPattern, p.cells = q.cells → p = q
 | ⟨f0, f1, f2, ⟨z3, l3⟩⟩, ⟨f0', f1', f2', ⟨z3', l3'⟩⟩, h => by
  simp only [DPattern.cells, List.cons.injEq, and_true, T.int.injEq, T.str.injEq, T.bool.injEq, T.row.injEq, true_and, Sl.inj_iff] at h
  have hk : l3 = l3' := DPattern.injK l3 l3' (by simp_all) (by simp_all)
  simp_all
theorem DPattern.injK : ∀ l l' : List DPattern, l.length = l'.length → DPattern.cellsK l = DPattern.cellsK l' → l = l'
 | [], [], _, _ => rfl
 | [], _ :: _, h, _ => by simp at h
 | _ :: _, [], h, _ => by simp at h
 | p :: l, p' :: l', h, k => by
  simp only [DPattern.cellsK] at k
  have e := List.append_inj k (by rw [DPattern.len, DPattern.len])
  rw [DPattern.inj p p' e.1, DPattern.injK l l' (by simpa using h) e.2]
end
instance : Enc DPattern := ⟨DPattern.cells, 4, DPattern.len, DPattern.one, DPattern.pure, DPattern.inj⟩
theorem DPattern.cellsK_eq : ∀ l : List DPattern, DPattern.cellsK l = af_ l
 | [] => rfl
 | p :: l => by simp only [DPattern.cellsK, af_, DPattern.cellsK_eq l]; rfl
theorem DPattern.cells_eq (p : DPattern) : p.cells = [i4 p.Kind, i4 p.Num, .str p.Text, p.Kids.t] := by
 obtain ⟨f0, f1, f2, ⟨z3, l3⟩⟩ := p; simp only [DPattern.cells, DPattern.cellsK_eq]; rfl
theorem DPattern.enc_eq (p : DPattern) : Enc.cells p = [i4 p.Kind, i4 p.Num, .str p.Text, p.Kids.t] := DPattern.cells_eq p
instance : Lit DPattern := ⟨fun p => [i4 p.Kind, i4 p.Num, .str p.Text, p.Kids.t], fun p => DPattern.cells_eq p⟩
instance : Hld false DPattern := ⟨fun a σ d => by show frzL (hold false σ d) (DPattern.cells a) = some (DPattern.cells a, []); rw [DPattern.cells_eq]; simp [frzL]⟩
theorem DPattern.inj_agg : ∀ p q : DPattern, T.agg [i4 p.Kind, i4 p.Num, .str p.Text, p.Kids.t] = T.agg [i4 q.Kind, i4 q.Num, .str q.Text, q.Kids.t] → p = q := fun p q h => DPattern.inj p q (by injection h with h; rw [DPattern.cells_eq, DPattern.cells_eq]; exact h)
structure DNamed where
 Name : ByteArray
 Pattern : DPattern
def DNamed.cells (x : DNamed) : List T := [.str x.Name, i4 x.Pattern.Kind, i4 x.Pattern.Num, .str x.Pattern.Text, x.Pattern.Kids.t]
instance : Enc DNamed := ⟨DNamed.cells, 5, fun _ => rfl, fun _ => rfl, fun x => by simp [DNamed.cells, pureL, pureT], fun a b h => by
 rcases a with ⟨_, ⟨_, _, _, _⟩⟩; rcases b with ⟨_, ⟨_, _, _, _⟩⟩; simp [DNamed.cells] at h; simp_all⟩
instance : Lit DNamed := ⟨fun x => [.str x.Name, i4 x.Pattern.Kind, i4 x.Pattern.Num, .str x.Pattern.Text, x.Pattern.Kids.t], fun _ => rfl⟩
instance : Hld false DNamed := ⟨fun a σ d => by show frzL (hold false σ d) (DNamed.cells a) = some (DNamed.cells a, []); simp [DNamed.cells, frzL]⟩
structure aa_ where
 code_ : (Sl (Iv .u8))
 at_ : Int
 seed_ : Int
def aa_.cells (x : aa_) : List T := [x.code_.t, i4 x.at_, .int .u64 x.seed_]
instance : Enc aa_ := ⟨aa_.cells, 3, fun _ => rfl, fun _ => rfl, fun x => by simp [aa_.cells, pureL, pureT], fun a b h => by
 rcases a with ⟨_, _, _⟩; rcases b with ⟨_, _, _⟩; simp [aa_.cells] at h; simp_all⟩
instance : Lit aa_ := ⟨fun x => [x.code_.t, i4 x.at_, .int .u64 x.seed_], fun _ => rfl⟩
instance : Hld false aa_ := ⟨fun a σ d => by show frzL (hold false σ d) (aa_.cells a) = some (aa_.cells a, []); simp [aa_.cells, frzL]⟩
structure DCapture where
 Name : ByteArray
 Text : ByteArray
 Cursor : Int
 Kind : Int
def DCapture.cells (x : DCapture) : List T := [.str x.Name, .str x.Text, i4 x.Cursor, i4 x.Kind]
instance : Enc DCapture := ⟨DCapture.cells, 4, fun _ => rfl, fun _ => rfl, fun x => by simp [DCapture.cells, pureL, pureT], fun a b h => by
 rcases a with ⟨_, _, _, _⟩; rcases b with ⟨_, _, _, _⟩; simp [DCapture.cells] at h; simp_all⟩
instance : Lit DCapture := ⟨fun x => [.str x.Name, .str x.Text, i4 x.Cursor, i4 x.Kind], fun _ => rfl⟩
instance (z : Bool) : Hld z DCapture := ⟨fun a σ d => by show frzL (hold z σ d) (DCapture.cells a) = some (DCapture.cells a, []); simp [DCapture.cells, frzL]⟩
structure DMatch where
 Start : Int
 End : Int
 Captures : (Sl DCapture)
def DMatch.cells (x : DMatch) : List T := [i4 x.Start, i4 x.End, x.Captures.t]
instance : Enc DMatch := ⟨DMatch.cells, 3, fun _ => rfl, fun _ => rfl, fun x => by simp [DMatch.cells, pureL, pureT], fun a b h => by
 rcases a with ⟨_, _, _⟩; rcases b with ⟨_, _, _⟩; simp [DMatch.cells] at h; simp_all⟩
instance : Lit DMatch := ⟨fun x => [i4 x.Start, i4 x.End, x.Captures.t], fun _ => rfl⟩
instance : Hld false DMatch := ⟨fun a σ d => by show frzL (hold false σ d) (DMatch.cells a) = some (DMatch.cells a, []); simp [DMatch.cells, frzL]⟩
structure aH_ where
 env_ : (Sl DNamed)
 subject_ : ByteArray
 fuel_ : Int
 steps_ : Int
 start_ : Int
 now_ : (Sl DCapture)
 conds_ : (Sl DCapture)
 matches_ : (Sl DMatch)
 most_ : Int
 isMere_ : Bool
 counts_ : T
 code_ : Int
def aH_.cells (x : aH_) : List T := [x.env_.t, .str x.subject_, i4 x.fuel_, i4 x.steps_, i4 x.start_, x.now_.t, x.conds_.t, x.matches_.t, i4 x.most_, .bool x.isMere_, x.counts_, i4 x.code_]
structure iE_ where
 addr_ : T
 buf_ : (Sl (Iv .u8))
def iE_.cells (x : iE_) : List T := [x.addr_, x.buf_.t]
structure bx_ where
 p_ : DPattern
 c_ : Int
 next_ : Int
def bx_.cells (x : bx_) : List T := [i4 x.p_.Kind, i4 x.p_.Num, .str x.p_.Text, x.p_.Kids.t, i4 x.c_, i4 x.next_]
instance : Enc bx_ := ⟨bx_.cells, 6, fun _ => rfl, fun _ => rfl, fun x => by simp [bx_.cells, pureL, pureT], fun a b h => by
 rcases a with ⟨⟨_, _, _, _⟩, _, _⟩; rcases b with ⟨⟨_, _, _, _⟩, _, _⟩; simp [bx_.cells] at h; simp_all⟩
instance : Lit bx_ := ⟨fun x => [i4 x.p_.Kind, i4 x.p_.Num, .str x.p_.Text, x.p_.Kids.t, i4 x.c_, i4 x.next_], fun _ => rfl⟩
instance : Hld false bx_ := ⟨fun a σ d => by show frzL (hold false σ d) (bx_.cells a) = some (bx_.cells a, []); simp [bx_.cells, frzL]⟩
structure cu_ where
 env_ : (Sl DNamed)
 s_ : ByteArray
 fuel_ : Int
 mode_ : Int
 steps_ : Int
 conts_ : (Sl bx_)
 out_ : (Sl DMatch)
 now_ : (Sl DCapture)
 conds_ : (Sl DCapture)
 full_ : Bool
 abort_ : Bool
 stop_ : Bool
 code_ : Int
def cu_.cells (x : cu_) : List T := [x.env_.t, .str x.s_, i4 x.fuel_, i4 x.mode_, i4 x.steps_, x.conts_.t, x.out_.t, x.now_.t, x.conds_.t, .bool x.full_, .bool x.abort_, .bool x.stop_, i4 x.code_]
instance : Enc cu_ := ⟨cu_.cells, 13, fun _ => rfl, fun _ => rfl, fun x => by simp [cu_.cells, pureL, pureT], fun a b h => by
 rcases a with ⟨_, _, _, _, _, _, _, _, _, _, _, _, _⟩; rcases b with ⟨_, _, _, _, _, _, _, _, _, _, _, _, _⟩; simp [cu_.cells] at h; simp_all⟩
instance : Lit cu_ := ⟨fun x => [x.env_.t, .str x.s_, i4 x.fuel_, i4 x.mode_, i4 x.steps_, x.conts_.t, x.out_.t, x.now_.t, x.conds_.t, .bool x.full_, .bool x.abort_, .bool x.stop_, i4 x.code_], fun _ => rfl⟩
instance : Hld false cu_ := ⟨fun a σ d => by show frzL (hold false σ d) (cu_.cells a) = some (cu_.cells a, []); simp [cu_.cells, frzL]⟩
structure cy_ where
 ends_ : (Sl (Sl (Iv .i64)))
 steps_ : (Sl (Iv .i64))
def cy_.cells (x : cy_) : List T := [x.ends_.t, x.steps_.t]
instance : Enc cy_ := ⟨cy_.cells, 2, fun _ => rfl, fun _ => rfl, fun x => by simp [cy_.cells, pureL, pureT], fun a b h => by
 rcases a with ⟨_, _⟩; rcases b with ⟨_, _⟩; simp [cy_.cells] at h; simp_all⟩
instance : Lit cy_ := ⟨fun x => [x.ends_.t, x.steps_.t], fun _ => rfl⟩
instance : Hld false cy_ := ⟨fun a σ d => by show frzL (hold false σ d) (cy_.cells a) = some (cy_.cells a, []); simp [cy_.cells, frzL]⟩
def md : Nat → Md := fun f => bif [18, 19, 20, 23, 24, 30, 39, 40, 63, 82, 83, 87, 100, 107, 108, 117, 153].elem f then .own else bif [27, 28, 62, 64, 65, 66, 67, 69, 72, 73, 78, 86, 89, 90, 98, 101, 109, 110, 111, 113, 114, 118, 121, 123, 124, 129, 130, 145, 147, 148, 149, 150, 151, 156, 157, 159, 160, 172, 173, 174, 175, 179, 180, 182, 184, 195].elem f then .raw else .view
def ext : Ext := fun f => bif Nat.beq f 195 then some idxE else none
def bigN : Nat := 100000000000
theorem len0 {hs : List T} (h : hs.length = 0) : hs = [] := List.length_eq_zero_iff.1 h
theorem len1 {hs : List T} (h : hs.length = 1) : ∃ a0, hs = [a0] := by
 rcases hs with _ | ⟨a0, _ | ⟨x, l⟩⟩ <;> simp at h
 exact ⟨a0, rfl⟩
def E_bool : Bool → T := fun y => .bool y
theorem E_bool_inj : ∀ a b, E_bool a = E_bool b → a = b := inj_bool
theorem E_bool_p : ∀ v, pureT (E_bool v) = true := fun v => by simp [pureT, pureL, E_bool]
def E_DPattern : DPattern → T := fun y => .agg [i4 y.Kind, i4 y.Num, .str y.Text, y.Kids.t]
theorem E_DPattern_inj : ∀ a b, E_DPattern a = E_DPattern b → a = b := DPattern.inj_agg
def E_sl_u8 : (Sl (Iv .u8)) → T := fun y => y.t
theorem E_sl_u8_inj : ∀ a b, E_sl_u8 a = E_sl_u8 b → a = b := lR_
def E_i64 : Int → T := fun y => i4 y
theorem E_i64_inj : ∀ a b, E_i64 a = E_i64 b → a = b := kh_
theorem E_i64_p : ∀ v, pureT (E_i64 v) = true := fun v => by simp [pureT, pureL, E_i64]
def E_sl_str : (Sl ByteArray) → T := fun y => y.t
theorem E_sl_str_inj : ∀ a b, E_sl_str a = E_sl_str b → a = b := lR_
def E_t2_DPattern_bool : (DPattern × Bool) → T := fun y => .tup [.agg [i4 y.1.Kind, i4 y.1.Num, .str y.1.Text, y.1.Kids.t], .bool y.2]
theorem E_t2_DPattern_bool_inj : ∀ a b, E_t2_DPattern_bool a = E_t2_DPattern_bool b → a = b := kN_ DPattern.inj_agg inj_bool
def E_str : ByteArray → T := fun y => .str y
noncomputable def Sh_DPattern : dW_ DPattern := ⟨1, fun hs y => match hs with | [h1] => .agg [i4 y.Kind, i4 y.Num, .str y.Text, h1] | _ => .tup [], fun hs y => match hs with | [h1] => [.own true 4 h1 (Sl.t (y.Kids : Sl DPattern))] | _ => [], E_DPattern, fun hs y h => by
 obtain ⟨h1, rfl⟩ := len1 h
 exact (HL.agg (es1 := [.own true 4 h1 (Sl.t (y.Kids : Sl DPattern))]) (es2 := []) (HL.leaf (fun σ d => by simp) (HL.leaf (fun σ d => by simp) (HL.leaf (fun σ d => by simp) (HL.own rfl HL.nil)))) HL.nil), E_DPattern_inj⟩
noncomputable def Sh_sl_str : dW_ (Sl ByteArray) := ⟨1, fun hs y => match hs with | [h1] => h1 | _ => .tup [], fun hs y => match hs with | [h1] => [.own true 1 h1 (Sl.t (y : Sl ByteArray))] | _ => [], E_sl_str, fun hs y h => by
 obtain ⟨h1, rfl⟩ := len1 h
 exact (HL.own rfl HL.nil), E_sl_str_inj⟩
def E_t2_i64_str : (Int × ByteArray) → T := fun y => .tup [i4 y.1, .str y.2]
theorem E_t2_i64_str_inj : ∀ a b, E_t2_i64_str a = E_t2_i64_str b → a = b := kN_ kh_ inj_str
theorem E_t2_i64_str_p : ∀ v, pureT (E_t2_i64_str v) = true := fun v => by simp [pureT, pureL, E_t2_i64_str]
def E_t2_str_str : (ByteArray × ByteArray) → T := fun y => .tup [.str y.1, .str y.2]
theorem E_t2_str_str_inj : ∀ a b, E_t2_str_str a = E_t2_str_str b → a = b := kN_ inj_str inj_str
theorem E_t2_str_str_p : ∀ v, pureT (E_t2_str_str v) = true := fun v => by simp [pureT, pureL, E_t2_str_str]
noncomputable def Sh_t2_DPattern_bool : dW_ (DPattern × Bool) := ⟨1, fun hs y => match hs with | [h1] => .tup [.agg [i4 y.1.Kind, i4 y.1.Num, .str y.1.Text, h1], .bool y.2] | _ => .tup [], fun hs y => match hs with | [h1] => [.own true 4 h1 (Sl.t (y.1.Kids : Sl DPattern))] | _ => [], E_t2_DPattern_bool, fun hs y h => by
 obtain ⟨h1, rfl⟩ := len1 h
 exact (HL.tup (es1 := [.own true 4 h1 (Sl.t (y.1.Kids : Sl DPattern))]) (es2 := []) (HL.agg (es1 := [.own true 4 h1 (Sl.t (y.1.Kids : Sl DPattern))]) (es2 := []) (HL.leaf (fun σ d => by simp) (HL.leaf (fun σ d => by simp) (HL.leaf (fun σ d => by simp) (HL.own rfl HL.nil)))) (HL.leaf (fun σ d => by simp) HL.nil)) HL.nil), E_t2_DPattern_bool_inj⟩
noncomputable def bS_ (a0 : (Sl (Iv .u8))) : Option Bool := semV Try.prog md ext E_bool 3 [(a0.t)]
noncomputable def bE_ (a0 : (Sl (Iv .u8))) : Option DPattern := semV Try.prog md ext E_DPattern 15 [(a0.t)]
noncomputable def cP_ (a0 : Int) (a1 : (Sl (Iv .u8))) : Option (Sl (Iv .u8)) := semV Try.prog md ext E_sl_u8 16 [(i4 a0), (a1.t)]
noncomputable def aB_ (a0 : DPattern) : Option Int := semV Try.prog md ext E_i64 17 [(.agg [i4 a0.Kind, i4 a0.Num, .str a0.Text, a0.Kids.t])]
noncomputable def ax_ (a0 : DPattern) : Option (Sl ByteArray) := semO Try.prog md ext Sh_sl_str 18 [(.agg [i4 a0.Kind, i4 a0.Num, .str a0.Text, a0.Kids.t])]
noncomputable def b8_ (a0 : (Sl DPattern)) : Option (DPattern × Bool) := semO Try.prog md ext Sh_t2_DPattern_bool 19 [(a0.t)]
noncomputable def dS_ (a0 : (Sl DPattern)) : Option (DPattern × Bool) := semO Try.prog md ext Sh_t2_DPattern_bool 20 [(a0.t)]
noncomputable def bg_ (a0 : DPattern) (a1 : DPattern) : Option Bool := semV Try.prog md ext E_bool 21 [(.agg [i4 a0.Kind, i4 a0.Num, .str a0.Text, a0.Kids.t]), (.agg [i4 a1.Kind, i4 a1.Num, .str a1.Text, a1.Kids.t])]
noncomputable def ay_ (a0 : DPattern) : Option Bool := semV Try.prog md ext E_bool 53 [(.agg [i4 a0.Kind, i4 a0.Num, .str a0.Text, a0.Kids.t])]
noncomputable def be_ (a0 : DPattern) : Option DPattern := semO Try.prog md ext Sh_DPattern 63 [(.agg [i4 a0.Kind, i4 a0.Num, .str a0.Text, a0.Kids.t])]
noncomputable def aW_ (a0 : (Sl DPattern)) (a1 : (Sl DPattern)) (a2 : T) : Option Bool := semV Try.prog md ext E_bool 68 [(a0.t), (a1.t), (a2)]
noncomputable def b2_ (a0 : ByteArray) : Option Bool := semV Try.prog md ext E_bool 76 [(.str a0)]
noncomputable def am_ (a0 : DPattern) (a1 : Int) : Option Int := semV Try.prog md ext E_i64 99 [(.agg [i4 a0.Kind, i4 a0.Num, .str a0.Text, a0.Kids.t]), (i4 a1)]
noncomputable def ba_ (a0 : Int) (a1 : Int) (a2 : Int) : Option Bool := semV Try.prog md ext E_bool 103 [(i4 a0), (i4 a1), (i4 a2)]
noncomputable def as_ (a0 : DPattern) : Option DPattern := semO Try.prog md ext Sh_DPattern 108 [(.agg [i4 a0.Kind, i4 a0.Num, .str a0.Text, a0.Kids.t])]
noncomputable def bu_ (a0 : Int) : Option (Int × ByteArray) := semV Try.prog md ext E_t2_i64_str 112 [(i4 a0)]
noncomputable def aK_ (a0 : (Sl ByteArray)) (a1 : ByteArray) : Option Bool := semV Try.prog md ext E_bool 115 [(a0.t), (.str a1)]
noncomputable def aI_ (a0 : (Sl DPattern)) (a1 : T) : Option Bool := semV Try.prog md ext E_bool 116 [(a0.t), (a1)]
noncomputable def ak_ (a0 : DPattern) : Option DPattern := semO Try.prog md ext Sh_DPattern 117 [(.agg [i4 a0.Kind, i4 a0.Num, .str a0.Text, a0.Kids.t])]
noncomputable def b0_ (a0 : Int) (a1 : Int) (a2 : ByteArray) : Option Bool := semV Try.prog md ext E_bool 134 [(i4 a0), (i4 a1), (.str a2)]
noncomputable def dl_ (a0 : Int) : Option Int := semV Try.prog md ext E_i64 135 [(i4 a0)]
noncomputable def ee_ (a0 : Int) : Option (ByteArray × ByteArray) := semV Try.prog md ext E_t2_str_str 137 [(i4 a0)]
noncomputable def bq_ (a0 : (Sl ByteArray)) (a1 : ByteArray) : Option Int := semV Try.prog md ext E_i64 138 [(a0.t), (.str a1)]
noncomputable def dw_ (a0 : ByteArray) : Option Bool := semV Try.prog md ext E_bool 143 [(.str a0)]
noncomputable def dp_ (a0 : Int) : Option Bool := semV Try.prog md ext E_bool 163 [(i4 a0)]
noncomputable def cd_ (a0 : Int) : Option Bool := semV Try.prog md ext E_bool 164 [(i4 a0)]
noncomputable def cS_ (a0 : Int) : Option Bool := semV Try.prog md ext E_bool 165 [(i4 a0)]
noncomputable def br_ (a0 : Int) : Option Bool := semV Try.prog md ext E_bool 166 [(i4 a0)]
noncomputable def bF_ (a0 : Int) : Option Bool := semV Try.prog md ext E_bool 169 [(.int .u8 a0)]
noncomputable def cF_ (a0 : (Sl (Iv .u8))) (a1 : T) : Option Bool := semV Try.prog md ext E_bool 170 [(a0.t), (a1)]
noncomputable def bY_ (a0 : Int) : Option Bool := semV Try.prog md ext E_bool 171 [(.int .u8 a0)]
noncomputable def cV_ (a0 : Int) : Option Bool := semV Try.prog md ext E_bool 189 [(.int .u8 a0)]
theorem ext_x : XOk ext := by
 intro f g h1
 unfold ext at h1
 cases h195 : Nat.beq f 195 with
 | true => rw [h195] at h1; have h1 : some idxE = some g := h1; injection h1 with h1; subst h1; exact qt_
 | false =>
 rw [h195] at h1
 simp only [cond_false] at h1
 cases h1
theorem ext_ok : ∀ f g args σ r σ', ext f = some g → g args σ = some (r, σ') → ej_ Try.prog f args σ r σ' := by
 intro f g args σ r σ' h1 h2
 unfold ext at h1
 cases h195 : Nat.beq f 195 with
 | true => have e := Nat.eq_of_beq_eq_true h195; rw [h195] at h1; have h1 : some idxE = some g := h1; injection h1 with h1; subst h1; subst e; exact oF_ (fn := Try.f195) (by kernel_rfl) (by kernel_rfl) (by kernel_rfl) (by kernel_rfl) (by rfl) args σ r σ' h2
 | false =>
 rw [h195] at h1
 simp only [cond_false] at h1
 cases h1
theorem ok_3 : Ok Try.prog 3 (Try.f3.body.getD .skip) Try.f3.ntmps Try.f3.results.toList := ⟨Try.f3, by kernel_rfl, by kernel_rfl, by kernel_rfl, by kernel_rfl, rfl, rfl⟩
theorem ok_15 : Ok Try.prog 15 (Try.f15.body.getD .skip) Try.f15.ntmps Try.f15.results.toList := ⟨Try.f15, by kernel_rfl, by kernel_rfl, by kernel_rfl, by kernel_rfl, rfl, rfl⟩
theorem ok_16 : Ok Try.prog 16 (Try.f16.body.getD .skip) Try.f16.ntmps Try.f16.results.toList := ⟨Try.f16, by kernel_rfl, by kernel_rfl, by kernel_rfl, by kernel_rfl, rfl, rfl⟩
theorem ok_17 : Ok Try.prog 17 (Try.f17.body.getD .skip) Try.f17.ntmps Try.f17.results.toList := ⟨Try.f17, by kernel_rfl, by kernel_rfl, by kernel_rfl, by kernel_rfl, rfl, rfl⟩
theorem ok_18 : Ok Try.prog 18 (Try.f18.body.getD .skip) Try.f18.ntmps Try.f18.results.toList := ⟨Try.f18, by kernel_rfl, by kernel_rfl, by kernel_rfl, by kernel_rfl, rfl, rfl⟩
theorem ok_19 : Ok Try.prog 19 (Try.f19.body.getD .skip) Try.f19.ntmps Try.f19.results.toList := ⟨Try.f19, by kernel_rfl, by kernel_rfl, by kernel_rfl, by kernel_rfl, rfl, rfl⟩
theorem ok_20 : Ok Try.prog 20 (Try.f20.body.getD .skip) Try.f20.ntmps Try.f20.results.toList := ⟨Try.f20, by kernel_rfl, by kernel_rfl, by kernel_rfl, by kernel_rfl, rfl, rfl⟩
theorem ok_21 : Ok Try.prog 21 (Try.f21.body.getD .skip) Try.f21.ntmps Try.f21.results.toList := ⟨Try.f21, by kernel_rfl, by kernel_rfl, by kernel_rfl, by kernel_rfl, rfl, rfl⟩
theorem ok_53 : Ok Try.prog 53 (Try.f53.body.getD .skip) Try.f53.ntmps Try.f53.results.toList := ⟨Try.f53, by kernel_rfl, by kernel_rfl, by kernel_rfl, by kernel_rfl, rfl, rfl⟩
theorem ok_62 : Ok Try.prog 62 (Try.f62.body.getD .skip) Try.f62.ntmps Try.f62.results.toList := ⟨Try.f62, by kernel_rfl, by kernel_rfl, by kernel_rfl, by kernel_rfl, rfl, rfl⟩
theorem ok_63 : Ok Try.prog 63 (Try.f63.body.getD .skip) Try.f63.ntmps Try.f63.results.toList := ⟨Try.f63, by kernel_rfl, by kernel_rfl, by kernel_rfl, by kernel_rfl, rfl, rfl⟩
theorem ok_64 : Ok Try.prog 64 (Try.f64.body.getD .skip) Try.f64.ntmps Try.f64.results.toList := ⟨Try.f64, by kernel_rfl, by kernel_rfl, by kernel_rfl, by kernel_rfl, rfl, rfl⟩
theorem ok_65 : Ok Try.prog 65 (Try.f65.body.getD .skip) Try.f65.ntmps Try.f65.results.toList := ⟨Try.f65, by kernel_rfl, by kernel_rfl, by kernel_rfl, by kernel_rfl, rfl, rfl⟩
theorem ok_66 : Ok Try.prog 66 (Try.f66.body.getD .skip) Try.f66.ntmps Try.f66.results.toList := ⟨Try.f66, by kernel_rfl, by kernel_rfl, by kernel_rfl, by kernel_rfl, rfl, rfl⟩
theorem ok_67 : Ok Try.prog 67 (Try.f67.body.getD .skip) Try.f67.ntmps Try.f67.results.toList := ⟨Try.f67, by kernel_rfl, by kernel_rfl, by kernel_rfl, by kernel_rfl, rfl, rfl⟩
theorem ok_68 : Ok Try.prog 68 (Try.f68.body.getD .skip) Try.f68.ntmps Try.f68.results.toList := ⟨Try.f68, by kernel_rfl, by kernel_rfl, by kernel_rfl, by kernel_rfl, rfl, rfl⟩
theorem ok_73 : Ok Try.prog 73 (Try.f73.body.getD .skip) Try.f73.ntmps Try.f73.results.toList := ⟨Try.f73, by kernel_rfl, by kernel_rfl, by kernel_rfl, by kernel_rfl, rfl, rfl⟩
theorem ok_76 : Ok Try.prog 76 (Try.f76.body.getD .skip) Try.f76.ntmps Try.f76.results.toList := ⟨Try.f76, by kernel_rfl, by kernel_rfl, by kernel_rfl, by kernel_rfl, rfl, rfl⟩
theorem ok_99 : Ok Try.prog 99 (Try.f99.body.getD .skip) Try.f99.ntmps Try.f99.results.toList := ⟨Try.f99, by kernel_rfl, by kernel_rfl, by kernel_rfl, by kernel_rfl, rfl, rfl⟩
theorem ok_103 : Ok Try.prog 103 (Try.f103.body.getD .skip) Try.f103.ntmps Try.f103.results.toList := ⟨Try.f103, by kernel_rfl, by kernel_rfl, by kernel_rfl, by kernel_rfl, rfl, rfl⟩
theorem ok_108 : Ok Try.prog 108 (Try.f108.body.getD .skip) Try.f108.ntmps Try.f108.results.toList := ⟨Try.f108, by kernel_rfl, by kernel_rfl, by kernel_rfl, by kernel_rfl, rfl, rfl⟩
theorem ok_109 : Ok Try.prog 109 (Try.f109.body.getD .skip) Try.f109.ntmps Try.f109.results.toList := ⟨Try.f109, by kernel_rfl, by kernel_rfl, by kernel_rfl, by kernel_rfl, rfl, rfl⟩
theorem ok_110 : Ok Try.prog 110 (Try.f110.body.getD .skip) Try.f110.ntmps Try.f110.results.toList := ⟨Try.f110, by kernel_rfl, by kernel_rfl, by kernel_rfl, by kernel_rfl, rfl, rfl⟩
theorem ok_111 : Ok Try.prog 111 (Try.f111.body.getD .skip) Try.f111.ntmps Try.f111.results.toList := ⟨Try.f111, by kernel_rfl, by kernel_rfl, by kernel_rfl, by kernel_rfl, rfl, rfl⟩
theorem ok_112 : Ok Try.prog 112 (Try.f112.body.getD .skip) Try.f112.ntmps Try.f112.results.toList := ⟨Try.f112, by kernel_rfl, by kernel_rfl, by kernel_rfl, by kernel_rfl, rfl, rfl⟩
theorem ok_113 : Ok Try.prog 113 (Try.f113.body.getD .skip) Try.f113.ntmps Try.f113.results.toList := ⟨Try.f113, by kernel_rfl, by kernel_rfl, by kernel_rfl, by kernel_rfl, rfl, rfl⟩
theorem ok_114 : Ok Try.prog 114 (Try.f114.body.getD .skip) Try.f114.ntmps Try.f114.results.toList := ⟨Try.f114, by kernel_rfl, by kernel_rfl, by kernel_rfl, by kernel_rfl, rfl, rfl⟩
theorem ok_115 : Ok Try.prog 115 (Try.f115.body.getD .skip) Try.f115.ntmps Try.f115.results.toList := ⟨Try.f115, by kernel_rfl, by kernel_rfl, by kernel_rfl, by kernel_rfl, rfl, rfl⟩
theorem ok_116 : Ok Try.prog 116 (Try.f116.body.getD .skip) Try.f116.ntmps Try.f116.results.toList := ⟨Try.f116, by kernel_rfl, by kernel_rfl, by kernel_rfl, by kernel_rfl, rfl, rfl⟩
theorem ok_117 : Ok Try.prog 117 (Try.f117.body.getD .skip) Try.f117.ntmps Try.f117.results.toList := ⟨Try.f117, by kernel_rfl, by kernel_rfl, by kernel_rfl, by kernel_rfl, rfl, rfl⟩
theorem ok_118 : Ok Try.prog 118 (Try.f118.body.getD .skip) Try.f118.ntmps Try.f118.results.toList := ⟨Try.f118, by kernel_rfl, by kernel_rfl, by kernel_rfl, by kernel_rfl, rfl, rfl⟩
theorem ok_121 : Ok Try.prog 121 (Try.f121.body.getD .skip) Try.f121.ntmps Try.f121.results.toList := ⟨Try.f121, by kernel_rfl, by kernel_rfl, by kernel_rfl, by kernel_rfl, rfl, rfl⟩
theorem ok_134 : Ok Try.prog 134 (Try.f134.body.getD .skip) Try.f134.ntmps Try.f134.results.toList := ⟨Try.f134, by kernel_rfl, by kernel_rfl, by kernel_rfl, by kernel_rfl, rfl, rfl⟩
theorem ok_135 : Ok Try.prog 135 (Try.f135.body.getD .skip) Try.f135.ntmps Try.f135.results.toList := ⟨Try.f135, by kernel_rfl, by kernel_rfl, by kernel_rfl, by kernel_rfl, rfl, rfl⟩
theorem ok_137 : Ok Try.prog 137 (Try.f137.body.getD .skip) Try.f137.ntmps Try.f137.results.toList := ⟨Try.f137, by kernel_rfl, by kernel_rfl, by kernel_rfl, by kernel_rfl, rfl, rfl⟩
theorem ok_138 : Ok Try.prog 138 (Try.f138.body.getD .skip) Try.f138.ntmps Try.f138.results.toList := ⟨Try.f138, by kernel_rfl, by kernel_rfl, by kernel_rfl, by kernel_rfl, rfl, rfl⟩
theorem ok_139 : Ok Try.prog 139 (Try.f139.body.getD .skip) Try.f139.ntmps Try.f139.results.toList := ⟨Try.f139, by kernel_rfl, by kernel_rfl, by kernel_rfl, by kernel_rfl, rfl, rfl⟩
theorem ok_143 : Ok Try.prog 143 (Try.f143.body.getD .skip) Try.f143.ntmps Try.f143.results.toList := ⟨Try.f143, by kernel_rfl, by kernel_rfl, by kernel_rfl, by kernel_rfl, rfl, rfl⟩
theorem ok_163 : Ok Try.prog 163 (Try.f163.body.getD .skip) Try.f163.ntmps Try.f163.results.toList := ⟨Try.f163, by kernel_rfl, by kernel_rfl, by kernel_rfl, by kernel_rfl, rfl, rfl⟩
theorem ok_164 : Ok Try.prog 164 (Try.f164.body.getD .skip) Try.f164.ntmps Try.f164.results.toList := ⟨Try.f164, by kernel_rfl, by kernel_rfl, by kernel_rfl, by kernel_rfl, rfl, rfl⟩
theorem ok_165 : Ok Try.prog 165 (Try.f165.body.getD .skip) Try.f165.ntmps Try.f165.results.toList := ⟨Try.f165, by kernel_rfl, by kernel_rfl, by kernel_rfl, by kernel_rfl, rfl, rfl⟩
theorem ok_166 : Ok Try.prog 166 (Try.f166.body.getD .skip) Try.f166.ntmps Try.f166.results.toList := ⟨Try.f166, by kernel_rfl, by kernel_rfl, by kernel_rfl, by kernel_rfl, rfl, rfl⟩
theorem ok_169 : Ok Try.prog 169 (Try.f169.body.getD .skip) Try.f169.ntmps Try.f169.results.toList := ⟨Try.f169, by kernel_rfl, by kernel_rfl, by kernel_rfl, by kernel_rfl, rfl, rfl⟩
theorem ok_170 : Ok Try.prog 170 (Try.f170.body.getD .skip) Try.f170.ntmps Try.f170.results.toList := ⟨Try.f170, by kernel_rfl, by kernel_rfl, by kernel_rfl, by kernel_rfl, rfl, rfl⟩
theorem ok_171 : Ok Try.prog 171 (Try.f171.body.getD .skip) Try.f171.ntmps Try.f171.results.toList := ⟨Try.f171, by kernel_rfl, by kernel_rfl, by kernel_rfl, by kernel_rfl, rfl, rfl⟩
theorem ok_189 : Ok Try.prog 189 (Try.f189.body.getD .skip) Try.f189.ntmps Try.f189.results.toList := ⟨Try.f189, by kernel_rfl, by kernel_rfl, by kernel_rfl, by kernel_rfl, rfl, rfl⟩
theorem back_139 : pi_ Try.prog 139 23 25 4 := ⟨⟨_, _, _, ok_139, rfl, Nat.le_of_ble_eq_true (by kernel_rfl), ⟨⟨_, rfl⟩, ⟨_, rfl⟩, rfl, ⟨_, _, rfl⟩, rfl, ⟨_, rfl⟩⟩⟩, by kernel_rfl, by kernel_rfl, by kernel_rfl, by kernel_rfl, by kernel_rfl⟩
end Go.Am
end
