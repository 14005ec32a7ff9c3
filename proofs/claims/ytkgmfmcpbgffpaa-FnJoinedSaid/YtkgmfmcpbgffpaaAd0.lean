/- The data. -/
import Derived.Test.YtkgmfmcpbgffpaaAm6
import Derived.Test.YtkgmfmcpbgffpaaProg
section
set_option maxRecDepth 100000
set_option linter.unusedVariables false
set_option linter.unusedSimpArgs false
namespace Go.Am
open Go.Proofs
structure DPattern where
 Kind : Int
 Num : Int
 Text : ByteArray
 Kids : (Sl DPattern)
mutual
def DPattern.cells : DPattern → List T
 | ⟨f0, f1, f2, ⟨z3, l3⟩⟩ => [i4 f0, i4 f1, .str f2, .row z3 l3.length (DPattern.cellsK l3)]
def DPattern.cellsK : List DPattern → List T
 | [] => []
 | p :: l => p.cells ++ DPattern.cellsK l
end
theorem DPattern.len (p : DPattern) : p.cells.length = 4 := by
 obtain ⟨f0, f1, f2, ⟨z3, l3⟩⟩ := p; simp [DPattern.cells]
theorem DPattern.one (p : DPattern) : p.cells.all T.one = true := by
 obtain ⟨f0, f1, f2, ⟨z3, l3⟩⟩ := p; simp [DPattern.cells]
mutual
theorem DPattern.pure : ∀ p : DPattern, pureL p.cells = true
 | ⟨f0, f1, f2, ⟨z3, l3⟩⟩ => by simp [DPattern.cells, pureL, pureT, DPattern.pureK l3]
theorem DPattern.pureK : ∀ l : List DPattern, pureL (DPattern.cellsK l) = true
 | [] => by simp [DPattern.cellsK, pureL]
 | p :: l => by simp [DPattern.cellsK, pureL_append, p.pure, DPattern.pureK l]
end
mutual
theorem DPattern.inj : ∀ p q : DPattern, p.cells = q.cells → p = q
 | ⟨f0, f1, f2, ⟨z3, l3⟩⟩, ⟨f0', f1', f2', ⟨z3', l3'⟩⟩, h => by
  simp only [DPattern.cells, List.cons.injEq, and_true, T.int.injEq, T.str.injEq, T.bool.injEq, T.row.injEq, true_and, Sl.inj_iff] at h
  have hk : l3 = l3' := DPattern.injK l3 l3' (by simp_all) (by simp_all)
  simp_all
theorem DPattern.injK : ∀ l l' : List DPattern, l.length = l'.length → DPattern.cellsK l = DPattern.cellsK l' → l = l'
 | [], [], _, _ => rfl
 | [], _ :: _, h, _ => by simp at h
 | _ :: _, [], h, _ => by simp at h
 | p :: l, p' :: l', h, k => by
  simp only [DPattern.cellsK] at k
  have e := List.append_inj k (by rw [DPattern.len, DPattern.len])
  rw [DPattern.inj p p' e.1, DPattern.injK l l' (by simpa using h) e.2]
end
instance : Enc DPattern := ⟨DPattern.cells, 4, DPattern.len, DPattern.one, DPattern.pure, DPattern.inj⟩
theorem DPattern.cellsK_eq : ∀ l : List DPattern, DPattern.cellsK l = ah_ l
 | [] => rfl
 | p :: l => by simp only [DPattern.cellsK, ah_, DPattern.cellsK_eq l]; rfl
theorem DPattern.cells_eq (p : DPattern) : p.cells = [i4 p.Kind, i4 p.Num, .str p.Text, p.Kids.t] := by
 obtain ⟨f0, f1, f2, ⟨z3, l3⟩⟩ := p; simp only [DPattern.cells, DPattern.cellsK_eq]; rfl
theorem DPattern.enc_eq (p : DPattern) : Enc.cells p = [i4 p.Kind, i4 p.Num, .str p.Text, p.Kids.t] := DPattern.cells_eq p
instance : Lit DPattern := ⟨fun p => [i4 p.Kind, i4 p.Num, .str p.Text, p.Kids.t], fun p => DPattern.cells_eq p⟩
instance : Hld false DPattern := ⟨fun a σ d => by show frzL (hold false σ d) (DPattern.cells a) = some (DPattern.cells a, []); rw [DPattern.cells_eq]; simp [frzL]⟩
theorem DPattern.inj_agg : ∀ p q : DPattern, T.agg [i4 p.Kind, i4 p.Num, .str p.Text, p.Kids.t] = T.agg [i4 q.Kind, i4 q.Num, .str q.Text, q.Kids.t] → p = q := fun p q h => DPattern.inj p q (by injection h with h; rw [DPattern.cells_eq, DPattern.cells_eq]; exact h)
structure DNamed where
 Name : ByteArray
 Pattern : DPattern
def DNamed.cells (x : DNamed) : List T := [.str x.Name, i4 x.Pattern.Kind, i4 x.Pattern.Num, .str x.Pattern.Text, x.Pattern.Kids.t]
instance : Enc DNamed := ⟨DNamed.cells, 5, fun _ => rfl, fun _ => rfl, fun x => by simp [DNamed.cells, pureL, pureT], fun a b h => by
 rcases a with ⟨_, ⟨_, _, _, _⟩⟩; rcases b with ⟨_, ⟨_, _, _, _⟩⟩; simp [DNamed.cells] at h; simp_all⟩
instance : Lit DNamed := ⟨fun x => [.str x.Name, i4 x.Pattern.Kind, i4 x.Pattern.Num, .str x.Pattern.Text, x.Pattern.Kids.t], fun _ => rfl⟩
instance : Hld false DNamed := ⟨fun a σ d => by show frzL (hold false σ d) (DNamed.cells a) = some (DNamed.cells a, []); simp [DNamed.cells, frzL]⟩
structure ae_ where
 code_ : (Sl (Iv .u8))
 at_ : Int
 seed_ : Int
def ae_.cells (x : ae_) : List T := [x.code_.t, i4 x.at_, .int .u64 x.seed_]
instance : Enc ae_ := ⟨ae_.cells, 3, fun _ => rfl, fun _ => rfl, fun x => by simp [ae_.cells, pureL, pureT], fun a b h => by
 rcases a with ⟨_, _, _⟩; rcases b with ⟨_, _, _⟩; simp [ae_.cells] at h; simp_all⟩
instance : Lit ae_ := ⟨fun x => [x.code_.t, i4 x.at_, .int .u64 x.seed_], fun _ => rfl⟩
instance : Hld false ae_ := ⟨fun a σ d => by show frzL (hold false σ d) (ae_.cells a) = some (ae_.cells a, []); simp [ae_.cells, frzL]⟩
structure DCapture where
 Name : ByteArray
 Text : ByteArray
 Cursor : Int
 Kind : Int
def DCapture.cells (x : DCapture) : List T := [.str x.Name, .str x.Text, i4 x.Cursor, i4 x.Kind]
instance : Enc DCapture := ⟨DCapture.cells, 4, fun _ => rfl, fun _ => rfl, fun x => by simp [DCapture.cells, pureL, pureT], fun a b h => by
 rcases a with ⟨_, _, _, _⟩; rcases b with ⟨_, _, _, _⟩; simp [DCapture.cells] at h; simp_all⟩
instance : Lit DCapture := ⟨fun x => [.str x.Name, .str x.Text, i4 x.Cursor, i4 x.Kind], fun _ => rfl⟩
instance (z : Bool) : Hld z DCapture := ⟨fun a σ d => by show frzL (hold z σ d) (DCapture.cells a) = some (DCapture.cells a, []); simp [DCapture.cells, frzL]⟩
structure DMatch where
 Start : Int
 End : Int
 Captures : (Sl DCapture)
def DMatch.cells (x : DMatch) : List T := [i4 x.Start, i4 x.End, x.Captures.t]
instance : Enc DMatch := ⟨DMatch.cells, 3, fun _ => rfl, fun _ => rfl, fun x => by simp [DMatch.cells, pureL, pureT], fun a b h => by
 rcases a with ⟨_, _, _⟩; rcases b with ⟨_, _, _⟩; simp [DMatch.cells] at h; simp_all⟩
instance : Lit DMatch := ⟨fun x => [i4 x.Start, i4 x.End, x.Captures.t], fun _ => rfl⟩
instance : Hld false DMatch := ⟨fun a σ d => by show frzL (hold false σ d) (DMatch.cells a) = some (DMatch.cells a, []); simp [DMatch.cells, frzL]⟩
structure aa_ where
 env_ : (Sl DNamed)
 subject_ : ByteArray
 fuel_ : Int
 steps_ : Int
 start_ : Int
 now_ : (Sl DCapture)
 conds_ : (Sl DCapture)
 matches_ : (Sl DMatch)
 most_ : Int
 isMere_ : Bool
 counts_ : T
 code_ : Int
structure h7_ where
 addr_ : T
 buf_ : (Sl (Iv .u8))
def h7_.cells (x : h7_) : List T := [x.addr_, x.buf_.t]
structure b7_ where
 p_ : DPattern
 c_ : Int
 next_ : Int
def b7_.cells (x : b7_) : List T := [i4 x.p_.Kind, i4 x.p_.Num, .str x.p_.Text, x.p_.Kids.t, i4 x.c_, i4 x.next_]
instance : Enc b7_ := ⟨b7_.cells, 6, fun _ => rfl, fun _ => rfl, fun x => by simp [b7_.cells, pureL, pureT], fun a b h => by
 rcases a with ⟨⟨_, _, _, _⟩, _, _⟩; rcases b with ⟨⟨_, _, _, _⟩, _, _⟩; simp [b7_.cells] at h; simp_all⟩
instance : Lit b7_ := ⟨fun x => [i4 x.p_.Kind, i4 x.p_.Num, .str x.p_.Text, x.p_.Kids.t, i4 x.c_, i4 x.next_], fun _ => rfl⟩
instance : Hld false b7_ := ⟨fun a σ d => by show frzL (hold false σ d) (b7_.cells a) = some (b7_.cells a, []); simp [b7_.cells, frzL]⟩
structure dY_ where
 env_ : (Sl DNamed)
 s_ : ByteArray
 fuel_ : Int
 mode_ : Int
 steps_ : Int
 conts_ : (Sl b7_)
 out_ : (Sl DMatch)
 now_ : (Sl DCapture)
 conds_ : (Sl DCapture)
 full_ : Bool
 abort_ : Bool
 stop_ : Bool
 code_ : Int
def dY_.cells (x : dY_) : List T := [x.env_.t, .str x.s_, i4 x.fuel_, i4 x.mode_, i4 x.steps_, x.conts_.t, x.out_.t, x.now_.t, x.conds_.t, .bool x.full_, .bool x.abort_, .bool x.stop_, i4 x.code_]
instance : Enc dY_ := ⟨dY_.cells, 13, fun _ => rfl, fun _ => rfl, fun x => by simp [dY_.cells, pureL, pureT], fun a b h => by
 rcases a with ⟨_, _, _, _, _, _, _, _, _, _, _, _, _⟩; rcases b with ⟨_, _, _, _, _, _, _, _, _, _, _, _, _⟩; simp [dY_.cells] at h; simp_all⟩
instance : Lit dY_ := ⟨fun x => [x.env_.t, .str x.s_, i4 x.fuel_, i4 x.mode_, i4 x.steps_, x.conts_.t, x.out_.t, x.now_.t, x.conds_.t, .bool x.full_, .bool x.abort_, .bool x.stop_, i4 x.code_], fun _ => rfl⟩
instance : Hld false dY_ := ⟨fun a σ d => by show frzL (hold false σ d) (dY_.cells a) = some (dY_.cells a, []); simp [dY_.cells, frzL]⟩
structure et_ where
 ends_ : (Sl (Sl (Iv .i64)))
 steps_ : (Sl (Iv .i64))
def et_.cells (x : et_) : List T := [x.ends_.t, x.steps_.t]
instance : Enc et_ := ⟨et_.cells, 2, fun _ => rfl, fun _ => rfl, fun x => by simp [et_.cells, pureL, pureT], fun a b h => by
 rcases a with ⟨_, _⟩; rcases b with ⟨_, _⟩; simp [et_.cells] at h; simp_all⟩
instance : Lit et_ := ⟨fun x => [x.ends_.t, x.steps_.t], fun _ => rfl⟩
instance : Hld false et_ := ⟨fun a σ d => by show frzL (hold false σ d) (et_.cells a) = some (et_.cells a, []); simp [et_.cells, frzL]⟩
def md : Nat → Md := fun f => bif [18, 19, 20, 23, 24, 30, 39, 40, 63, 82, 83, 87, 100, 107, 108, 117, 153].elem f then .own else bif [27, 28, 62, 64, 65, 66, 67, 69, 72, 73, 78, 86, 89, 90, 98, 101, 109, 110, 111, 113, 114, 118, 121, 123, 124, 129, 130, 145, 147, 148, 149, 150, 151, 156, 157, 159, 160, 172, 173, 174, 175, 179, 180, 182, 184, 195].elem f then .raw else .view
def ext : Ext := fun f => bif Nat.beq f 195 then some idxE else none
def bigN : Nat := 100000000000
theorem len0 {hs : List T} (h : hs.length = 0) : hs = [] := List.length_eq_zero_iff.1 h
theorem len1 {hs : List T} (h : hs.length = 1) : ∃ a0, hs = [a0] := by
 rcases hs with _ | ⟨a0, _ | ⟨x, l⟩⟩ <;> simp at h
 exact ⟨a0, rfl⟩
theorem len3 {hs : List T} (h : hs.length = 3) : ∃ a0 a1 a2, hs = [a0, a1, a2] := by
 rcases hs with _ | ⟨a0, _ | ⟨a1, _ | ⟨a2, _ | ⟨x, l⟩⟩⟩⟩ <;> simp at h
 exact ⟨a0, a1, a2, rfl⟩
def aY_ (b : Nat) (mq : T) (x : aa_) (hs : List T) : List Ent := match hs with | [h1, h2, h3] => [.box b [x.env_.t, .str x.subject_, i4 x.fuel_, i4 x.steps_, i4 x.start_, h1, h2, h3, i4 x.most_, .bool x.isMere_, mq, i4 x.code_], .flt 4 h1 x.now_.t, .flt 4 h2 x.conds_.t, .own true 3 h3 x.matches_.t] | _ => []
def E_bool : Bool → T := fun y => .bool y
theorem E_bool_inj : ∀ a b, E_bool a = E_bool b → a = b := inj_bool
theorem E_bool_p : ∀ v, pureT (E_bool v) = true := fun v => by simp [pureT, pureL, E_bool]
def E_DPattern : DPattern → T := fun y => .agg [i4 y.Kind, i4 y.Num, .str y.Text, y.Kids.t]
theorem E_DPattern_inj : ∀ a b, E_DPattern a = E_DPattern b → a = b := DPattern.inj_agg
theorem E_DPattern_p : ∀ v, pureT (E_DPattern v) = true := fun v => by simp [pureT, pureL, E_DPattern]
def E_sl_u8 : (Sl (Iv .u8)) → T := fun y => y.t
theorem E_sl_u8_inj : ∀ a b, E_sl_u8 a = E_sl_u8 b → a = b := k6_
def E_i64 : Int → T := fun y => i4 y
theorem E_i64_inj : ∀ a b, E_i64 a = E_i64 b → a = b := l3_
theorem E_i64_p : ∀ v, pureT (E_i64 v) = true := fun v => by simp [pureT, pureL, E_i64]
def E_t2_DPattern_bool : (DPattern × Bool) → T := fun y => .tup [.agg [i4 y.1.Kind, i4 y.1.Num, .str y.1.Text, y.1.Kids.t], .bool y.2]
theorem E_t2_DPattern_bool_inj : ∀ a b, E_t2_DPattern_bool a = E_t2_DPattern_bool b → a = b := mZ_ DPattern.inj_agg inj_bool
theorem E_t2_DPattern_bool_p : ∀ v, pureT (E_t2_DPattern_bool v) = true := fun v => by simp [pureT, pureL, E_t2_DPattern_bool]
def E_str : ByteArray → T := fun y => .str y
theorem E_str_inj : ∀ a b, E_str a = E_str b → a = b := inj_str
theorem E_str_p : ∀ v, pureT (E_str v) = true := fun v => by simp [pureT, pureL, E_str]
def E_t2_sl_DMatch_i64 : ((Sl DMatch) × Int) → T := fun y => .tup [y.1.t, i4 y.2]
theorem E_t2_sl_DMatch_i64_inj : ∀ a b, E_t2_sl_DMatch_i64 a = E_t2_sl_DMatch_i64 b → a = b := mZ_ k6_ l3_
theorem E_t2_sl_DMatch_i64_p : ∀ v, pureT (E_t2_sl_DMatch_i64 v) = true := fun v => by simp [pureT, pureL, E_t2_sl_DMatch_i64]
def E_sl_DNamed : (Sl DNamed) → T := fun y => y.t
theorem E_sl_DNamed_inj : ∀ a b, E_sl_DNamed a = E_sl_DNamed b → a = b := k6_
noncomputable def Sh_DPattern : f5_ DPattern := ⟨1, fun hs y => match hs with | [h1] => .agg [i4 y.Kind, i4 y.Num, .str y.Text, h1] | _ => .tup [], fun hs y => match hs with | [h1] => [.own true 4 h1 (Sl.t (y.Kids : Sl DPattern))] | _ => [], E_DPattern, fun hs y h => by
 obtain ⟨h1, rfl⟩ := len1 h
 exact (HL.agg (es1 := [.own true 4 h1 (Sl.t (y.Kids : Sl DPattern))]) (es2 := []) (HL.leaf (fun σ d => by simp) (HL.leaf (fun σ d => by simp) (HL.leaf (fun σ d => by simp) (HL.own rfl HL.nil)))) HL.nil), E_DPattern_inj⟩
def E_t2_i64_T : (Int × T) → T := fun y => .tup [i4 y.1, y.2]
def E_sl_i64 : (Sl (Iv .i64)) → T := fun y => y.t
theorem E_sl_i64_inj : ∀ a b, E_sl_i64 a = E_sl_i64 b → a = b := k6_
noncomputable def Sh_sl_DNamed : f5_ (Sl DNamed) := ⟨1, fun hs y => match hs with | [h1] => h1 | _ => .tup [], fun hs y => match hs with | [h1] => [.own true 5 h1 (Sl.t (y : Sl DNamed))] | _ => [], E_sl_DNamed, fun hs y h => by
 obtain ⟨h1, rfl⟩ := len1 h
 exact (HL.own rfl HL.nil), E_sl_DNamed_inj⟩
def E_t2_i64_str : (Int × ByteArray) → T := fun y => .tup [i4 y.1, .str y.2]
theorem E_t2_i64_str_inj : ∀ a b, E_t2_i64_str a = E_t2_i64_str b → a = b := mZ_ l3_ inj_str
theorem E_t2_i64_str_p : ∀ v, pureT (E_t2_i64_str v) = true := fun v => by simp [pureT, pureL, E_t2_i64_str]
def E_t2_str_str : (ByteArray × ByteArray) → T := fun y => .tup [.str y.1, .str y.2]
theorem E_t2_str_str_inj : ∀ a b, E_t2_str_str a = E_t2_str_str b → a = b := mZ_ inj_str inj_str
theorem E_t2_str_str_p : ∀ v, pureT (E_t2_str_str v) = true := fun v => by simp [pureT, pureL, E_t2_str_str]
def E_sl_DCapture : (Sl DCapture) → T := fun y => y.t
theorem E_sl_DCapture_inj : ∀ a b, E_sl_DCapture a = E_sl_DCapture b → a = b := k6_
noncomputable def Sh_t2_sl_DMatch_i64 : f5_ ((Sl DMatch) × Int) := ⟨1, fun hs y => match hs with | [h1] => .tup [h1, i4 y.2] | _ => .tup [], fun hs y => match hs with | [h1] => [.own true 3 h1 (Sl.t (y.1 : Sl DMatch))] | _ => [], E_t2_sl_DMatch_i64, fun hs y h => by
 obtain ⟨h1, rfl⟩ := len1 h
 exact (HL.tup (es1 := [.own true 3 h1 (Sl.t (y.1 : Sl DMatch))]) (es2 := []) (HL.own rfl (HL.leaf (fun σ d => by simp) HL.nil)) HL.nil), E_t2_sl_DMatch_i64_inj⟩
noncomputable def Sh_sl_i64 : f5_ (Sl (Iv .i64)) := ⟨1, fun hs y => match hs with | [h1] => h1 | _ => .tup [], fun hs y => match hs with | [h1] => [.own true 1 h1 (Sl.t (y : Sl (Iv .i64)))] | _ => [], E_sl_i64, fun hs y h => by
 obtain ⟨h1, rfl⟩ := len1 h
 exact (HL.own rfl HL.nil), E_sl_i64_inj⟩
noncomputable def Sh_sl_DCapture : f5_ (Sl DCapture) := ⟨1, fun hs y => match hs with | [h1] => h1 | _ => .tup [], fun hs y => match hs with | [h1] => [.own true 4 h1 (Sl.t (y : Sl DCapture))] | _ => [], E_sl_DCapture, fun hs y h => by
 obtain ⟨h1, rfl⟩ := len1 h
 exact (HL.own rfl HL.nil), E_sl_DCapture_inj⟩
noncomputable def f7_ (a0 : (Sl (Iv .u8))) : Option Bool := semV Try.prog md ext E_bool 10 [(a0.t)]
noncomputable def dg_ (a0 : (Sl (Iv .u8))) : Option DPattern := semV Try.prog md ext E_DPattern 15 [(a0.t)]
noncomputable def c4_ (a0 : Int) (a1 : (Sl (Iv .u8))) : Option (Sl (Iv .u8)) := semV Try.prog md ext E_sl_u8 16 [(i4 a0), (a1.t)]
noncomputable def cw_ (a0 : DPattern) (a1 : DPattern) : Option Bool := semV Try.prog md ext E_bool 21 [(.agg [i4 a0.Kind, i4 a0.Num, .str a0.Text, a0.Kids.t]), (.agg [i4 a1.Kind, i4 a1.Num, .str a1.Text, a1.Kids.t])]
noncomputable def dW_ (a0 : (Sl (Iv .u8))) : Option ByteArray := semV Try.prog md ext E_str 31 [(a0.t)]
noncomputable def bg_ (a0 : (Sl DNamed)) (a1 : DPattern) (a2 : ByteArray) (a3 : Bool) (a4 : Int) : Option ((Sl DMatch) × Int) := semV Try.prog md ext E_t2_sl_DMatch_i64 35 [(a0.t), (.agg [i4 a1.Kind, i4 a1.Num, .str a1.Text, a1.Kids.t]), (.str a2), (.bool a3), (i4 a4)]
noncomputable def b4_ (a0 : (Sl DMatch)) (a1 : (Sl DMatch)) : Option Bool := semV Try.prog md ext E_bool 45 [(a0.t), (a1.t)]
noncomputable def fS_ (a0 : (Sl (Iv .u8))) : Option (Sl DNamed) := semV Try.prog md ext E_sl_DNamed 48 [(a0.t)]
noncomputable def bn_ (a0 : DPattern) (a1 : DPattern) : Option (DPattern × Bool) := semV Try.prog md ext E_t2_DPattern_bool 49 [(.agg [i4 a0.Kind, i4 a0.Num, .str a0.Text, a0.Kids.t]), (.agg [i4 a1.Kind, i4 a1.Num, .str a1.Text, a1.Kids.t])]
noncomputable def gd_ (a0 : DPattern) (a1 : DPattern) : Option DPattern := semV Try.prog md ext E_DPattern 50 [(.agg [i4 a0.Kind, i4 a0.Num, .str a0.Text, a0.Kids.t]), (.agg [i4 a1.Kind, i4 a1.Num, .str a1.Text, a1.Kids.t])]
noncomputable def aW_ (a0 : DPattern) : Option Bool := semV Try.prog md ext E_bool 53 [(.agg [i4 a0.Kind, i4 a0.Num, .str a0.Text, a0.Kids.t])]
noncomputable def br_ (a0 : DPattern) : Option DPattern := semO Try.prog md ext Sh_DPattern 63 [(.agg [i4 a0.Kind, i4 a0.Num, .str a0.Text, a0.Kids.t])]
noncomputable def bX_ (a0 : (Sl DPattern)) (a1 : (Sl DPattern)) (a2 : T) : Option Bool := semV Try.prog md ext E_bool 68 [(a0.t), (a1.t), (a2)]
noncomputable def f4_ (a0 : (Sl (Iv .i64))) : Option Int := semV Try.prog md ext E_i64 74 [(a0.t)]
noncomputable def d5_ (a0 : Bool) (a1 : Int) : Option Int := semV Try.prog md ext E_i64 75 [(.bool a0), (i4 a1)]
noncomputable def a9_ (a0 : ByteArray) : Option Bool := semV Try.prog md ext E_bool 76 [(.str a0)]
noncomputable def dC_ (a0 : (Sl DNamed)) (a1 : DPattern) (a2 : ByteArray) (a3 : Int) : Option Int := semV Try.prog md ext E_i64 77 [(a0.t), (.agg [i4 a1.Kind, i4 a1.Num, .str a1.Text, a1.Kids.t]), (.str a2), (i4 a3)]
noncomputable def h4_ (a0 : h7_) (a1 : ByteArray) : Option (Int × T) := semL Try.prog md ext E_t2_i64_T 79 (fun bs => match bs with | [bp0] => [(.ptr bp0 0 0 2), (.str a1)] | _ => []) [h7_.cells a0]
noncomputable def cx_ (a0 : (Sl DNamed)) (a1 : DPattern) (a2 : ByteArray) (a3 : (Sl (Iv .i64))) (a4 : Int) : Option ((Sl DMatch) × Int) := semO Try.prog md ext Sh_t2_sl_DMatch_i64 82 [(a0.t), (.agg [i4 a1.Kind, i4 a1.Num, .str a1.Text, a1.Kids.t]), (.str a2), (a3.t), (i4 a4)]
noncomputable def dl_ (a0 : ByteArray) (a1 : Bool) : Option (Sl (Iv .i64)) := semO Try.prog md ext Sh_sl_i64 83 [(.str a0), (.bool a1)]
noncomputable def bz_ (a0 : (Sl DMatch)) (a1 : (Sl DMatch)) (a2 : T) : Option Bool := semV Try.prog md ext E_bool 91 [(a0.t), (a1.t), (a2)]
noncomputable def cn_ (a0 : DMatch) (a1 : DMatch) : Option Bool := semV Try.prog md ext E_bool 92 [(.agg (DMatch.cells a0)), (.agg (DMatch.cells a1))]
noncomputable def bG_ (a0 : DPattern) (a1 : DPattern) : Option DPattern := semV Try.prog md ext E_DPattern 95 [(.agg [i4 a0.Kind, i4 a0.Num, .str a0.Text, a0.Kids.t]), (.agg [i4 a1.Kind, i4 a1.Num, .str a1.Text, a1.Kids.t])]
noncomputable def ap_ (a0 : DPattern) : Option DPattern := semV Try.prog md ext E_DPattern 96 [(.agg [i4 a0.Kind, i4 a0.Num, .str a0.Text, a0.Kids.t])]
noncomputable def ft_ (a0 : Int) (a1 : ByteArray) (a2 : (Sl DPattern)) : Option DPattern := semV Try.prog md ext E_DPattern 97 [(i4 a0), (.str a1), (a2.t)]
noncomputable def aB_ (a0 : DPattern) (a1 : Int) : Option Int := semV Try.prog md ext E_i64 99 [(.agg [i4 a0.Kind, i4 a0.Num, .str a0.Text, a0.Kids.t]), (i4 a1)]
noncomputable def b3_ (a0 : Int) (a1 : Int) (a2 : Int) : Option Bool := semV Try.prog md ext E_bool 103 [(i4 a0), (i4 a1), (i4 a2)]
noncomputable def aR_ (a0 : DPattern) : Option DPattern := semO Try.prog md ext Sh_DPattern 108 [(.agg [i4 a0.Kind, i4 a0.Num, .str a0.Text, a0.Kids.t])]
noncomputable def cr_ (a0 : Int) : Option (Int × ByteArray) := semV Try.prog md ext E_t2_i64_str 112 [(i4 a0)]
noncomputable def aV_ (a0 : DPattern) (a1 : Int) : Option Int := semV Try.prog md ext E_i64 120 [(.agg [i4 a0.Kind, i4 a0.Num, .str a0.Text, a0.Kids.t]), (i4 a1)]
noncomputable def es_ (a0 : (Sl DNamed)) : Option Bool := semV Try.prog md ext E_bool 122 [(a0.t)]
noncomputable def c2_ (a0 : Int) (a1 : Int) (a2 : Int) : Option Bool := semV Try.prog md ext E_bool 128 [(i4 a0), (i4 a1), (i4 a2)]
noncomputable def bR_ (a0 : (Sl DCapture)) (a1 : (Sl DCapture)) : Option Bool := semV Try.prog md ext E_bool 131 [(a0.t), (a1.t)]
noncomputable def aw_ (a0 : DPattern) : Option Bool := semV Try.prog md ext E_bool 132 [(.agg [i4 a0.Kind, i4 a0.Num, .str a0.Text, a0.Kids.t])]
noncomputable def bZ_ (a0 : DPattern) (a1 : DPattern) : Option DPattern := semV Try.prog md ext E_DPattern 133 [(.agg [i4 a0.Kind, i4 a0.Num, .str a0.Text, a0.Kids.t]), (.agg [i4 a1.Kind, i4 a1.Num, .str a1.Text, a1.Kids.t])]
noncomputable def du_ (a0 : Int) (a1 : Int) (a2 : ByteArray) : Option Bool := semV Try.prog md ext E_bool 134 [(i4 a0), (i4 a1), (.str a2)]
noncomputable def fv_ (a0 : Int) : Option Int := semV Try.prog md ext E_i64 135 [(i4 a0)]
noncomputable def gA_ (a0 : Int) : Option (ByteArray × ByteArray) := semV Try.prog md ext E_t2_str_str 137 [(i4 a0)]
noncomputable def e4_ (a0 : DPattern) : Option Bool := semV Try.prog md ext E_bool 140 [(.agg [i4 a0.Kind, i4 a0.Num, .str a0.Text, a0.Kids.t])]
noncomputable def cX_ (a0 : (Sl DNamed)) (a1 : T) : Option Bool := semV Try.prog md ext E_bool 141 [(a0.t), (a1)]
noncomputable def dA_ (a0 : DNamed) : Option Bool := semV Try.prog md ext E_bool 142 [(.agg (DNamed.cells a0))]
noncomputable def ea_ (a0 : ByteArray) : Option Bool := semV Try.prog md ext E_bool 143 [(.str a0)]
noncomputable def eb_ (a0 : (Sl DNamed)) (a1 : ByteArray) : Option (DPattern × Bool) := semV Try.prog md ext E_t2_DPattern_bool 144 [(a0.t), (.str a1)]
noncomputable def aU_ (a0 : ByteArray) (a1 : Int) (a2 : Int) : Option Int := semV Try.prog md ext E_i64 146 [(.str a0), (i4 a1), (i4 a2)]
noncomputable def aL_ (a0 : Int) (a1 : Int) (a2 : ByteArray) (a3 : ByteArray) (a4 : Int) : Option Int := semV Try.prog md ext E_i64 152 [(i4 a0), (i4 a1), (.str a2), (.str a3), (i4 a4)]
noncomputable def be_ (a0 : (Sl (Sl DCapture))) : Option (Sl DCapture) := semO Try.prog md ext Sh_sl_DCapture 153 [(a0.t)]
noncomputable def fD_ (a0 : ByteArray) : Option Bool := semV Try.prog md ext E_bool 155 [(.str a0)]
noncomputable def fy_ (a0 : ByteArray) (a1 : Int) (a2 : Int) : Option Int := semV Try.prog md ext E_i64 158 [(.str a0), (i4 a1), (i4 a2)]
noncomputable def eW_ (a0 : (Sl DNamed)) (a1 : ByteArray) : Option Int := semV Try.prog md ext E_i64 161 [(a0.t), (.str a1)]
noncomputable def hh_ (a0 : DPattern) (a1 : ByteArray) (a2 : Int) : Option Int := semV Try.prog md ext E_i64 162 [(.agg [i4 a0.Kind, i4 a0.Num, .str a0.Text, a0.Kids.t]), (.str a1), (i4 a2)]
noncomputable def fB_ (a0 : Int) : Option Bool := semV Try.prog md ext E_bool 163 [(i4 a0)]
noncomputable def d0_ (a0 : Int) : Option Bool := semV Try.prog md ext E_bool 164 [(i4 a0)]
noncomputable def eS_ (a0 : Int) : Option Bool := semV Try.prog md ext E_bool 165 [(i4 a0)]
noncomputable def cM_ (a0 : Int) : Option Bool := semV Try.prog md ext E_bool 166 [(i4 a0)]
noncomputable def dh_ (a0 : Int) : Option Bool := semV Try.prog md ext E_bool 169 [(.int .u8 a0)]
noncomputable def eQ_ (a0 : (Sl (Iv .u8))) (a1 : T) : Option Bool := semV Try.prog md ext E_bool 170 [(a0.t), (a1)]
noncomputable def dD_ (a0 : Int) : Option Bool := semV Try.prog md ext E_bool 171 [(.int .u8 a0)]
noncomputable def bt_ (a0 : Int) (a1 : ByteArray) : Option Bool := semL Try.prog md ext E_bool 176 (fun bs => match bs with | [bp1] => [(.int .u8 a0), (.ptr bp1 0 0 1)] | _ => []) [[.str a1]]
noncomputable def cW_ (a0 : ByteArray) (a1 : Int) : Option Int := semV Try.prog md ext E_i64 177 [(.str a0), (.int .u8 a1)]
noncomputable def cV_ (a0 : ByteArray) (a1 : ByteArray) : Option Bool := semV Try.prog md ext E_bool 178 [(.str a0), (.str a1)]
noncomputable def dJ_ (a0 : Int) (a1 : Int) (a2 : Bool) : Option Int := semV Try.prog md ext E_i64 181 [(i4 a0), (i4 a1), (.bool a2)]
noncomputable def dw_ (a0 : ByteArray) (a1 : Int) : Option Int := semV Try.prog md ext E_i64 183 [(.str a0), (i4 a1)]
noncomputable def bf_ (a0 : ByteArray) (a1 : Int) : Option Bool := semV Try.prog md ext E_bool 185 [(.str a0), (.int .u8 a1)]
noncomputable def eX_ (a0 : Int) : Option Bool := semV Try.prog md ext E_bool 189 [(.int .u8 a0)]
noncomputable def bi_ (a0 : ByteArray) (a1 : Int) : Option Int := semV Try.prog md ext E_i64 190 [(.str a0), (.int .u8 a1)]
noncomputable def bj_ (a0 : ByteArray) (a1 : ByteArray) : Option Bool := semV Try.prog md ext E_bool 191 [(.str a0), (.str a1)]
noncomputable def cp_ (a0 : Int) : Option Bool := semV Try.prog md ext E_bool 192 [(.int .u8 a0)]
noncomputable def di_ (a0 : Int) : Option Bool := semV Try.prog md ext E_bool 193 [(.int .u8 a0)]
theorem ext_x : XOk ext := by
 intro f g h1
 unfold ext at h1
 cases h195 : Nat.beq f 195 with
 | true => rw [h195] at h1; have h1 : some idxE = some g := h1; injection h1 with h1; subst h1; exact vy_
 | false =>
 rw [h195] at h1
 simp only [cond_false] at h1
 cases h1
noncomputable def bV_ (a0 : ByteArray) (a1 : Int) : Option Int := semV Try.prog md ext E_i64 195 [(.str a0), (.int .u8 a1)]
noncomputable def bU_ (a0 : ByteArray) (a1 : Int) : Option Int := some (firstIdx a0 a1.toNat.toUInt8)
theorem c7_ (a0 : ByteArray) (a1 : Int) (r : Int) (h : bU_ a0 a1 = some r) : bV_ a0 a1 = some r := by
 unfold bU_ at h
 injection h with h; subst h
 exact rW_ E_i64_inj rfl rfl a0 a1 (fun _ => rfl)
theorem ext_ok : ∀ f g args σ r σ', ext f = some g → g args σ = some (r, σ') → gN_ Try.prog f args σ r σ' := by
 intro f g args σ r σ' h1 h2
 unfold ext at h1
 cases h195 : Nat.beq f 195 with
 | true => have e := Nat.eq_of_beq_eq_true h195; rw [h195] at h1; have h1 : some idxE = some g := h1; injection h1 with h1; subst h1; subst e; exact sS_ (fn := Try.f195) (by kernel_rfl) (by kernel_rfl) (by kernel_rfl) (by kernel_rfl) (by rfl) args σ r σ' h2
 | false =>
 rw [h195] at h1
 simp only [cond_false] at h1
 cases h1
theorem ok_10 : Ok Try.prog 10 (Try.f10.body.getD .skip) Try.f10.ntmps Try.f10.results.toList := ⟨Try.f10, by kernel_rfl, by kernel_rfl, by kernel_rfl, by kernel_rfl, rfl, rfl⟩
theorem ok_15 : Ok Try.prog 15 (Try.f15.body.getD .skip) Try.f15.ntmps Try.f15.results.toList := ⟨Try.f15, by kernel_rfl, by kernel_rfl, by kernel_rfl, by kernel_rfl, rfl, rfl⟩
theorem ok_16 : Ok Try.prog 16 (Try.f16.body.getD .skip) Try.f16.ntmps Try.f16.results.toList := ⟨Try.f16, by kernel_rfl, by kernel_rfl, by kernel_rfl, by kernel_rfl, rfl, rfl⟩
theorem ok_21 : Ok Try.prog 21 (Try.f21.body.getD .skip) Try.f21.ntmps Try.f21.results.toList := ⟨Try.f21, by kernel_rfl, by kernel_rfl, by kernel_rfl, by kernel_rfl, rfl, rfl⟩
theorem ok_31 : Ok Try.prog 31 (Try.f31.body.getD .skip) Try.f31.ntmps Try.f31.results.toList := ⟨Try.f31, by kernel_rfl, by kernel_rfl, by kernel_rfl, by kernel_rfl, rfl, rfl⟩
theorem ok_35 : Ok Try.prog 35 (Try.f35.body.getD .skip) Try.f35.ntmps Try.f35.results.toList := ⟨Try.f35, by kernel_rfl, by kernel_rfl, by kernel_rfl, by kernel_rfl, rfl, rfl⟩
theorem ok_45 : Ok Try.prog 45 (Try.f45.body.getD .skip) Try.f45.ntmps Try.f45.results.toList := ⟨Try.f45, by kernel_rfl, by kernel_rfl, by kernel_rfl, by kernel_rfl, rfl, rfl⟩
theorem ok_48 : Ok Try.prog 48 (Try.f48.body.getD .skip) Try.f48.ntmps Try.f48.results.toList := ⟨Try.f48, by kernel_rfl, by kernel_rfl, by kernel_rfl, by kernel_rfl, rfl, rfl⟩
theorem ok_49 : Ok Try.prog 49 (Try.f49.body.getD .skip) Try.f49.ntmps Try.f49.results.toList := ⟨Try.f49, by kernel_rfl, by kernel_rfl, by kernel_rfl, by kernel_rfl, rfl, rfl⟩
theorem ok_50 : Ok Try.prog 50 (Try.f50.body.getD .skip) Try.f50.ntmps Try.f50.results.toList := ⟨Try.f50, by kernel_rfl, by kernel_rfl, by kernel_rfl, by kernel_rfl, rfl, rfl⟩
theorem ok_53 : Ok Try.prog 53 (Try.f53.body.getD .skip) Try.f53.ntmps Try.f53.results.toList := ⟨Try.f53, by kernel_rfl, by kernel_rfl, by kernel_rfl, by kernel_rfl, rfl, rfl⟩
theorem ok_62 : Ok Try.prog 62 (Try.f62.body.getD .skip) Try.f62.ntmps Try.f62.results.toList := ⟨Try.f62, by kernel_rfl, by kernel_rfl, by kernel_rfl, by kernel_rfl, rfl, rfl⟩
theorem ok_63 : Ok Try.prog 63 (Try.f63.body.getD .skip) Try.f63.ntmps Try.f63.results.toList := ⟨Try.f63, by kernel_rfl, by kernel_rfl, by kernel_rfl, by kernel_rfl, rfl, rfl⟩
theorem ok_64 : Ok Try.prog 64 (Try.f64.body.getD .skip) Try.f64.ntmps Try.f64.results.toList := ⟨Try.f64, by kernel_rfl, by kernel_rfl, by kernel_rfl, by kernel_rfl, rfl, rfl⟩
theorem ok_65 : Ok Try.prog 65 (Try.f65.body.getD .skip) Try.f65.ntmps Try.f65.results.toList := ⟨Try.f65, by kernel_rfl, by kernel_rfl, by kernel_rfl, by kernel_rfl, rfl, rfl⟩
theorem ok_68 : Ok Try.prog 68 (Try.f68.body.getD .skip) Try.f68.ntmps Try.f68.results.toList := ⟨Try.f68, by kernel_rfl, by kernel_rfl, by kernel_rfl, by kernel_rfl, rfl, rfl⟩
theorem ok_72 : Ok Try.prog 72 (Try.f72.body.getD .skip) Try.f72.ntmps Try.f72.results.toList := ⟨Try.f72, by kernel_rfl, by kernel_rfl, by kernel_rfl, by kernel_rfl, rfl, rfl⟩
theorem ok_73 : Ok Try.prog 73 (Try.f73.body.getD .skip) Try.f73.ntmps Try.f73.results.toList := ⟨Try.f73, by kernel_rfl, by kernel_rfl, by kernel_rfl, by kernel_rfl, rfl, rfl⟩
theorem ok_74 : Ok Try.prog 74 (Try.f74.body.getD .skip) Try.f74.ntmps Try.f74.results.toList := ⟨Try.f74, by kernel_rfl, by kernel_rfl, by kernel_rfl, by kernel_rfl, rfl, rfl⟩
theorem ok_75 : Ok Try.prog 75 (Try.f75.body.getD .skip) Try.f75.ntmps Try.f75.results.toList := ⟨Try.f75, by kernel_rfl, by kernel_rfl, by kernel_rfl, by kernel_rfl, rfl, rfl⟩
theorem ok_76 : Ok Try.prog 76 (Try.f76.body.getD .skip) Try.f76.ntmps Try.f76.results.toList := ⟨Try.f76, by kernel_rfl, by kernel_rfl, by kernel_rfl, by kernel_rfl, rfl, rfl⟩
theorem ok_77 : Ok Try.prog 77 (Try.f77.body.getD .skip) Try.f77.ntmps Try.f77.results.toList := ⟨Try.f77, by kernel_rfl, by kernel_rfl, by kernel_rfl, by kernel_rfl, rfl, rfl⟩
theorem ok_78 : Ok Try.prog 78 (Try.f78.body.getD .skip) Try.f78.ntmps Try.f78.results.toList := ⟨Try.f78, by kernel_rfl, by kernel_rfl, by kernel_rfl, by kernel_rfl, rfl, rfl⟩
theorem ok_82 : Ok Try.prog 82 (Try.f82.body.getD .skip) Try.f82.ntmps Try.f82.results.toList := ⟨Try.f82, by kernel_rfl, by kernel_rfl, by kernel_rfl, by kernel_rfl, rfl, rfl⟩
theorem ok_83 : Ok Try.prog 83 (Try.f83.body.getD .skip) Try.f83.ntmps Try.f83.results.toList := ⟨Try.f83, by kernel_rfl, by kernel_rfl, by kernel_rfl, by kernel_rfl, rfl, rfl⟩
theorem ok_89 : Ok Try.prog 89 (Try.f89.body.getD .skip) Try.f89.ntmps Try.f89.results.toList := ⟨Try.f89, by kernel_rfl, by kernel_rfl, by kernel_rfl, by kernel_rfl, rfl, rfl⟩
theorem ok_91 : Ok Try.prog 91 (Try.f91.body.getD .skip) Try.f91.ntmps Try.f91.results.toList := ⟨Try.f91, by kernel_rfl, by kernel_rfl, by kernel_rfl, by kernel_rfl, rfl, rfl⟩
theorem ok_92 : Ok Try.prog 92 (Try.f92.body.getD .skip) Try.f92.ntmps Try.f92.results.toList := ⟨Try.f92, by kernel_rfl, by kernel_rfl, by kernel_rfl, by kernel_rfl, rfl, rfl⟩
theorem ok_95 : Ok Try.prog 95 (Try.f95.body.getD .skip) Try.f95.ntmps Try.f95.results.toList := ⟨Try.f95, by kernel_rfl, by kernel_rfl, by kernel_rfl, by kernel_rfl, rfl, rfl⟩
theorem ok_96 : Ok Try.prog 96 (Try.f96.body.getD .skip) Try.f96.ntmps Try.f96.results.toList := ⟨Try.f96, by kernel_rfl, by kernel_rfl, by kernel_rfl, by kernel_rfl, rfl, rfl⟩
theorem ok_97 : Ok Try.prog 97 (Try.f97.body.getD .skip) Try.f97.ntmps Try.f97.results.toList := ⟨Try.f97, by kernel_rfl, by kernel_rfl, by kernel_rfl, by kernel_rfl, rfl, rfl⟩
theorem ok_99 : Ok Try.prog 99 (Try.f99.body.getD .skip) Try.f99.ntmps Try.f99.results.toList := ⟨Try.f99, by kernel_rfl, by kernel_rfl, by kernel_rfl, by kernel_rfl, rfl, rfl⟩
theorem ok_103 : Ok Try.prog 103 (Try.f103.body.getD .skip) Try.f103.ntmps Try.f103.results.toList := ⟨Try.f103, by kernel_rfl, by kernel_rfl, by kernel_rfl, by kernel_rfl, rfl, rfl⟩
theorem ok_108 : Ok Try.prog 108 (Try.f108.body.getD .skip) Try.f108.ntmps Try.f108.results.toList := ⟨Try.f108, by kernel_rfl, by kernel_rfl, by kernel_rfl, by kernel_rfl, rfl, rfl⟩
theorem ok_109 : Ok Try.prog 109 (Try.f109.body.getD .skip) Try.f109.ntmps Try.f109.results.toList := ⟨Try.f109, by kernel_rfl, by kernel_rfl, by kernel_rfl, by kernel_rfl, rfl, rfl⟩
theorem ok_110 : Ok Try.prog 110 (Try.f110.body.getD .skip) Try.f110.ntmps Try.f110.results.toList := ⟨Try.f110, by kernel_rfl, by kernel_rfl, by kernel_rfl, by kernel_rfl, rfl, rfl⟩
theorem ok_111 : Ok Try.prog 111 (Try.f111.body.getD .skip) Try.f111.ntmps Try.f111.results.toList := ⟨Try.f111, by kernel_rfl, by kernel_rfl, by kernel_rfl, by kernel_rfl, rfl, rfl⟩
theorem ok_112 : Ok Try.prog 112 (Try.f112.body.getD .skip) Try.f112.ntmps Try.f112.results.toList := ⟨Try.f112, by kernel_rfl, by kernel_rfl, by kernel_rfl, by kernel_rfl, rfl, rfl⟩
theorem ok_113 : Ok Try.prog 113 (Try.f113.body.getD .skip) Try.f113.ntmps Try.f113.results.toList := ⟨Try.f113, by kernel_rfl, by kernel_rfl, by kernel_rfl, by kernel_rfl, rfl, rfl⟩
theorem ok_114 : Ok Try.prog 114 (Try.f114.body.getD .skip) Try.f114.ntmps Try.f114.results.toList := ⟨Try.f114, by kernel_rfl, by kernel_rfl, by kernel_rfl, by kernel_rfl, rfl, rfl⟩
theorem ok_120 : Ok Try.prog 120 (Try.f120.body.getD .skip) Try.f120.ntmps Try.f120.results.toList := ⟨Try.f120, by kernel_rfl, by kernel_rfl, by kernel_rfl, by kernel_rfl, rfl, rfl⟩
theorem ok_121 : Ok Try.prog 121 (Try.f121.body.getD .skip) Try.f121.ntmps Try.f121.results.toList := ⟨Try.f121, by kernel_rfl, by kernel_rfl, by kernel_rfl, by kernel_rfl, rfl, rfl⟩
theorem ok_122 : Ok Try.prog 122 (Try.f122.body.getD .skip) Try.f122.ntmps Try.f122.results.toList := ⟨Try.f122, by kernel_rfl, by kernel_rfl, by kernel_rfl, by kernel_rfl, rfl, rfl⟩
theorem ok_123 : Ok Try.prog 123 (Try.f123.body.getD .skip) Try.f123.ntmps Try.f123.results.toList := ⟨Try.f123, by kernel_rfl, by kernel_rfl, by kernel_rfl, by kernel_rfl, rfl, rfl⟩
theorem ok_124 : Ok Try.prog 124 (Try.f124.body.getD .skip) Try.f124.ntmps Try.f124.results.toList := ⟨Try.f124, by kernel_rfl, by kernel_rfl, by kernel_rfl, by kernel_rfl, rfl, rfl⟩
theorem ok_128 : Ok Try.prog 128 (Try.f128.body.getD .skip) Try.f128.ntmps Try.f128.results.toList := ⟨Try.f128, by kernel_rfl, by kernel_rfl, by kernel_rfl, by kernel_rfl, rfl, rfl⟩
theorem ok_131 : Ok Try.prog 131 (Try.f131.body.getD .skip) Try.f131.ntmps Try.f131.results.toList := ⟨Try.f131, by kernel_rfl, by kernel_rfl, by kernel_rfl, by kernel_rfl, rfl, rfl⟩
theorem ok_132 : Ok Try.prog 132 (Try.f132.body.getD .skip) Try.f132.ntmps Try.f132.results.toList := ⟨Try.f132, by kernel_rfl, by kernel_rfl, by kernel_rfl, by kernel_rfl, rfl, rfl⟩
theorem ok_133 : Ok Try.prog 133 (Try.f133.body.getD .skip) Try.f133.ntmps Try.f133.results.toList := ⟨Try.f133, by kernel_rfl, by kernel_rfl, by kernel_rfl, by kernel_rfl, rfl, rfl⟩
theorem ok_134 : Ok Try.prog 134 (Try.f134.body.getD .skip) Try.f134.ntmps Try.f134.results.toList := ⟨Try.f134, by kernel_rfl, by kernel_rfl, by kernel_rfl, by kernel_rfl, rfl, rfl⟩
theorem ok_135 : Ok Try.prog 135 (Try.f135.body.getD .skip) Try.f135.ntmps Try.f135.results.toList := ⟨Try.f135, by kernel_rfl, by kernel_rfl, by kernel_rfl, by kernel_rfl, rfl, rfl⟩
theorem ok_137 : Ok Try.prog 137 (Try.f137.body.getD .skip) Try.f137.ntmps Try.f137.results.toList := ⟨Try.f137, by kernel_rfl, by kernel_rfl, by kernel_rfl, by kernel_rfl, rfl, rfl⟩
theorem ok_140 : Ok Try.prog 140 (Try.f140.body.getD .skip) Try.f140.ntmps Try.f140.results.toList := ⟨Try.f140, by kernel_rfl, by kernel_rfl, by kernel_rfl, by kernel_rfl, rfl, rfl⟩
theorem ok_141 : Ok Try.prog 141 (Try.f141.body.getD .skip) Try.f141.ntmps Try.f141.results.toList := ⟨Try.f141, by kernel_rfl, by kernel_rfl, by kernel_rfl, by kernel_rfl, rfl, rfl⟩
theorem ok_142 : Ok Try.prog 142 (Try.f142.body.getD .skip) Try.f142.ntmps Try.f142.results.toList := ⟨Try.f142, by kernel_rfl, by kernel_rfl, by kernel_rfl, by kernel_rfl, rfl, rfl⟩
theorem ok_143 : Ok Try.prog 143 (Try.f143.body.getD .skip) Try.f143.ntmps Try.f143.results.toList := ⟨Try.f143, by kernel_rfl, by kernel_rfl, by kernel_rfl, by kernel_rfl, rfl, rfl⟩
theorem ok_144 : Ok Try.prog 144 (Try.f144.body.getD .skip) Try.f144.ntmps Try.f144.results.toList := ⟨Try.f144, by kernel_rfl, by kernel_rfl, by kernel_rfl, by kernel_rfl, rfl, rfl⟩
theorem ok_145 : Ok Try.prog 145 (Try.f145.body.getD .skip) Try.f145.ntmps Try.f145.results.toList := ⟨Try.f145, by kernel_rfl, by kernel_rfl, by kernel_rfl, by kernel_rfl, rfl, rfl⟩
theorem ok_146 : Ok Try.prog 146 (Try.f146.body.getD .skip) Try.f146.ntmps Try.f146.results.toList := ⟨Try.f146, by kernel_rfl, by kernel_rfl, by kernel_rfl, by kernel_rfl, rfl, rfl⟩
theorem ok_147 : Ok Try.prog 147 (Try.f147.body.getD .skip) Try.f147.ntmps Try.f147.results.toList := ⟨Try.f147, by kernel_rfl, by kernel_rfl, by kernel_rfl, by kernel_rfl, rfl, rfl⟩
theorem ok_148 : Ok Try.prog 148 (Try.f148.body.getD .skip) Try.f148.ntmps Try.f148.results.toList := ⟨Try.f148, by kernel_rfl, by kernel_rfl, by kernel_rfl, by kernel_rfl, rfl, rfl⟩
theorem ok_149 : Ok Try.prog 149 (Try.f149.body.getD .skip) Try.f149.ntmps Try.f149.results.toList := ⟨Try.f149, by kernel_rfl, by kernel_rfl, by kernel_rfl, by kernel_rfl, rfl, rfl⟩
theorem ok_150 : Ok Try.prog 150 (Try.f150.body.getD .skip) Try.f150.ntmps Try.f150.results.toList := ⟨Try.f150, by kernel_rfl, by kernel_rfl, by kernel_rfl, by kernel_rfl, rfl, rfl⟩
theorem ok_151 : Ok Try.prog 151 (Try.f151.body.getD .skip) Try.f151.ntmps Try.f151.results.toList := ⟨Try.f151, by kernel_rfl, by kernel_rfl, by kernel_rfl, by kernel_rfl, rfl, rfl⟩
theorem ok_152 : Ok Try.prog 152 (Try.f152.body.getD .skip) Try.f152.ntmps Try.f152.results.toList := ⟨Try.f152, by kernel_rfl, by kernel_rfl, by kernel_rfl, by kernel_rfl, rfl, rfl⟩
theorem ok_153 : Ok Try.prog 153 (Try.f153.body.getD .skip) Try.f153.ntmps Try.f153.results.toList := ⟨Try.f153, by kernel_rfl, by kernel_rfl, by kernel_rfl, by kernel_rfl, rfl, rfl⟩
theorem ok_155 : Ok Try.prog 155 (Try.f155.body.getD .skip) Try.f155.ntmps Try.f155.results.toList := ⟨Try.f155, by kernel_rfl, by kernel_rfl, by kernel_rfl, by kernel_rfl, rfl, rfl⟩
theorem ok_158 : Ok Try.prog 158 (Try.f158.body.getD .skip) Try.f158.ntmps Try.f158.results.toList := ⟨Try.f158, by kernel_rfl, by kernel_rfl, by kernel_rfl, by kernel_rfl, rfl, rfl⟩
theorem ok_161 : Ok Try.prog 161 (Try.f161.body.getD .skip) Try.f161.ntmps Try.f161.results.toList := ⟨Try.f161, by kernel_rfl, by kernel_rfl, by kernel_rfl, by kernel_rfl, rfl, rfl⟩
theorem ok_162 : Ok Try.prog 162 (Try.f162.body.getD .skip) Try.f162.ntmps Try.f162.results.toList := ⟨Try.f162, by kernel_rfl, by kernel_rfl, by kernel_rfl, by kernel_rfl, rfl, rfl⟩
theorem ok_163 : Ok Try.prog 163 (Try.f163.body.getD .skip) Try.f163.ntmps Try.f163.results.toList := ⟨Try.f163, by kernel_rfl, by kernel_rfl, by kernel_rfl, by kernel_rfl, rfl, rfl⟩
theorem ok_164 : Ok Try.prog 164 (Try.f164.body.getD .skip) Try.f164.ntmps Try.f164.results.toList := ⟨Try.f164, by kernel_rfl, by kernel_rfl, by kernel_rfl, by kernel_rfl, rfl, rfl⟩
theorem ok_165 : Ok Try.prog 165 (Try.f165.body.getD .skip) Try.f165.ntmps Try.f165.results.toList := ⟨Try.f165, by kernel_rfl, by kernel_rfl, by kernel_rfl, by kernel_rfl, rfl, rfl⟩
theorem ok_166 : Ok Try.prog 166 (Try.f166.body.getD .skip) Try.f166.ntmps Try.f166.results.toList := ⟨Try.f166, by kernel_rfl, by kernel_rfl, by kernel_rfl, by kernel_rfl, rfl, rfl⟩
theorem ok_169 : Ok Try.prog 169 (Try.f169.body.getD .skip) Try.f169.ntmps Try.f169.results.toList := ⟨Try.f169, by kernel_rfl, by kernel_rfl, by kernel_rfl, by kernel_rfl, rfl, rfl⟩
theorem ok_170 : Ok Try.prog 170 (Try.f170.body.getD .skip) Try.f170.ntmps Try.f170.results.toList := ⟨Try.f170, by kernel_rfl, by kernel_rfl, by kernel_rfl, by kernel_rfl, rfl, rfl⟩
theorem ok_171 : Ok Try.prog 171 (Try.f171.body.getD .skip) Try.f171.ntmps Try.f171.results.toList := ⟨Try.f171, by kernel_rfl, by kernel_rfl, by kernel_rfl, by kernel_rfl, rfl, rfl⟩
theorem ok_172 : Ok Try.prog 172 (Try.f172.body.getD .skip) Try.f172.ntmps Try.f172.results.toList := ⟨Try.f172, by kernel_rfl, by kernel_rfl, by kernel_rfl, by kernel_rfl, rfl, rfl⟩
theorem ok_173 : Ok Try.prog 173 (Try.f173.body.getD .skip) Try.f173.ntmps Try.f173.results.toList := ⟨Try.f173, by kernel_rfl, by kernel_rfl, by kernel_rfl, by kernel_rfl, rfl, rfl⟩
theorem ok_174 : Ok Try.prog 174 (Try.f174.body.getD .skip) Try.f174.ntmps Try.f174.results.toList := ⟨Try.f174, by kernel_rfl, by kernel_rfl, by kernel_rfl, by kernel_rfl, rfl, rfl⟩
theorem ok_175 : Ok Try.prog 175 (Try.f175.body.getD .skip) Try.f175.ntmps Try.f175.results.toList := ⟨Try.f175, by kernel_rfl, by kernel_rfl, by kernel_rfl, by kernel_rfl, rfl, rfl⟩
theorem ok_176 : Ok Try.prog 176 (Try.f176.body.getD .skip) Try.f176.ntmps Try.f176.results.toList := ⟨Try.f176, by kernel_rfl, by kernel_rfl, by kernel_rfl, by kernel_rfl, rfl, rfl⟩
theorem ok_177 : Ok Try.prog 177 (Try.f177.body.getD .skip) Try.f177.ntmps Try.f177.results.toList := ⟨Try.f177, by kernel_rfl, by kernel_rfl, by kernel_rfl, by kernel_rfl, rfl, rfl⟩
theorem ok_178 : Ok Try.prog 178 (Try.f178.body.getD .skip) Try.f178.ntmps Try.f178.results.toList := ⟨Try.f178, by kernel_rfl, by kernel_rfl, by kernel_rfl, by kernel_rfl, rfl, rfl⟩
theorem ok_179 : Ok Try.prog 179 (Try.f179.body.getD .skip) Try.f179.ntmps Try.f179.results.toList := ⟨Try.f179, by kernel_rfl, by kernel_rfl, by kernel_rfl, by kernel_rfl, rfl, rfl⟩
theorem ok_180 : Ok Try.prog 180 (Try.f180.body.getD .skip) Try.f180.ntmps Try.f180.results.toList := ⟨Try.f180, by kernel_rfl, by kernel_rfl, by kernel_rfl, by kernel_rfl, rfl, rfl⟩
theorem ok_181 : Ok Try.prog 181 (Try.f181.body.getD .skip) Try.f181.ntmps Try.f181.results.toList := ⟨Try.f181, by kernel_rfl, by kernel_rfl, by kernel_rfl, by kernel_rfl, rfl, rfl⟩
theorem ok_182 : Ok Try.prog 182 (Try.f182.body.getD .skip) Try.f182.ntmps Try.f182.results.toList := ⟨Try.f182, by kernel_rfl, by kernel_rfl, by kernel_rfl, by kernel_rfl, rfl, rfl⟩
theorem ok_183 : Ok Try.prog 183 (Try.f183.body.getD .skip) Try.f183.ntmps Try.f183.results.toList := ⟨Try.f183, by kernel_rfl, by kernel_rfl, by kernel_rfl, by kernel_rfl, rfl, rfl⟩
theorem ok_185 : Ok Try.prog 185 (Try.f185.body.getD .skip) Try.f185.ntmps Try.f185.results.toList := ⟨Try.f185, by kernel_rfl, by kernel_rfl, by kernel_rfl, by kernel_rfl, rfl, rfl⟩
theorem ok_189 : Ok Try.prog 189 (Try.f189.body.getD .skip) Try.f189.ntmps Try.f189.results.toList := ⟨Try.f189, by kernel_rfl, by kernel_rfl, by kernel_rfl, by kernel_rfl, rfl, rfl⟩
theorem ok_190 : Ok Try.prog 190 (Try.f190.body.getD .skip) Try.f190.ntmps Try.f190.results.toList := ⟨Try.f190, by kernel_rfl, by kernel_rfl, by kernel_rfl, by kernel_rfl, rfl, rfl⟩
theorem ok_191 : Ok Try.prog 191 (Try.f191.body.getD .skip) Try.f191.ntmps Try.f191.results.toList := ⟨Try.f191, by kernel_rfl, by kernel_rfl, by kernel_rfl, by kernel_rfl, rfl, rfl⟩
theorem ok_192 : Ok Try.prog 192 (Try.f192.body.getD .skip) Try.f192.ntmps Try.f192.results.toList := ⟨Try.f192, by kernel_rfl, by kernel_rfl, by kernel_rfl, by kernel_rfl, rfl, rfl⟩
theorem ok_193 : Ok Try.prog 193 (Try.f193.body.getD .skip) Try.f193.ntmps Try.f193.results.toList := ⟨Try.f193, by kernel_rfl, by kernel_rfl, by kernel_rfl, by kernel_rfl, rfl, rfl⟩
end Go.Am
end
