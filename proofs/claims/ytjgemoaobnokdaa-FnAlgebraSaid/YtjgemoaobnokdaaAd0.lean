/- The data. -/
import Derived.Test.YtjgemoaobnokdaaAm6
import Derived.Test.YtjgemoaobnokdaaProg
section
set_option maxRecDepth 100000
set_option linter.unusedVariables false
set_option linter.unusedSimpArgs false
namespace Go.Am
open Go.Proofs
structure DPattern where
 Kind : Int
 Num : Int
 Text : ByteArray
 Kids : (Sl DPattern)
mutual
def DPattern.cells : DPattern → List T
 | ⟨f0, f1, f2, ⟨z3, l3⟩⟩ => [i4 f0, i4 f1, .str f2, .row z3 l3.length (DPattern.cellsK l3)]
def DPattern.cellsK : List DPattern → List T
 | [] => []
 | p :: l => p.cells ++ DPattern.cellsK l
end
theorem DPattern.len (p : DPattern) : p.cells.length = 4 := by
 obtain ⟨f0, f1, f2, ⟨z3, l3⟩⟩ := p; simp [DPattern.cells]
theorem DPattern.one (p : DPattern) : p.cells.all T.one = true := by
 obtain ⟨f0, f1, f2, ⟨z3, l3⟩⟩ := p; simp [DPattern.cells]
mutual
theorem DPattern.pure : ∀ p : DPattern, pureL p.cells = true
 | ⟨f0, f1, f2, ⟨z3, l3⟩⟩ => by simp [DPattern.cells, pureL, pureT, DPattern.pureK l3]
theorem DPattern.pureK : ∀ l : List DPattern, pureL (DPattern.cellsK l) = true
 | [] => by simp [DPattern.cellsK, pureL]
 | p :: l => by simp [DPattern.cellsK, pureL_append, p.pure, DPattern.pureK l]
end
mutual
theorem DPattern.inj : ∀ p q : DPattern, p.cells = q.cells → p = q
 | ⟨f0, f1, f2, ⟨z3, l3⟩⟩, ⟨f0', f1', f2', ⟨z3', l3'⟩⟩, h => by
  simp only [DPattern.cells, List.cons.injEq, and_true, T.int.injEq, T.str.injEq, T.bool.injEq, T.row.injEq, true_and, Sl.inj_iff] at h
  have hk : l3 = l3' := DPattern.injK l3 l3' (by simp_all) (by simp_all)
  simp_all
theorem DPattern.injK : ∀ l l' : List DPattern, l.length = l'.length → DPattern.cellsK l = DPattern.cellsK l' → l = l'
 | [], [], _, _ => rfl
 | [], _ :: _, h, _ => by simp at h
 | _ :: _, [], h, _ => by simp at h
 | p :: l, p' :: l', h, k => by
  simp only [DPattern.cellsK] at k
  have e := List.append_inj k (by rw [DPattern.len, DPattern.len])
  rw [DPattern.inj p p' e.1, DPattern.injK l l' (by simpa using h) e.2]
end
instance : Enc DPattern := ⟨DPattern.cells, 4, DPattern.len, DPattern.one, DPattern.pure, DPattern.inj⟩
theorem DPattern.cellsK_eq : ∀ l : List DPattern, DPattern.cellsK l = am_ l
 | [] => rfl
 | p :: l => by simp only [DPattern.cellsK, am_, DPattern.cellsK_eq l]; rfl
theorem DPattern.cells_eq (p : DPattern) : p.cells = [i4 p.Kind, i4 p.Num, .str p.Text, p.Kids.t] := by
 obtain ⟨f0, f1, f2, ⟨z3, l3⟩⟩ := p; simp only [DPattern.cells, DPattern.cellsK_eq]; rfl
theorem DPattern.enc_eq (p : DPattern) : Enc.cells p = [i4 p.Kind, i4 p.Num, .str p.Text, p.Kids.t] := DPattern.cells_eq p
instance : Lit DPattern := ⟨fun p => [i4 p.Kind, i4 p.Num, .str p.Text, p.Kids.t], fun p => DPattern.cells_eq p⟩
theorem DPattern.inj_agg : ∀ p q : DPattern, T.agg [i4 p.Kind, i4 p.Num, .str p.Text, p.Kids.t] = T.agg [i4 q.Kind, i4 q.Num, .str q.Text, q.Kids.t] → p = q := fun p q h => DPattern.inj p q (by injection h with h; rw [DPattern.cells_eq, DPattern.cells_eq]; exact h)
structure DNamed where
 Name : ByteArray
 Pattern : DPattern
def DNamed.cells (x : DNamed) : List T := [.str x.Name, i4 x.Pattern.Kind, i4 x.Pattern.Num, .str x.Pattern.Text, x.Pattern.Kids.t]
instance : Enc DNamed := ⟨DNamed.cells, 5, fun _ => rfl, fun _ => rfl, fun x => by simp [DNamed.cells, pureL, pureT], fun a b h => by
 rcases a with ⟨_, ⟨_, _, _, _⟩⟩; rcases b with ⟨_, ⟨_, _, _, _⟩⟩; simp [DNamed.cells] at h; simp_all⟩
instance : Lit DNamed := ⟨fun x => [.str x.Name, i4 x.Pattern.Kind, i4 x.Pattern.Num, .str x.Pattern.Text, x.Pattern.Kids.t], fun _ => rfl⟩
instance : Hld false DNamed := ⟨fun a σ d => by show frzL (hold false σ d) (DNamed.cells a) = some (DNamed.cells a, []); simp [DNamed.cells, frzL]⟩
structure ag_ where
 code_ : (Sl (Iv .u8))
 at_ : Int
 seed_ : Int
def ag_.cells (x : ag_) : List T := [x.code_.t, i4 x.at_, .int .u64 x.seed_]
instance : Enc ag_ := ⟨ag_.cells, 3, fun _ => rfl, fun _ => rfl, fun x => by simp [ag_.cells, pureL, pureT], fun a b h => by
 rcases a with ⟨_, _, _⟩; rcases b with ⟨_, _, _⟩; simp [ag_.cells] at h; simp_all⟩
instance : Lit ag_ := ⟨fun x => [x.code_.t, i4 x.at_, .int .u64 x.seed_], fun _ => rfl⟩
instance : Hld false ag_ := ⟨fun a σ d => by show frzL (hold false σ d) (ag_.cells a) = some (ag_.cells a, []); simp [ag_.cells, frzL]⟩
structure DCapture where
 Name : ByteArray
 Text : ByteArray
 Cursor : Int
 Kind : Int
def DCapture.cells (x : DCapture) : List T := [.str x.Name, .str x.Text, i4 x.Cursor, i4 x.Kind]
instance : Enc DCapture := ⟨DCapture.cells, 4, fun _ => rfl, fun _ => rfl, fun x => by simp [DCapture.cells, pureL, pureT], fun a b h => by
 rcases a with ⟨_, _, _, _⟩; rcases b with ⟨_, _, _, _⟩; simp [DCapture.cells] at h; simp_all⟩
instance : Lit DCapture := ⟨fun x => [.str x.Name, .str x.Text, i4 x.Cursor, i4 x.Kind], fun _ => rfl⟩
instance (z : Bool) : Hld z DCapture := ⟨fun a σ d => by show frzL (hold z σ d) (DCapture.cells a) = some (DCapture.cells a, []); simp [DCapture.cells, frzL]⟩
structure DMatch where
 Start : Int
 End : Int
 Captures : (Sl DCapture)
def DMatch.cells (x : DMatch) : List T := [i4 x.Start, i4 x.End, x.Captures.t]
instance : Enc DMatch := ⟨DMatch.cells, 3, fun _ => rfl, fun _ => rfl, fun x => by simp [DMatch.cells, pureL, pureT], fun a b h => by
 rcases a with ⟨_, _, _⟩; rcases b with ⟨_, _, _⟩; simp [DMatch.cells] at h; simp_all⟩
instance : Lit DMatch := ⟨fun x => [i4 x.Start, i4 x.End, x.Captures.t], fun _ => rfl⟩
instance : Hld false DMatch := ⟨fun a σ d => by show frzL (hold false σ d) (DMatch.cells a) = some (DMatch.cells a, []); simp [DMatch.cells, frzL]⟩
structure aa_ where
 env_ : (Sl DNamed)
 subject_ : ByteArray
 fuel_ : Int
 steps_ : Int
 start_ : Int
 now_ : (Sl DCapture)
 conds_ : (Sl DCapture)
 matches_ : (Sl DMatch)
 most_ : Int
 isMere_ : Bool
 counts_ : T
 code_ : Int
def aa_.cells (x : aa_) : List T := [x.env_.t, .str x.subject_, i4 x.fuel_, i4 x.steps_, i4 x.start_, x.now_.t, x.conds_.t, x.matches_.t, i4 x.most_, .bool x.isMere_, x.counts_, i4 x.code_]
structure lQ_ where
 addr_ : T
 buf_ : (Sl (Iv .u8))
def lQ_.cells (x : lQ_) : List T := [x.addr_, x.buf_.t]
structure ah_ where
 p_ : DPattern
 c_ : Int
 next_ : Int
def ah_.cells (x : ah_) : List T := [i4 x.p_.Kind, i4 x.p_.Num, .str x.p_.Text, x.p_.Kids.t, i4 x.c_, i4 x.next_]
instance : Enc ah_ := ⟨ah_.cells, 6, fun _ => rfl, fun _ => rfl, fun x => by simp [ah_.cells, pureL, pureT], fun a b h => by
 rcases a with ⟨⟨_, _, _, _⟩, _, _⟩; rcases b with ⟨⟨_, _, _, _⟩, _, _⟩; simp [ah_.cells] at h; simp_all⟩
instance : Lit ah_ := ⟨fun x => [i4 x.p_.Kind, i4 x.p_.Num, .str x.p_.Text, x.p_.Kids.t, i4 x.c_, i4 x.next_], fun _ => rfl⟩
instance : Hld false ah_ := ⟨fun a σ d => by show frzL (hold false σ d) (ah_.cells a) = some (ah_.cells a, []); simp [ah_.cells, frzL]⟩
structure aj_ where
 env_ : (Sl DNamed)
 s_ : ByteArray
 fuel_ : Int
 mode_ : Int
 steps_ : Int
 conts_ : (Sl ah_)
 out_ : (Sl DMatch)
 now_ : (Sl DCapture)
 conds_ : (Sl DCapture)
 full_ : Bool
 abort_ : Bool
 stop_ : Bool
 code_ : Int
def aj_.cells (x : aj_) : List T := [x.env_.t, .str x.s_, i4 x.fuel_, i4 x.mode_, i4 x.steps_, x.conts_.t, x.out_.t, x.now_.t, x.conds_.t, .bool x.full_, .bool x.abort_, .bool x.stop_, i4 x.code_]
instance : Enc aj_ := ⟨aj_.cells, 13, fun _ => rfl, fun _ => rfl, fun x => by simp [aj_.cells, pureL, pureT], fun a b h => by
 rcases a with ⟨_, _, _, _, _, _, _, _, _, _, _, _, _⟩; rcases b with ⟨_, _, _, _, _, _, _, _, _, _, _, _, _⟩; simp [aj_.cells] at h; simp_all⟩
instance : Lit aj_ := ⟨fun x => [x.env_.t, .str x.s_, i4 x.fuel_, i4 x.mode_, i4 x.steps_, x.conts_.t, x.out_.t, x.now_.t, x.conds_.t, .bool x.full_, .bool x.abort_, .bool x.stop_, i4 x.code_], fun _ => rfl⟩
instance : Hld false aj_ := ⟨fun a σ d => by show frzL (hold false σ d) (aj_.cells a) = some (aj_.cells a, []); simp [aj_.cells, frzL]⟩
structure eo_ where
 ends_ : (Sl (Sl (Iv .i64)))
 steps_ : (Sl (Iv .i64))
def eo_.cells (x : eo_) : List T := [x.ends_.t, x.steps_.t]
instance : Enc eo_ := ⟨eo_.cells, 2, fun _ => rfl, fun _ => rfl, fun x => by simp [eo_.cells, pureL, pureT], fun a b h => by
 rcases a with ⟨_, _⟩; rcases b with ⟨_, _⟩; simp [eo_.cells] at h; simp_all⟩
instance : Lit eo_ := ⟨fun x => [x.ends_.t, x.steps_.t], fun _ => rfl⟩
instance : Hld false eo_ := ⟨fun a σ d => by show frzL (hold false σ d) (eo_.cells a) = some (eo_.cells a, []); simp [eo_.cells, frzL]⟩
def md : Nat → Md := fun f => bif [41, 42, 51, 64, 69, 70, 84, 85, 98, 101, 104, 119, 121, 153].elem f then .own else bif [53, 54, 62, 63, 65, 66, 67, 79, 87, 89, 94, 99, 103, 105, 106, 108, 109, 110, 122, 123, 128, 129, 145, 147, 148, 149, 150, 151, 156, 157, 159, 160, 169, 170, 171, 172, 176, 177, 179, 181, 193].elem f then .raw else .view
def ext : Ext := fun f => bif Nat.beq f 193 then some idxE else none
def bigN : Nat := 100000000000
theorem len0 {hs : List T} (h : hs.length = 0) : hs = [] := List.length_eq_zero_iff.1 h
theorem len1 {hs : List T} (h : hs.length = 1) : ∃ a0, hs = [a0] := by
 rcases hs with _ | ⟨a0, _ | ⟨x, l⟩⟩ <;> simp at h
 exact ⟨a0, rfl⟩
theorem len3 {hs : List T} (h : hs.length = 3) : ∃ a0 a1 a2, hs = [a0, a1, a2] := by
 rcases hs with _ | ⟨a0, _ | ⟨a1, _ | ⟨a2, _ | ⟨x, l⟩⟩⟩⟩ <;> simp at h
 exact ⟨a0, a1, a2, rfl⟩
theorem len4 {hs : List T} (h : hs.length = 4) : ∃ a0 a1 a2 a3, hs = [a0, a1, a2, a3] := by
 rcases hs with _ | ⟨a0, _ | ⟨a1, _ | ⟨a2, _ | ⟨a3, _ | ⟨x, l⟩⟩⟩⟩⟩ <;> simp at h
 exact ⟨a0, a1, a2, a3, rfl⟩
def a0_ (b : Nat) (x : aa_) (hs : List T) : List Ent := match hs with | [h1, h2, h3] => [.box b [x.env_.t, .str x.subject_, i4 x.fuel_, i4 x.steps_, i4 x.start_, h1, h2, h3, i4 x.most_, .bool x.isMere_, T.nilm, i4 x.code_], .flt 4 h1 x.now_.t, .flt 4 h2 x.conds_.t, .own true 3 h3 x.matches_.t] | _ => []
def f7_ (b : Nat) (x : aj_) (hs : List T) : List Ent := match hs with | [h1, h2, h3, h4] => [.box b [x.env_.t, .str x.s_, i4 x.fuel_, i4 x.mode_, i4 x.steps_, h1, h2, h3, h4, .bool x.full_, .bool x.abort_, .bool x.stop_, i4 x.code_], .flt 6 h1 x.conts_.t, .own true 3 h2 x.out_.t, .flt 4 h3 x.now_.t, .flt 4 h4 x.conds_.t] | _ => []
def E_bool : Bool → T := fun y => .bool y
theorem E_bool_inj : ∀ a b, E_bool a = E_bool b → a = b := inj_bool
theorem E_bool_p : ∀ v, pureT (E_bool v) = true := fun v => by simp [pureT, pureL, E_bool]
def E_sl_DNamed : (Sl DNamed) → T := fun y => y.t
theorem E_sl_DNamed_inj : ∀ a b, E_sl_DNamed a = E_sl_DNamed b → a = b := kk_
def E_DPattern : DPattern → T := fun y => .agg [i4 y.Kind, i4 y.Num, .str y.Text, y.Kids.t]
theorem E_DPattern_inj : ∀ a b, E_DPattern a = E_DPattern b → a = b := DPattern.inj_agg
theorem E_DPattern_p : ∀ v, pureT (E_DPattern v) = true := fun v => by simp [pureT, pureL, E_DPattern]
def E_sl_u8 : (Sl (Iv .u8)) → T := fun y => y.t
theorem E_sl_u8_inj : ∀ a b, E_sl_u8 a = E_sl_u8 b → a = b := kk_
def E_str : ByteArray → T := fun y => .str y
theorem E_str_inj : ∀ a b, E_str a = E_str b → a = b := inj_str
theorem E_str_p : ∀ v, pureT (E_str v) = true := fun v => by simp [pureT, pureL, E_str]
def E_i64 : Int → T := fun y => i4 y
theorem E_i64_inj : ∀ a b, E_i64 a = E_i64 b → a = b := kV_
theorem E_i64_p : ∀ v, pureT (E_i64 v) = true := fun v => by simp [pureT, pureL, E_i64]
def E_t2_sl_DMatch_i64 : ((Sl DMatch) × Int) → T := fun y => .tup [y.1.t, i4 y.2]
theorem E_t2_sl_DMatch_i64_inj : ∀ a b, E_t2_sl_DMatch_i64 a = E_t2_sl_DMatch_i64 b → a = b := lU_ kk_ kV_
theorem E_t2_sl_DMatch_i64_p : ∀ v, pureT (E_t2_sl_DMatch_i64 v) = true := fun v => by simp [pureT, pureL, E_t2_sl_DMatch_i64]
def E_t2_DPattern_bool : (DPattern × Bool) → T := fun y => .tup [.agg [i4 y.1.Kind, i4 y.1.Num, .str y.1.Text, y.1.Kids.t], .bool y.2]
theorem E_t2_DPattern_bool_inj : ∀ a b, E_t2_DPattern_bool a = E_t2_DPattern_bool b → a = b := lU_ DPattern.inj_agg inj_bool
theorem E_t2_DPattern_bool_p : ∀ v, pureT (E_t2_DPattern_bool v) = true := fun v => by simp [pureT, pureL, E_t2_DPattern_bool]
noncomputable def Sh_sl_DNamed : e3_ (Sl DNamed) := ⟨1, fun hs y => match hs with | [h1] => h1 | _ => .tup [], fun hs y => match hs with | [h1] => [.own true 5 h1 (Sl.t (y : Sl DNamed))] | _ => [], E_sl_DNamed, fun hs y h => by
 obtain ⟨h1, rfl⟩ := len1 h
 exact (HL.own rfl HL.nil), E_sl_DNamed_inj⟩
noncomputable def Sh_DPattern : e3_ DPattern := ⟨1, fun hs y => match hs with | [h1] => .agg [i4 y.Kind, i4 y.Num, .str y.Text, h1] | _ => .tup [], fun hs y => match hs with | [h1] => [.own true 4 h1 (Sl.t (y.Kids : Sl DPattern))] | _ => [], E_DPattern, fun hs y h => by
 obtain ⟨h1, rfl⟩ := len1 h
 exact (HL.agg (es1 := [.own true 4 h1 (Sl.t (y.Kids : Sl DPattern))]) (es2 := []) (HL.leaf (fun σ d => by simp) (HL.leaf (fun σ d => by simp) (HL.leaf (fun σ d => by simp) (HL.own rfl HL.nil)))) HL.nil), E_DPattern_inj⟩
def E_sl_i64 : (Sl (Iv .i64)) → T := fun y => y.t
theorem E_sl_i64_inj : ∀ a b, E_sl_i64 a = E_sl_i64 b → a = b := kk_
def E_t2_i64_str : (Int × ByteArray) → T := fun y => .tup [i4 y.1, .str y.2]
theorem E_t2_i64_str_inj : ∀ a b, E_t2_i64_str a = E_t2_i64_str b → a = b := lU_ kV_ inj_str
theorem E_t2_i64_str_p : ∀ v, pureT (E_t2_i64_str v) = true := fun v => by simp [pureT, pureL, E_t2_i64_str]
def E_t0_ : Unit → T := fun _ => .tup []
def E_t2_str_str : (ByteArray × ByteArray) → T := fun y => .tup [.str y.1, .str y.2]
theorem E_t2_str_str_inj : ∀ a b, E_t2_str_str a = E_t2_str_str b → a = b := lU_ inj_str inj_str
theorem E_t2_str_str_p : ∀ v, pureT (E_t2_str_str v) = true := fun v => by simp [pureT, pureL, E_t2_str_str]
def E_sl_DCapture : (Sl DCapture) → T := fun y => y.t
theorem E_sl_DCapture_inj : ∀ a b, E_sl_DCapture a = E_sl_DCapture b → a = b := kk_
noncomputable def Sh_t2_sl_DMatch_i64 : e3_ ((Sl DMatch) × Int) := ⟨1, fun hs y => match hs with | [h1] => .tup [h1, i4 y.2] | _ => .tup [], fun hs y => match hs with | [h1] => [.own true 3 h1 (Sl.t (y.1 : Sl DMatch))] | _ => [], E_t2_sl_DMatch_i64, fun hs y h => by
 obtain ⟨h1, rfl⟩ := len1 h
 exact (HL.tup (es1 := [.own true 3 h1 (Sl.t (y.1 : Sl DMatch))]) (es2 := []) (HL.own rfl (HL.leaf (fun σ d => by simp) HL.nil)) HL.nil), E_t2_sl_DMatch_i64_inj⟩
noncomputable def Sh_sl_i64 : e3_ (Sl (Iv .i64)) := ⟨1, fun hs y => match hs with | [h1] => h1 | _ => .tup [], fun hs y => match hs with | [h1] => [.own true 1 h1 (Sl.t (y : Sl (Iv .i64)))] | _ => [], E_sl_i64, fun hs y h => by
 obtain ⟨h1, rfl⟩ := len1 h
 exact (HL.own rfl HL.nil), E_sl_i64_inj⟩
noncomputable def Sh_sl_DCapture : e3_ (Sl DCapture) := ⟨1, fun hs y => match hs with | [h1] => h1 | _ => .tup [], fun hs y => match hs with | [h1] => [.own true 4 h1 (Sl.t (y : Sl DCapture))] | _ => [], E_sl_DCapture, fun hs y h => by
 obtain ⟨h1, rfl⟩ := len1 h
 exact (HL.own rfl HL.nil), E_sl_DCapture_inj⟩
noncomputable def fv_ (a0 : (Sl (Iv .u8))) : Option Bool := semV Try.prog md ext E_bool 3 [(a0.t)]
noncomputable def fW_ (a0 : (Sl (Iv .u8))) : Option (Sl DNamed) := semV Try.prog md ext E_sl_DNamed 15 [(a0.t)]
noncomputable def da_ (a0 : (Sl (Iv .u8))) : Option DPattern := semV Try.prog md ext E_DPattern 16 [(a0.t)]
noncomputable def cT_ (a0 : Int) (a1 : (Sl (Iv .u8))) : Option (Sl (Iv .u8)) := semV Try.prog md ext E_sl_u8 17 [(i4 a0), (a1.t)]
noncomputable def dC_ (a0 : (Sl (Iv .u8))) : Option ByteArray := semV Try.prog md ext E_str 18 [(a0.t)]
noncomputable def gk_ (a0 : (Sl (Iv .u8))) (a1 : Int) (a2 : Int) : Option Int := semV Try.prog md ext E_i64 19 [(a0.t), (i4 a1), (i4 a2)]
noncomputable def bU_ (a0 : DPattern) (a1 : DPattern) : Option DPattern := semV Try.prog md ext E_DPattern 20 [(.agg [i4 a0.Kind, i4 a0.Num, .str a0.Text, a0.Kids.t]), (.agg [i4 a1.Kind, i4 a1.Num, .str a1.Text, a1.Kids.t])]
noncomputable def bW_ (a0 : DPattern) (a1 : DPattern) : Option DPattern := semV Try.prog md ext E_DPattern 21 [(.agg [i4 a0.Kind, i4 a0.Num, .str a0.Text, a0.Kids.t]), (.agg [i4 a1.Kind, i4 a1.Num, .str a1.Text, a1.Kids.t])]
noncomputable def dZ_ (a0 : ByteArray) : Option DPattern := semV Try.prog md ext E_DPattern 22 [(.str a0)]
noncomputable def b0_ (a0 : Int) (a1 : ByteArray) (a2 : (Sl DPattern)) : Option DPattern := semV Try.prog md ext E_DPattern 23 [(i4 a0), (.str a1), (a2.t)]
noncomputable def aZ_ (a0 : (Sl DNamed)) (a1 : DPattern) (a2 : ByteArray) (a3 : Bool) (a4 : Int) : Option ((Sl DMatch) × Int) := semV Try.prog md ext E_t2_sl_DMatch_i64 24 [(a0.t), (.agg [i4 a1.Kind, i4 a1.Num, .str a1.Text, a1.Kids.t]), (.str a2), (.bool a3), (i4 a4)]
noncomputable def bm_ (a0 : (Sl DMatch)) (a1 : (Sl DMatch)) : Option Bool := semV Try.prog md ext E_bool 25 [(a0.t), (a1.t)]
noncomputable def b2_ (a0 : DPattern) : Option Bool := semV Try.prog md ext E_bool 33 [(.agg [i4 a0.Kind, i4 a0.Num, .str a0.Text, a0.Kids.t])]
noncomputable def cf_ (a0 : DPattern) : Option DPattern := semO Try.prog md ext Sh_DPattern 64 [(.agg [i4 a0.Kind, i4 a0.Num, .str a0.Text, a0.Kids.t])]
noncomputable def df_ (a0 : (Sl DNamed)) (a1 : DPattern) (a2 : ByteArray) (a3 : Int) : Option Int := semV Try.prog md ext E_i64 68 [(a0.t), (.agg [i4 a1.Kind, i4 a1.Num, .str a1.Text, a1.Kids.t]), (.str a2), (i4 a3)]
noncomputable def cl_ (a0 : (Sl DNamed)) (a1 : DPattern) (a2 : ByteArray) (a3 : (Sl (Iv .i64))) (a4 : Int) : Option ((Sl DMatch) × Int) := semO Try.prog md ext Sh_t2_sl_DMatch_i64 69 [(a0.t), (.agg [i4 a1.Kind, i4 a1.Num, .str a1.Text, a1.Kids.t]), (.str a2), (a3.t), (i4 a4)]
noncomputable def c6_ (a0 : ByteArray) (a1 : Bool) : Option (Sl (Iv .i64)) := semO Try.prog md ext Sh_sl_i64 70 [(.str a0), (.bool a1)]
noncomputable def bS_ (a0 : (Sl DMatch)) (a1 : (Sl DMatch)) (a2 : T) : Option Bool := semV Try.prog md ext E_bool 71 [(a0.t), (a1.t), (a2)]
noncomputable def dJ_ (a0 : DMatch) (a1 : DMatch) : Option Bool := semV Try.prog md ext E_bool 72 [(.agg (DMatch.cells a0)), (.agg (DMatch.cells a1))]
noncomputable def fB_ (a0 : (Sl (Iv .i64))) : Option Int := semV Try.prog md ext E_i64 73 [(a0.t)]
noncomputable def dV_ (a0 : Bool) (a1 : Int) : Option Int := semV Try.prog md ext E_i64 74 [(.bool a0), (i4 a1)]
noncomputable def bI_ (a0 : Int) (a1 : Int) (a2 : Int) : Option Bool := semV Try.prog md ext E_bool 75 [(i4 a0), (i4 a1), (i4 a2)]
noncomputable def aA_ (a0 : DPattern) (a1 : Int) : Option Int := semV Try.prog md ext E_i64 80 [(.agg [i4 a0.Kind, i4 a0.Num, .str a0.Text, a0.Kids.t]), (i4 a1)]
noncomputable def cI_ (a0 : ByteArray) : Option Bool := semV Try.prog md ext E_bool 88 [(.str a0)]
noncomputable def gF_ (a0 : (Sl DNamed)) (a1 : DPattern) (a2 : ByteArray) (a3 : Int) : Option Int := semV Try.prog md ext E_i64 93 [(a0.t), (.agg [i4 a1.Kind, i4 a1.Num, .str a1.Text, a1.Kids.t]), (.str a2), (i4 a3)]
noncomputable def fw_ (a0 : ByteArray) (a1 : Bool) : Option (Sl (Iv .i64)) := semO Try.prog md ext Sh_sl_i64 101 [(.str a0), (.bool a1)]
noncomputable def bu_ (a0 : DPattern) : Option DPattern := semO Try.prog md ext Sh_DPattern 104 [(.agg [i4 a0.Kind, i4 a0.Num, .str a0.Text, a0.Kids.t])]
noncomputable def ch_ (a0 : Int) : Option (Int × ByteArray) := semV Try.prog md ext E_t2_i64_str 107 [(i4 a0)]
noncomputable def ed_ (a0 : (Sl DNamed)) : Option Bool := semV Try.prog md ext E_bool 111 [(a0.t)]
noncomputable def cj_ (a0 : (Sl DCapture)) (a1 : (Sl DCapture)) : Option Bool := semV Try.prog md ext E_bool 112 [(a0.t), (a1.t)]
noncomputable def dk_ (a0 : Int) (a1 : Int) (a2 : ByteArray) : Option Bool := semV Try.prog md ext E_bool 115 [(i4 a0), (i4 a1), (.str a2)]
noncomputable def fh_ (a0 : Int) : Option Int := semV Try.prog md ext E_i64 116 [(i4 a0)]
noncomputable def ep_ (a0 : (Sl DNamed)) : Option Bool := semV Try.prog md ext E_bool 125 [(a0.t)]
noncomputable def b1_ (a0 : DPattern) : Option Bool := semV Try.prog md ext E_bool 126 [(.agg [i4 a0.Kind, i4 a0.Num, .str a0.Text, a0.Kids.t])]
noncomputable def cq_ (a0 : Int) (a1 : Int) (a2 : Int) : Option Bool := semV Try.prog md ext E_bool 127 [(i4 a0), (i4 a1), (i4 a2)]
noncomputable def aV_ (a0 : DPattern) (a1 : Int) : Option Int := semV Try.prog md ext E_i64 131 [(.agg [i4 a0.Kind, i4 a0.Num, .str a0.Text, a0.Kids.t]), (i4 a1)]
noncomputable def gg_ (a0 : Int) : Option (ByteArray × ByteArray) := semV Try.prog md ext E_t2_str_str 134 [(i4 a0)]
noncomputable def cS_ (a0 : (Sl DNamed)) (a1 : T) : Option Bool := semV Try.prog md ext E_bool 135 [(a0.t), (a1)]
noncomputable def dh_ (a0 : DNamed) : Option Bool := semV Try.prog md ext E_bool 136 [(.agg (DNamed.cells a0))]
noncomputable def dT_ (a0 : ByteArray) : Option Bool := semV Try.prog md ext E_bool 137 [(.str a0)]
noncomputable def d0_ (a0 : (Sl DNamed)) (a1 : ByteArray) : Option (DPattern × Bool) := semV Try.prog md ext E_t2_DPattern_bool 138 [(a0.t), (.str a1)]
noncomputable def e4_ (a0 : Int) : Option Bool := semV Try.prog md ext E_bool 139 [(i4 a0)]
noncomputable def dF_ (a0 : Int) : Option Bool := semV Try.prog md ext E_bool 140 [(i4 a0)]
noncomputable def eH_ (a0 : Int) : Option Bool := semV Try.prog md ext E_bool 141 [(i4 a0)]
noncomputable def cG_ (a0 : Int) : Option Bool := semV Try.prog md ext E_bool 142 [(i4 a0)]
noncomputable def aY_ (a0 : ByteArray) (a1 : Int) (a2 : Int) : Option Int := semV Try.prog md ext E_i64 146 [(.str a0), (i4 a1), (i4 a2)]
noncomputable def bh_ (a0 : Int) (a1 : Int) (a2 : ByteArray) (a3 : ByteArray) (a4 : Int) : Option Int := semV Try.prog md ext E_i64 152 [(i4 a0), (i4 a1), (.str a2), (.str a3), (i4 a4)]
noncomputable def ba_ (a0 : (Sl (Sl DCapture))) : Option (Sl DCapture) := semO Try.prog md ext Sh_sl_DCapture 153 [(a0.t)]
noncomputable def dX_ (a0 : ByteArray) : Option Bool := semV Try.prog md ext E_bool 155 [(.str a0)]
noncomputable def b4_ (a0 : ByteArray) (a1 : Int) (a2 : Int) : Option Int := semV Try.prog md ext E_i64 158 [(.str a0), (i4 a1), (i4 a2)]
noncomputable def cb_ (a0 : (Sl DNamed)) (a1 : ByteArray) : Option Int := semV Try.prog md ext E_i64 161 [(a0.t), (.str a1)]
noncomputable def ft_ (a0 : DPattern) (a1 : ByteArray) (a2 : Int) : Option Int := semV Try.prog md ext E_i64 162 [(.agg [i4 a0.Kind, i4 a0.Num, .str a0.Text, a0.Kids.t]), (.str a1), (i4 a2)]
noncomputable def eK_ (a0 : DPattern) : Option Bool := semV Try.prog md ext E_bool 163 [(.agg [i4 a0.Kind, i4 a0.Num, .str a0.Text, a0.Kids.t])]
noncomputable def c9_ (a0 : Int) : Option Bool := semV Try.prog md ext E_bool 166 [(.int .u8 a0)]
noncomputable def eB_ (a0 : (Sl (Iv .u8))) (a1 : T) : Option Bool := semV Try.prog md ext E_bool 167 [(a0.t), (a1)]
noncomputable def dl_ (a0 : Int) : Option Bool := semV Try.prog md ext E_bool 168 [(.int .u8 a0)]
noncomputable def bk_ (a0 : Int) (a1 : ByteArray) : Option Bool := semL Try.prog md ext E_bool 173 (fun bs => match bs with | [bp1] => [(.int .u8 a0), (.ptr bp1 0 0 1)] | _ => []) [[.str a1]]
noncomputable def cQ_ (a0 : ByteArray) (a1 : Int) : Option Int := semV Try.prog md ext E_i64 174 [(.str a0), (.int .u8 a1)]
noncomputable def cO_ (a0 : ByteArray) (a1 : ByteArray) : Option Bool := semV Try.prog md ext E_bool 175 [(.str a0), (.str a1)]
noncomputable def dw_ (a0 : Int) (a1 : Int) (a2 : Bool) : Option Int := semV Try.prog md ext E_i64 178 [(i4 a0), (i4 a1), (.bool a2)]
noncomputable def de_ (a0 : ByteArray) (a1 : Int) : Option Int := semV Try.prog md ext E_i64 180 [(.str a0), (i4 a1)]
noncomputable def a9_ (a0 : ByteArray) (a1 : Int) : Option Bool := semV Try.prog md ext E_bool 182 [(.str a0), (.int .u8 a1)]
noncomputable def eM_ (a0 : Int) : Option Bool := semV Try.prog md ext E_bool 187 [(.int .u8 a0)]
noncomputable def bb_ (a0 : ByteArray) (a1 : Int) : Option Int := semV Try.prog md ext E_i64 188 [(.str a0), (.int .u8 a1)]
noncomputable def bd_ (a0 : ByteArray) (a1 : ByteArray) : Option Bool := semV Try.prog md ext E_bool 189 [(.str a0), (.str a1)]
noncomputable def b7_ (a0 : Int) : Option Bool := semV Try.prog md ext E_bool 190 [(.int .u8 a0)]
noncomputable def cW_ (a0 : Int) : Option Bool := semV Try.prog md ext E_bool 191 [(.int .u8 a0)]
theorem ext_x : XOk ext := by
 intro f g h1
 by_cases hf : f = 193
 · subst hf; injection h1 with h1; subst h1; exact tS_
 · have e : ext f = none := by
    show (bif Nat.beq f 193 then some idxE else none) = none
    cases hb : Nat.beq f 193 with
    | false => rfl
    | true => exact absurd (Nat.eq_of_beq_eq_true hb) hf
   rw [e] at h1; cases h1
noncomputable def bF_ (a0 : ByteArray) (a1 : Int) : Option Int := semV Try.prog md ext E_i64 193 [(.str a0), (.int .u8 a1)]
noncomputable def bE_ (a0 : ByteArray) (a1 : Int) : Option Int := some (firstIdx a0 a1.toNat.toUInt8)
theorem cU_ (a0 : ByteArray) (a1 : Int) (r : Int) (h : bE_ a0 a1 = some r) : bF_ a0 a1 = some r := by
 unfold bE_ at h
 injection h with h; subst h
 exact pW_ E_i64_inj rfl rfl a0 a1 (fun _ => rfl)
theorem ext_ok : ∀ f g args σ r σ', ext f = some g → g args σ = some (r, σ') → gv_ Try.prog f args σ r σ' := by
 intro f g args σ r σ' h1 h2
 by_cases hf : f = 193
 · subst hf; injection h1 with h1; subst h1; exact s7_ (fn := Try.f193) (by kernel_rfl) (by kernel_rfl) (by kernel_rfl) (by kernel_rfl) (by rfl) args σ r σ' h2
 · have e : ext f = none := by
    show (bif Nat.beq f 193 then some idxE else none) = none
    cases hb : Nat.beq f 193 with
    | false => rfl
    | true => exact absurd (Nat.eq_of_beq_eq_true hb) hf
   rw [e] at h1; cases h1
theorem ok_3 : Ok Try.prog 3 (Try.f3.body.getD .skip) Try.f3.ntmps Try.f3.results.toList := ⟨Try.f3, by kernel_rfl, by kernel_rfl, by kernel_rfl, by kernel_rfl, rfl, rfl⟩
theorem ok_15 : Ok Try.prog 15 (Try.f15.body.getD .skip) Try.f15.ntmps Try.f15.results.toList := ⟨Try.f15, by kernel_rfl, by kernel_rfl, by kernel_rfl, by kernel_rfl, rfl, rfl⟩
theorem ok_16 : Ok Try.prog 16 (Try.f16.body.getD .skip) Try.f16.ntmps Try.f16.results.toList := ⟨Try.f16, by kernel_rfl, by kernel_rfl, by kernel_rfl, by kernel_rfl, rfl, rfl⟩
theorem ok_17 : Ok Try.prog 17 (Try.f17.body.getD .skip) Try.f17.ntmps Try.f17.results.toList := ⟨Try.f17, by kernel_rfl, by kernel_rfl, by kernel_rfl, by kernel_rfl, rfl, rfl⟩
theorem ok_18 : Ok Try.prog 18 (Try.f18.body.getD .skip) Try.f18.ntmps Try.f18.results.toList := ⟨Try.f18, by kernel_rfl, by kernel_rfl, by kernel_rfl, by kernel_rfl, rfl, rfl⟩
theorem ok_19 : Ok Try.prog 19 (Try.f19.body.getD .skip) Try.f19.ntmps Try.f19.results.toList := ⟨Try.f19, by kernel_rfl, by kernel_rfl, by kernel_rfl, by kernel_rfl, rfl, rfl⟩
theorem ok_20 : Ok Try.prog 20 (Try.f20.body.getD .skip) Try.f20.ntmps Try.f20.results.toList := ⟨Try.f20, by kernel_rfl, by kernel_rfl, by kernel_rfl, by kernel_rfl, rfl, rfl⟩
theorem ok_21 : Ok Try.prog 21 (Try.f21.body.getD .skip) Try.f21.ntmps Try.f21.results.toList := ⟨Try.f21, by kernel_rfl, by kernel_rfl, by kernel_rfl, by kernel_rfl, rfl, rfl⟩
theorem ok_22 : Ok Try.prog 22 (Try.f22.body.getD .skip) Try.f22.ntmps Try.f22.results.toList := ⟨Try.f22, by kernel_rfl, by kernel_rfl, by kernel_rfl, by kernel_rfl, rfl, rfl⟩
theorem ok_23 : Ok Try.prog 23 (Try.f23.body.getD .skip) Try.f23.ntmps Try.f23.results.toList := ⟨Try.f23, by kernel_rfl, by kernel_rfl, by kernel_rfl, by kernel_rfl, rfl, rfl⟩
theorem ok_24 : Ok Try.prog 24 (Try.f24.body.getD .skip) Try.f24.ntmps Try.f24.results.toList := ⟨Try.f24, by kernel_rfl, by kernel_rfl, by kernel_rfl, by kernel_rfl, rfl, rfl⟩
theorem ok_25 : Ok Try.prog 25 (Try.f25.body.getD .skip) Try.f25.ntmps Try.f25.results.toList := ⟨Try.f25, by kernel_rfl, by kernel_rfl, by kernel_rfl, by kernel_rfl, rfl, rfl⟩
theorem ok_33 : Ok Try.prog 33 (Try.f33.body.getD .skip) Try.f33.ntmps Try.f33.results.toList := ⟨Try.f33, by kernel_rfl, by kernel_rfl, by kernel_rfl, by kernel_rfl, rfl, rfl⟩
theorem ok_62 : Ok Try.prog 62 (Try.f62.body.getD .skip) Try.f62.ntmps Try.f62.results.toList := ⟨Try.f62, by kernel_rfl, by kernel_rfl, by kernel_rfl, by kernel_rfl, rfl, rfl⟩
theorem ok_63 : Ok Try.prog 63 (Try.f63.body.getD .skip) Try.f63.ntmps Try.f63.results.toList := ⟨Try.f63, by kernel_rfl, by kernel_rfl, by kernel_rfl, by kernel_rfl, rfl, rfl⟩
theorem ok_64 : Ok Try.prog 64 (Try.f64.body.getD .skip) Try.f64.ntmps Try.f64.results.toList := ⟨Try.f64, by kernel_rfl, by kernel_rfl, by kernel_rfl, by kernel_rfl, rfl, rfl⟩
theorem ok_65 : Ok Try.prog 65 (Try.f65.body.getD .skip) Try.f65.ntmps Try.f65.results.toList := ⟨Try.f65, by kernel_rfl, by kernel_rfl, by kernel_rfl, by kernel_rfl, rfl, rfl⟩
theorem ok_66 : Ok Try.prog 66 (Try.f66.body.getD .skip) Try.f66.ntmps Try.f66.results.toList := ⟨Try.f66, by kernel_rfl, by kernel_rfl, by kernel_rfl, by kernel_rfl, rfl, rfl⟩
theorem ok_67 : Ok Try.prog 67 (Try.f67.body.getD .skip) Try.f67.ntmps Try.f67.results.toList := ⟨Try.f67, by kernel_rfl, by kernel_rfl, by kernel_rfl, by kernel_rfl, rfl, rfl⟩
theorem ok_68 : Ok Try.prog 68 (Try.f68.body.getD .skip) Try.f68.ntmps Try.f68.results.toList := ⟨Try.f68, by kernel_rfl, by kernel_rfl, by kernel_rfl, by kernel_rfl, rfl, rfl⟩
theorem ok_69 : Ok Try.prog 69 (Try.f69.body.getD .skip) Try.f69.ntmps Try.f69.results.toList := ⟨Try.f69, by kernel_rfl, by kernel_rfl, by kernel_rfl, by kernel_rfl, rfl, rfl⟩
theorem ok_70 : Ok Try.prog 70 (Try.f70.body.getD .skip) Try.f70.ntmps Try.f70.results.toList := ⟨Try.f70, by kernel_rfl, by kernel_rfl, by kernel_rfl, by kernel_rfl, rfl, rfl⟩
theorem ok_71 : Ok Try.prog 71 (Try.f71.body.getD .skip) Try.f71.ntmps Try.f71.results.toList := ⟨Try.f71, by kernel_rfl, by kernel_rfl, by kernel_rfl, by kernel_rfl, rfl, rfl⟩
theorem ok_72 : Ok Try.prog 72 (Try.f72.body.getD .skip) Try.f72.ntmps Try.f72.results.toList := ⟨Try.f72, by kernel_rfl, by kernel_rfl, by kernel_rfl, by kernel_rfl, rfl, rfl⟩
theorem ok_73 : Ok Try.prog 73 (Try.f73.body.getD .skip) Try.f73.ntmps Try.f73.results.toList := ⟨Try.f73, by kernel_rfl, by kernel_rfl, by kernel_rfl, by kernel_rfl, rfl, rfl⟩
theorem ok_74 : Ok Try.prog 74 (Try.f74.body.getD .skip) Try.f74.ntmps Try.f74.results.toList := ⟨Try.f74, by kernel_rfl, by kernel_rfl, by kernel_rfl, by kernel_rfl, rfl, rfl⟩
theorem ok_75 : Ok Try.prog 75 (Try.f75.body.getD .skip) Try.f75.ntmps Try.f75.results.toList := ⟨Try.f75, by kernel_rfl, by kernel_rfl, by kernel_rfl, by kernel_rfl, rfl, rfl⟩
theorem ok_80 : Ok Try.prog 80 (Try.f80.body.getD .skip) Try.f80.ntmps Try.f80.results.toList := ⟨Try.f80, by kernel_rfl, by kernel_rfl, by kernel_rfl, by kernel_rfl, rfl, rfl⟩
theorem ok_87 : Ok Try.prog 87 (Try.f87.body.getD .skip) Try.f87.ntmps Try.f87.results.toList := ⟨Try.f87, by kernel_rfl, by kernel_rfl, by kernel_rfl, by kernel_rfl, rfl, rfl⟩
theorem ok_88 : Ok Try.prog 88 (Try.f88.body.getD .skip) Try.f88.ntmps Try.f88.results.toList := ⟨Try.f88, by kernel_rfl, by kernel_rfl, by kernel_rfl, by kernel_rfl, rfl, rfl⟩
theorem ok_89 : Ok Try.prog 89 (Try.f89.body.getD .skip) Try.f89.ntmps Try.f89.results.toList := ⟨Try.f89, by kernel_rfl, by kernel_rfl, by kernel_rfl, by kernel_rfl, rfl, rfl⟩
theorem ok_93 : Ok Try.prog 93 (Try.f93.body.getD .skip) Try.f93.ntmps Try.f93.results.toList := ⟨Try.f93, by kernel_rfl, by kernel_rfl, by kernel_rfl, by kernel_rfl, rfl, rfl⟩
theorem ok_101 : Ok Try.prog 101 (Try.f101.body.getD .skip) Try.f101.ntmps Try.f101.results.toList := ⟨Try.f101, by kernel_rfl, by kernel_rfl, by kernel_rfl, by kernel_rfl, rfl, rfl⟩
theorem ok_103 : Ok Try.prog 103 (Try.f103.body.getD .skip) Try.f103.ntmps Try.f103.results.toList := ⟨Try.f103, by kernel_rfl, by kernel_rfl, by kernel_rfl, by kernel_rfl, rfl, rfl⟩
theorem ok_104 : Ok Try.prog 104 (Try.f104.body.getD .skip) Try.f104.ntmps Try.f104.results.toList := ⟨Try.f104, by kernel_rfl, by kernel_rfl, by kernel_rfl, by kernel_rfl, rfl, rfl⟩
theorem ok_105 : Ok Try.prog 105 (Try.f105.body.getD .skip) Try.f105.ntmps Try.f105.results.toList := ⟨Try.f105, by kernel_rfl, by kernel_rfl, by kernel_rfl, by kernel_rfl, rfl, rfl⟩
theorem ok_106 : Ok Try.prog 106 (Try.f106.body.getD .skip) Try.f106.ntmps Try.f106.results.toList := ⟨Try.f106, by kernel_rfl, by kernel_rfl, by kernel_rfl, by kernel_rfl, rfl, rfl⟩
theorem ok_107 : Ok Try.prog 107 (Try.f107.body.getD .skip) Try.f107.ntmps Try.f107.results.toList := ⟨Try.f107, by kernel_rfl, by kernel_rfl, by kernel_rfl, by kernel_rfl, rfl, rfl⟩
theorem ok_108 : Ok Try.prog 108 (Try.f108.body.getD .skip) Try.f108.ntmps Try.f108.results.toList := ⟨Try.f108, by kernel_rfl, by kernel_rfl, by kernel_rfl, by kernel_rfl, rfl, rfl⟩
theorem ok_109 : Ok Try.prog 109 (Try.f109.body.getD .skip) Try.f109.ntmps Try.f109.results.toList := ⟨Try.f109, by kernel_rfl, by kernel_rfl, by kernel_rfl, by kernel_rfl, rfl, rfl⟩
theorem ok_110 : Ok Try.prog 110 (Try.f110.body.getD .skip) Try.f110.ntmps Try.f110.results.toList := ⟨Try.f110, by kernel_rfl, by kernel_rfl, by kernel_rfl, by kernel_rfl, rfl, rfl⟩
theorem ok_111 : Ok Try.prog 111 (Try.f111.body.getD .skip) Try.f111.ntmps Try.f111.results.toList := ⟨Try.f111, by kernel_rfl, by kernel_rfl, by kernel_rfl, by kernel_rfl, rfl, rfl⟩
theorem ok_112 : Ok Try.prog 112 (Try.f112.body.getD .skip) Try.f112.ntmps Try.f112.results.toList := ⟨Try.f112, by kernel_rfl, by kernel_rfl, by kernel_rfl, by kernel_rfl, rfl, rfl⟩
theorem ok_115 : Ok Try.prog 115 (Try.f115.body.getD .skip) Try.f115.ntmps Try.f115.results.toList := ⟨Try.f115, by kernel_rfl, by kernel_rfl, by kernel_rfl, by kernel_rfl, rfl, rfl⟩
theorem ok_116 : Ok Try.prog 116 (Try.f116.body.getD .skip) Try.f116.ntmps Try.f116.results.toList := ⟨Try.f116, by kernel_rfl, by kernel_rfl, by kernel_rfl, by kernel_rfl, rfl, rfl⟩
theorem ok_122 : Ok Try.prog 122 (Try.f122.body.getD .skip) Try.f122.ntmps Try.f122.results.toList := ⟨Try.f122, by kernel_rfl, by kernel_rfl, by kernel_rfl, by kernel_rfl, rfl, rfl⟩
theorem ok_123 : Ok Try.prog 123 (Try.f123.body.getD .skip) Try.f123.ntmps Try.f123.results.toList := ⟨Try.f123, by kernel_rfl, by kernel_rfl, by kernel_rfl, by kernel_rfl, rfl, rfl⟩
theorem ok_125 : Ok Try.prog 125 (Try.f125.body.getD .skip) Try.f125.ntmps Try.f125.results.toList := ⟨Try.f125, by kernel_rfl, by kernel_rfl, by kernel_rfl, by kernel_rfl, rfl, rfl⟩
theorem ok_126 : Ok Try.prog 126 (Try.f126.body.getD .skip) Try.f126.ntmps Try.f126.results.toList := ⟨Try.f126, by kernel_rfl, by kernel_rfl, by kernel_rfl, by kernel_rfl, rfl, rfl⟩
theorem ok_127 : Ok Try.prog 127 (Try.f127.body.getD .skip) Try.f127.ntmps Try.f127.results.toList := ⟨Try.f127, by kernel_rfl, by kernel_rfl, by kernel_rfl, by kernel_rfl, rfl, rfl⟩
theorem ok_128 : Ok Try.prog 128 (Try.f128.body.getD .skip) Try.f128.ntmps Try.f128.results.toList := ⟨Try.f128, by kernel_rfl, by kernel_rfl, by kernel_rfl, by kernel_rfl, rfl, rfl⟩
theorem ok_129 : Ok Try.prog 129 (Try.f129.body.getD .skip) Try.f129.ntmps Try.f129.results.toList := ⟨Try.f129, by kernel_rfl, by kernel_rfl, by kernel_rfl, by kernel_rfl, rfl, rfl⟩
theorem ok_131 : Ok Try.prog 131 (Try.f131.body.getD .skip) Try.f131.ntmps Try.f131.results.toList := ⟨Try.f131, by kernel_rfl, by kernel_rfl, by kernel_rfl, by kernel_rfl, rfl, rfl⟩
theorem ok_134 : Ok Try.prog 134 (Try.f134.body.getD .skip) Try.f134.ntmps Try.f134.results.toList := ⟨Try.f134, by kernel_rfl, by kernel_rfl, by kernel_rfl, by kernel_rfl, rfl, rfl⟩
theorem ok_135 : Ok Try.prog 135 (Try.f135.body.getD .skip) Try.f135.ntmps Try.f135.results.toList := ⟨Try.f135, by kernel_rfl, by kernel_rfl, by kernel_rfl, by kernel_rfl, rfl, rfl⟩
theorem ok_136 : Ok Try.prog 136 (Try.f136.body.getD .skip) Try.f136.ntmps Try.f136.results.toList := ⟨Try.f136, by kernel_rfl, by kernel_rfl, by kernel_rfl, by kernel_rfl, rfl, rfl⟩
theorem ok_137 : Ok Try.prog 137 (Try.f137.body.getD .skip) Try.f137.ntmps Try.f137.results.toList := ⟨Try.f137, by kernel_rfl, by kernel_rfl, by kernel_rfl, by kernel_rfl, rfl, rfl⟩
theorem ok_138 : Ok Try.prog 138 (Try.f138.body.getD .skip) Try.f138.ntmps Try.f138.results.toList := ⟨Try.f138, by kernel_rfl, by kernel_rfl, by kernel_rfl, by kernel_rfl, rfl, rfl⟩
theorem ok_139 : Ok Try.prog 139 (Try.f139.body.getD .skip) Try.f139.ntmps Try.f139.results.toList := ⟨Try.f139, by kernel_rfl, by kernel_rfl, by kernel_rfl, by kernel_rfl, rfl, rfl⟩
theorem ok_140 : Ok Try.prog 140 (Try.f140.body.getD .skip) Try.f140.ntmps Try.f140.results.toList := ⟨Try.f140, by kernel_rfl, by kernel_rfl, by kernel_rfl, by kernel_rfl, rfl, rfl⟩
theorem ok_141 : Ok Try.prog 141 (Try.f141.body.getD .skip) Try.f141.ntmps Try.f141.results.toList := ⟨Try.f141, by kernel_rfl, by kernel_rfl, by kernel_rfl, by kernel_rfl, rfl, rfl⟩
theorem ok_142 : Ok Try.prog 142 (Try.f142.body.getD .skip) Try.f142.ntmps Try.f142.results.toList := ⟨Try.f142, by kernel_rfl, by kernel_rfl, by kernel_rfl, by kernel_rfl, rfl, rfl⟩
theorem ok_145 : Ok Try.prog 145 (Try.f145.body.getD .skip) Try.f145.ntmps Try.f145.results.toList := ⟨Try.f145, by kernel_rfl, by kernel_rfl, by kernel_rfl, by kernel_rfl, rfl, rfl⟩
theorem ok_146 : Ok Try.prog 146 (Try.f146.body.getD .skip) Try.f146.ntmps Try.f146.results.toList := ⟨Try.f146, by kernel_rfl, by kernel_rfl, by kernel_rfl, by kernel_rfl, rfl, rfl⟩
theorem ok_147 : Ok Try.prog 147 (Try.f147.body.getD .skip) Try.f147.ntmps Try.f147.results.toList := ⟨Try.f147, by kernel_rfl, by kernel_rfl, by kernel_rfl, by kernel_rfl, rfl, rfl⟩
theorem ok_148 : Ok Try.prog 148 (Try.f148.body.getD .skip) Try.f148.ntmps Try.f148.results.toList := ⟨Try.f148, by kernel_rfl, by kernel_rfl, by kernel_rfl, by kernel_rfl, rfl, rfl⟩
theorem ok_149 : Ok Try.prog 149 (Try.f149.body.getD .skip) Try.f149.ntmps Try.f149.results.toList := ⟨Try.f149, by kernel_rfl, by kernel_rfl, by kernel_rfl, by kernel_rfl, rfl, rfl⟩
theorem ok_150 : Ok Try.prog 150 (Try.f150.body.getD .skip) Try.f150.ntmps Try.f150.results.toList := ⟨Try.f150, by kernel_rfl, by kernel_rfl, by kernel_rfl, by kernel_rfl, rfl, rfl⟩
theorem ok_151 : Ok Try.prog 151 (Try.f151.body.getD .skip) Try.f151.ntmps Try.f151.results.toList := ⟨Try.f151, by kernel_rfl, by kernel_rfl, by kernel_rfl, by kernel_rfl, rfl, rfl⟩
theorem ok_152 : Ok Try.prog 152 (Try.f152.body.getD .skip) Try.f152.ntmps Try.f152.results.toList := ⟨Try.f152, by kernel_rfl, by kernel_rfl, by kernel_rfl, by kernel_rfl, rfl, rfl⟩
theorem ok_153 : Ok Try.prog 153 (Try.f153.body.getD .skip) Try.f153.ntmps Try.f153.results.toList := ⟨Try.f153, by kernel_rfl, by kernel_rfl, by kernel_rfl, by kernel_rfl, rfl, rfl⟩
theorem ok_155 : Ok Try.prog 155 (Try.f155.body.getD .skip) Try.f155.ntmps Try.f155.results.toList := ⟨Try.f155, by kernel_rfl, by kernel_rfl, by kernel_rfl, by kernel_rfl, rfl, rfl⟩
theorem ok_156 : Ok Try.prog 156 (Try.f156.body.getD .skip) Try.f156.ntmps Try.f156.results.toList := ⟨Try.f156, by kernel_rfl, by kernel_rfl, by kernel_rfl, by kernel_rfl, rfl, rfl⟩
theorem ok_157 : Ok Try.prog 157 (Try.f157.body.getD .skip) Try.f157.ntmps Try.f157.results.toList := ⟨Try.f157, by kernel_rfl, by kernel_rfl, by kernel_rfl, by kernel_rfl, rfl, rfl⟩
theorem ok_158 : Ok Try.prog 158 (Try.f158.body.getD .skip) Try.f158.ntmps Try.f158.results.toList := ⟨Try.f158, by kernel_rfl, by kernel_rfl, by kernel_rfl, by kernel_rfl, rfl, rfl⟩
theorem ok_159 : Ok Try.prog 159 (Try.f159.body.getD .skip) Try.f159.ntmps Try.f159.results.toList := ⟨Try.f159, by kernel_rfl, by kernel_rfl, by kernel_rfl, by kernel_rfl, rfl, rfl⟩
theorem ok_160 : Ok Try.prog 160 (Try.f160.body.getD .skip) Try.f160.ntmps Try.f160.results.toList := ⟨Try.f160, by kernel_rfl, by kernel_rfl, by kernel_rfl, by kernel_rfl, rfl, rfl⟩
theorem ok_161 : Ok Try.prog 161 (Try.f161.body.getD .skip) Try.f161.ntmps Try.f161.results.toList := ⟨Try.f161, by kernel_rfl, by kernel_rfl, by kernel_rfl, by kernel_rfl, rfl, rfl⟩
theorem ok_162 : Ok Try.prog 162 (Try.f162.body.getD .skip) Try.f162.ntmps Try.f162.results.toList := ⟨Try.f162, by kernel_rfl, by kernel_rfl, by kernel_rfl, by kernel_rfl, rfl, rfl⟩
theorem ok_163 : Ok Try.prog 163 (Try.f163.body.getD .skip) Try.f163.ntmps Try.f163.results.toList := ⟨Try.f163, by kernel_rfl, by kernel_rfl, by kernel_rfl, by kernel_rfl, rfl, rfl⟩
theorem ok_166 : Ok Try.prog 166 (Try.f166.body.getD .skip) Try.f166.ntmps Try.f166.results.toList := ⟨Try.f166, by kernel_rfl, by kernel_rfl, by kernel_rfl, by kernel_rfl, rfl, rfl⟩
theorem ok_167 : Ok Try.prog 167 (Try.f167.body.getD .skip) Try.f167.ntmps Try.f167.results.toList := ⟨Try.f167, by kernel_rfl, by kernel_rfl, by kernel_rfl, by kernel_rfl, rfl, rfl⟩
theorem ok_168 : Ok Try.prog 168 (Try.f168.body.getD .skip) Try.f168.ntmps Try.f168.results.toList := ⟨Try.f168, by kernel_rfl, by kernel_rfl, by kernel_rfl, by kernel_rfl, rfl, rfl⟩
theorem ok_169 : Ok Try.prog 169 (Try.f169.body.getD .skip) Try.f169.ntmps Try.f169.results.toList := ⟨Try.f169, by kernel_rfl, by kernel_rfl, by kernel_rfl, by kernel_rfl, rfl, rfl⟩
theorem ok_170 : Ok Try.prog 170 (Try.f170.body.getD .skip) Try.f170.ntmps Try.f170.results.toList := ⟨Try.f170, by kernel_rfl, by kernel_rfl, by kernel_rfl, by kernel_rfl, rfl, rfl⟩
theorem ok_171 : Ok Try.prog 171 (Try.f171.body.getD .skip) Try.f171.ntmps Try.f171.results.toList := ⟨Try.f171, by kernel_rfl, by kernel_rfl, by kernel_rfl, by kernel_rfl, rfl, rfl⟩
theorem ok_172 : Ok Try.prog 172 (Try.f172.body.getD .skip) Try.f172.ntmps Try.f172.results.toList := ⟨Try.f172, by kernel_rfl, by kernel_rfl, by kernel_rfl, by kernel_rfl, rfl, rfl⟩
theorem ok_173 : Ok Try.prog 173 (Try.f173.body.getD .skip) Try.f173.ntmps Try.f173.results.toList := ⟨Try.f173, by kernel_rfl, by kernel_rfl, by kernel_rfl, by kernel_rfl, rfl, rfl⟩
theorem ok_174 : Ok Try.prog 174 (Try.f174.body.getD .skip) Try.f174.ntmps Try.f174.results.toList := ⟨Try.f174, by kernel_rfl, by kernel_rfl, by kernel_rfl, by kernel_rfl, rfl, rfl⟩
theorem ok_175 : Ok Try.prog 175 (Try.f175.body.getD .skip) Try.f175.ntmps Try.f175.results.toList := ⟨Try.f175, by kernel_rfl, by kernel_rfl, by kernel_rfl, by kernel_rfl, rfl, rfl⟩
theorem ok_176 : Ok Try.prog 176 (Try.f176.body.getD .skip) Try.f176.ntmps Try.f176.results.toList := ⟨Try.f176, by kernel_rfl, by kernel_rfl, by kernel_rfl, by kernel_rfl, rfl, rfl⟩
theorem ok_177 : Ok Try.prog 177 (Try.f177.body.getD .skip) Try.f177.ntmps Try.f177.results.toList := ⟨Try.f177, by kernel_rfl, by kernel_rfl, by kernel_rfl, by kernel_rfl, rfl, rfl⟩
theorem ok_178 : Ok Try.prog 178 (Try.f178.body.getD .skip) Try.f178.ntmps Try.f178.results.toList := ⟨Try.f178, by kernel_rfl, by kernel_rfl, by kernel_rfl, by kernel_rfl, rfl, rfl⟩
theorem ok_179 : Ok Try.prog 179 (Try.f179.body.getD .skip) Try.f179.ntmps Try.f179.results.toList := ⟨Try.f179, by kernel_rfl, by kernel_rfl, by kernel_rfl, by kernel_rfl, rfl, rfl⟩
theorem ok_180 : Ok Try.prog 180 (Try.f180.body.getD .skip) Try.f180.ntmps Try.f180.results.toList := ⟨Try.f180, by kernel_rfl, by kernel_rfl, by kernel_rfl, by kernel_rfl, rfl, rfl⟩
theorem ok_181 : Ok Try.prog 181 (Try.f181.body.getD .skip) Try.f181.ntmps Try.f181.results.toList := ⟨Try.f181, by kernel_rfl, by kernel_rfl, by kernel_rfl, by kernel_rfl, rfl, rfl⟩
theorem ok_182 : Ok Try.prog 182 (Try.f182.body.getD .skip) Try.f182.ntmps Try.f182.results.toList := ⟨Try.f182, by kernel_rfl, by kernel_rfl, by kernel_rfl, by kernel_rfl, rfl, rfl⟩
theorem ok_187 : Ok Try.prog 187 (Try.f187.body.getD .skip) Try.f187.ntmps Try.f187.results.toList := ⟨Try.f187, by kernel_rfl, by kernel_rfl, by kernel_rfl, by kernel_rfl, rfl, rfl⟩
theorem ok_188 : Ok Try.prog 188 (Try.f188.body.getD .skip) Try.f188.ntmps Try.f188.results.toList := ⟨Try.f188, by kernel_rfl, by kernel_rfl, by kernel_rfl, by kernel_rfl, rfl, rfl⟩
theorem ok_189 : Ok Try.prog 189 (Try.f189.body.getD .skip) Try.f189.ntmps Try.f189.results.toList := ⟨Try.f189, by kernel_rfl, by kernel_rfl, by kernel_rfl, by kernel_rfl, rfl, rfl⟩
theorem ok_190 : Ok Try.prog 190 (Try.f190.body.getD .skip) Try.f190.ntmps Try.f190.results.toList := ⟨Try.f190, by kernel_rfl, by kernel_rfl, by kernel_rfl, by kernel_rfl, rfl, rfl⟩
theorem ok_191 : Ok Try.prog 191 (Try.f191.body.getD .skip) Try.f191.ntmps Try.f191.results.toList := ⟨Try.f191, by kernel_rfl, by kernel_rfl, by kernel_rfl, by kernel_rfl, rfl, rfl⟩
end Go.Am
end
