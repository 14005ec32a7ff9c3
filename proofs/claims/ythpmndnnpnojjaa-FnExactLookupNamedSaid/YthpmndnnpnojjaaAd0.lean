/- The data. -/
import Derived.Test.YthpmndnnpnojjaaAm5
import Derived.Test.YthpmndnnpnojjaaProg
section
set_option maxRecDepth 100000
set_option linter.unusedVariables false
set_option linter.unusedSimpArgs false
namespace Go.Am
open Go.Proofs
structure DPattern where
 Kind : Int
 Num : Int
 Text : ByteArray
 Kids : (Sl DPattern)
mutual
def DPattern.cells : DPattern → List T
 | ⟨f0, f1, f2, ⟨z3, l3⟩⟩ => [i4 f0, i4 f1, .str f2, .row z3 l3.length (DPattern.cellsK l3)]
def DPattern.cellsK : List DPattern → List T
 | [] => []
 | p :: l => p.cells ++ DPattern.cellsK l
end
theorem DPattern.len (p : DPattern) : p.cells.length = 4 := by
 obtain ⟨f0, f1, f2, ⟨z3, l3⟩⟩ := p; simp [DPattern.cells]
theorem DPattern.one (p : DPattern) : p.cells.all T.one = true := by
 obtain ⟨f0, f1, f2, ⟨z3, l3⟩⟩ := p; simp [DPattern.cells]
mutual
theorem DPattern.pure : ∀ p : DPattern, pureL p.cells = true
 | ⟨f0, f1, f2, ⟨z3, l3⟩⟩ => by simp [DPattern.cells, pureL, pureT, DPattern.pureK l3]
theorem DPattern.pureK : ∀ l : List DPattern, pureL (DPattern.cellsK l) = true
 | [] => by simp [DPattern.cellsK, pureL]
 | p :: l => by simp [DPattern.cellsK, pureL_append, p.pure, DPattern.pureK l]
end
mutual
theorem DPattern.inj : ∀ p q : DPattern, p.cells = q.cells → p = q
 | ⟨f0, f1, f2, ⟨z3, l3⟩⟩, ⟨f0', f1', f2', ⟨z3', l3'⟩⟩, h => by
  simp only [DPattern.cells, List.cons.injEq, and_true, T.int.injEq, T.str.injEq, T.bool.injEq, T.row.injEq, true_and, Sl.inj_iff] at h
  have hk : l3 = l3' := DPattern.injK l3 l3' (by simp_all) (by simp_all)
  simp_all
theorem DPattern.injK : ∀ l l' : List DPattern, l.length = l'.length → DPattern.cellsK l = DPattern.cellsK l' → l = l'
 | [], [], _, _ => rfl
 | [], _ :: _, h, _ => by simp at h
 | _ :: _, [], h, _ => by simp at h
 | p :: l, p' :: l', h, k => by
  simp only [DPattern.cellsK] at k
  have e := List.append_inj k (by rw [DPattern.len, DPattern.len])
  rw [DPattern.inj p p' e.1, DPattern.injK l l' (by simpa using h) e.2]
end
instance : Enc DPattern := ⟨DPattern.cells, 4, DPattern.len, DPattern.one, DPattern.pure, DPattern.inj⟩
theorem DPattern.cellsK_eq : ∀ l : List DPattern, DPattern.cellsK l = an_ l
 | [] => rfl
 | p :: l => by simp only [DPattern.cellsK, an_, DPattern.cellsK_eq l]; rfl
theorem DPattern.cells_eq (p : DPattern) : p.cells = [i4 p.Kind, i4 p.Num, .str p.Text, p.Kids.t] := by
 obtain ⟨f0, f1, f2, ⟨z3, l3⟩⟩ := p; simp only [DPattern.cells, DPattern.cellsK_eq]; rfl
theorem DPattern.enc_eq (p : DPattern) : Enc.cells p = [i4 p.Kind, i4 p.Num, .str p.Text, p.Kids.t] := DPattern.cells_eq p
theorem DPattern.inj_agg : ∀ p q : DPattern, T.agg [i4 p.Kind, i4 p.Num, .str p.Text, p.Kids.t] = T.agg [i4 q.Kind, i4 q.Num, .str q.Text, q.Kids.t] → p = q := fun p q h => DPattern.inj p q (by injection h with h; rw [DPattern.cells_eq, DPattern.cells_eq]; exact h)
structure ad_ where
 Name : ByteArray
 Pattern : DPattern
def ad_.cells (x : ad_) : List T := [.str x.Name, i4 x.Pattern.Kind, i4 x.Pattern.Num, .str x.Pattern.Text, x.Pattern.Kids.t]
instance : Enc ad_ := ⟨ad_.cells, 5, fun _ => rfl, fun _ => rfl, fun x => by simp [ad_.cells, pureL, pureT], fun a b h => by
 rcases a with ⟨_, ⟨_, _, _, _⟩⟩; rcases b with ⟨_, ⟨_, _, _, _⟩⟩; simp [ad_.cells] at h; simp_all⟩
instance : Hld false ad_ := ⟨fun a σ d => by show frzL (hold false σ d) (ad_.cells a) = some (ad_.cells a, []); simp [ad_.cells, frzL]⟩
structure bf_ where
 Name : ByteArray
 Text : ByteArray
 Cursor : Int
 Kind : Int
def bf_.cells (x : bf_) : List T := [.str x.Name, .str x.Text, i4 x.Cursor, i4 x.Kind]
instance : Enc bf_ := ⟨bf_.cells, 4, fun _ => rfl, fun _ => rfl, fun x => by simp [bf_.cells, pureL, pureT], fun a b h => by
 rcases a with ⟨_, _, _, _⟩; rcases b with ⟨_, _, _, _⟩; simp [bf_.cells] at h; simp_all⟩
instance (z : Bool) : Hld z bf_ := ⟨fun a σ d => by show frzL (hold z σ d) (bf_.cells a) = some (bf_.cells a, []); simp [bf_.cells, frzL]⟩
structure dX_ where
 Start : Int
 End : Int
 Captures : (Sl bf_)
def dX_.cells (x : dX_) : List T := [i4 x.Start, i4 x.End, x.Captures.t]
instance : Enc dX_ := ⟨dX_.cells, 3, fun _ => rfl, fun _ => rfl, fun x => by simp [dX_.cells, pureL, pureT], fun a b h => by
 rcases a with ⟨_, _, _⟩; rcases b with ⟨_, _, _⟩; simp [dX_.cells] at h; simp_all⟩
instance : Hld false dX_ := ⟨fun a σ d => by show frzL (hold false σ d) (dX_.cells a) = some (dX_.cells a, []); simp [dX_.cells, frzL]⟩
structure do_ where
 code_ : (Sl (Iv .u8))
 at_ : Int
 seed_ : Int
def do_.cells (x : do_) : List T := [x.code_.t, i4 x.at_, .int .u64 x.seed_]
instance : Enc do_ := ⟨do_.cells, 3, fun _ => rfl, fun _ => rfl, fun x => by simp [do_.cells, pureL, pureT], fun a b h => by
 rcases a with ⟨_, _, _⟩; rcases b with ⟨_, _, _⟩; simp [do_.cells] at h; simp_all⟩
instance : Hld false do_ := ⟨fun a σ d => by show frzL (hold false σ d) (do_.cells a) = some (do_.cells a, []); simp [do_.cells, frzL]⟩
structure bW_ where
 p_ : DPattern
 c_ : Int
 next_ : Int
def bW_.cells (x : bW_) : List T := [i4 x.p_.Kind, i4 x.p_.Num, .str x.p_.Text, x.p_.Kids.t, i4 x.c_, i4 x.next_]
instance : Enc bW_ := ⟨bW_.cells, 6, fun _ => rfl, fun _ => rfl, fun x => by simp [bW_.cells, pureL, pureT], fun a b h => by
 rcases a with ⟨⟨_, _, _, _⟩, _, _⟩; rcases b with ⟨⟨_, _, _, _⟩, _, _⟩; simp [bW_.cells] at h; simp_all⟩
instance : Hld false bW_ := ⟨fun a σ d => by show frzL (hold false σ d) (bW_.cells a) = some (bW_.cells a, []); simp [bW_.cells, frzL]⟩
structure dh_ where
 env_ : (Sl ad_)
 s_ : ByteArray
 fuel_ : Int
 mode_ : Int
 steps_ : Int
 conts_ : (Sl bW_)
 out_ : (Sl dX_)
 now_ : (Sl bf_)
 conds_ : (Sl bf_)
 full_ : Bool
 abort_ : Bool
 stop_ : Bool
 code_ : Int
def dh_.cells (x : dh_) : List T := [x.env_.t, .str x.s_, i4 x.fuel_, i4 x.mode_, i4 x.steps_, x.conts_.t, x.out_.t, x.now_.t, x.conds_.t, .bool x.full_, .bool x.abort_, .bool x.stop_, i4 x.code_]
instance : Enc dh_ := ⟨dh_.cells, 13, fun _ => rfl, fun _ => rfl, fun x => by simp [dh_.cells, pureL, pureT], fun a b h => by
 rcases a with ⟨_, _, _, _, _, _, _, _, _, _, _, _, _⟩; rcases b with ⟨_, _, _, _, _, _, _, _, _, _, _, _, _⟩; simp [dh_.cells] at h; simp_all⟩
instance : Hld false dh_ := ⟨fun a σ d => by show frzL (hold false σ d) (dh_.cells a) = some (dh_.cells a, []); simp [dh_.cells, frzL]⟩
structure ku_ where
 env_ : (Sl ad_)
 subject_ : ByteArray
 fuel_ : Int
 steps_ : Int
 start_ : Int
 now_ : (Sl bf_)
 conds_ : (Sl bf_)
 matches_ : (Sl dX_)
 most_ : Int
 isMere_ : Bool
 counts_ : T
 code_ : Int
def ku_.cells (x : ku_) : List T := [x.env_.t, .str x.subject_, i4 x.fuel_, i4 x.steps_, i4 x.start_, x.now_.t, x.conds_.t, x.matches_.t, i4 x.most_, .bool x.isMere_, x.counts_, i4 x.code_]
structure iT_ where
 addr_ : T
 buf_ : (Sl (Iv .u8))
def iT_.cells (x : iT_) : List T := [x.addr_, x.buf_.t]
def md : Nat → Md := fun f => bif [17, 27, 28, 29, 33, 39, 43, 44, 59, 68, 69, 72, 75, 81, 86, 91, 101, 123, 124, 156].elem f then .own else bif [21, 22, 31, 46, 74, 76, 77, 92, 93, 94, 96, 100, 110, 111, 115, 116, 117, 119, 120, 126, 127, 128, 129, 130, 143, 144, 146, 147, 149, 151, 152, 153, 154, 165, 167, 168, 169, 170, 174, 176].elem f then .raw else .view
def ext : Ext := fun _ => none
def bigN : Nat := 100000000000
theorem len1 {hs : List T} (h : hs.length = 1) : ∃ a0, hs = [a0] := by
 rcases hs with _ | ⟨a0, _ | ⟨x, l⟩⟩ <;> simp at h
 exact ⟨a0, rfl⟩
def E_bool : Bool → T := fun y => .bool y
theorem E_bool_inj : ∀ a b, E_bool a = E_bool b → a = b := inj_bool
def E_i64 : Int → T := fun y => i4 y
theorem E_i64_inj : ∀ a b, E_i64 a = E_i64 b → a = b := kp_
def E_t2_DPattern_bool : (DPattern × Bool) → T := fun y => .tup [.agg [i4 y.1.Kind, i4 y.1.Num, .str y.1.Text, y.1.Kids.t], .bool y.2]
theorem E_t2_DPattern_bool_inj : ∀ a b, E_t2_DPattern_bool a = E_t2_DPattern_bool b → a = b := j8_ DPattern.inj_agg inj_bool
def E_sl_DPattern : (Sl DPattern) → T := fun y => y.t
theorem E_sl_DPattern_inj : ∀ a b, E_sl_DPattern a = E_sl_DPattern b → a = b := le_
def E_sl_DNamed : (Sl ad_) → T := fun y => y.t
theorem E_sl_DNamed_inj : ∀ a b, E_sl_DNamed a = E_sl_DNamed b → a = b := le_
def E_DPattern : DPattern → T := fun y => .agg [i4 y.Kind, i4 y.Num, .str y.Text, y.Kids.t]
theorem E_DPattern_inj : ∀ a b, E_DPattern a = E_DPattern b → a = b := DPattern.inj_agg
def E_str : ByteArray → T := fun y => .str y
theorem E_str_inj : ∀ a b, E_str a = E_str b → a = b := inj_str
noncomputable def Sh_t2_DPattern_bool : ep_ (DPattern × Bool) := ⟨1, fun hs y => match hs with | [h1] => .tup [.agg [i4 y.1.Kind, i4 y.1.Num, .str y.1.Text, h1], .bool y.2] | _ => .tup [], fun hs y => match hs with | [h1] => [.own true 4 h1 (Sl.t (y.1.Kids : Sl DPattern))] | _ => [], E_t2_DPattern_bool, fun hs y h => by
 obtain ⟨h1, rfl⟩ := len1 h
 exact (HL.tup (es1 := [.own true 4 h1 (Sl.t (y.1.Kids : Sl DPattern))]) (es2 := []) (HL.agg (es1 := [.own true 4 h1 (Sl.t (y.1.Kids : Sl DPattern))]) (es2 := []) (HL.leaf (fun σ d => by simp) (HL.leaf (fun σ d => by simp) (HL.leaf (fun σ d => by simp) (HL.own rfl HL.nil)))) (HL.leaf (fun σ d => by simp) HL.nil)) HL.nil), E_t2_DPattern_bool_inj⟩
def E_DNamed : ad_ → T := fun y => .agg (ad_.cells y)
theorem E_DNamed_inj : ∀ a b, E_DNamed a = E_DNamed b → a = b := inj_agg
noncomputable def Sh_DPattern : ep_ DPattern := ⟨1, fun hs y => match hs with | [h1] => .agg [i4 y.Kind, i4 y.Num, .str y.Text, h1] | _ => .tup [], fun hs y => match hs with | [h1] => [.own true 4 h1 (Sl.t (y.Kids : Sl DPattern))] | _ => [], E_DPattern, fun hs y h => by
 obtain ⟨h1, rfl⟩ := len1 h
 exact (HL.agg (es1 := [.own true 4 h1 (Sl.t (y.Kids : Sl DPattern))]) (es2 := []) (HL.leaf (fun σ d => by simp) (HL.leaf (fun σ d => by simp) (HL.leaf (fun σ d => by simp) (HL.own rfl HL.nil)))) HL.nil), E_DPattern_inj⟩
noncomputable def Sh_sl_DNamed : ep_ (Sl ad_) := ⟨1, fun hs y => match hs with | [h1] => h1 | _ => .tup [], fun hs y => match hs with | [h1] => [.own true 5 h1 (Sl.t (y : Sl ad_))] | _ => [], E_sl_DNamed, fun hs y h => by
 obtain ⟨h1, rfl⟩ := len1 h
 exact (HL.own rfl HL.nil), E_sl_DNamed_inj⟩
def E_t2_i64_str : (Int × ByteArray) → T := fun y => .tup [i4 y.1, .str y.2]
theorem E_t2_i64_str_inj : ∀ a b, E_t2_i64_str a = E_t2_i64_str b → a = b := j8_ kp_ inj_str
def E_t2_str_str : (ByteArray × ByteArray) → T := fun y => .tup [.str y.1, .str y.2]
theorem E_t2_str_str_inj : ∀ a b, E_t2_str_str a = E_t2_str_str b → a = b := j8_ inj_str inj_str
noncomputable def Sh_sl_DPattern : ep_ (Sl DPattern) := ⟨1, fun hs y => match hs with | [h1] => h1 | _ => .tup [], fun hs y => match hs with | [h1] => [.own true 4 h1 (Sl.t (y : Sl DPattern))] | _ => [], E_sl_DPattern, fun hs y h => by
 obtain ⟨h1, rfl⟩ := len1 h
 exact (HL.own rfl HL.nil), E_sl_DPattern_inj⟩
noncomputable def Sh_DNamed : ep_ ad_ := ⟨1, fun hs y => match hs with | [h1] => .agg [.str y.Name, i4 y.Pattern.Kind, i4 y.Pattern.Num, .str y.Pattern.Text, h1] | _ => .tup [], fun hs y => match hs with | [h1] => [.own true 4 h1 (Sl.t (y.Pattern.Kids : Sl DPattern))] | _ => [], E_DNamed, fun hs y h => by
 obtain ⟨h1, rfl⟩ := len1 h
 exact (HL.agg (es1 := [.own true 4 h1 (Sl.t (y.Pattern.Kids : Sl DPattern))]) (es2 := []) (HL.leaf (fun σ d => by simp) (HL.leaf (fun σ d => by simp) (HL.leaf (fun σ d => by simp) (HL.leaf (fun σ d => by simp) (HL.own rfl HL.nil))))) HL.nil), E_DNamed_inj⟩
noncomputable def bE_ (a0 : (Sl ad_)) (a1 : ByteArray) : Option Bool := semV Try.prog md ext E_bool 5 [(a0.t), (.str a1)]
noncomputable def cd_ (a0 : (Sl DPattern)) (a1 : Int) : Option Int := semV Try.prog md ext E_i64 15 [(a0.t), (i4 a1)]
noncomputable def cg_ (a0 : (Sl DPattern)) : Option (Sl DPattern) := semO Try.prog md ext Sh_sl_DPattern 17 [(a0.t)]
noncomputable def aL_ (a0 : DPattern) (a1 : DPattern) : Option Bool := semV Try.prog md ext E_bool 19 [(.agg [i4 a0.Kind, i4 a0.Num, .str a0.Text, a0.Kids.t]), (.agg [i4 a1.Kind, i4 a1.Num, .str a1.Text, a1.Kids.t])]
noncomputable def cc_ (a0 : (Sl DPattern)) (a1 : (Sl DPattern)) : Option Bool := semV Try.prog md ext E_bool 20 [(a0.t), (a1.t)]
noncomputable def bq_ (a0 : DPattern) (a1 : Int) : Option Int := semV Try.prog md ext E_i64 23 [(.agg [i4 a0.Kind, i4 a0.Num, .str a0.Text, a0.Kids.t]), (i4 a1)]
noncomputable def cN_ (a0 : (Sl ad_)) (a1 : Int) : Option Int := semV Try.prog md ext E_i64 26 [(a0.t), (i4 a1)]
noncomputable def b7_ (a0 : (Sl ad_)) (a1 : ByteArray) : Option (DPattern × Bool) := semO Try.prog md ext Sh_t2_DPattern_bool 27 [(a0.t), (.str a1)]
noncomputable def a9_ (a0 : (Sl ad_)) : Option (Sl ad_) := semO Try.prog md ext Sh_sl_DNamed 28 [(a0.t)]
noncomputable def bs_ (a0 : (Sl ad_)) (a1 : ByteArray) : Option (DPattern × Bool) := semO Try.prog md ext Sh_t2_DPattern_bool 29 [(a0.t), (.str a1)]
noncomputable def c4_ (a0 : (Sl ad_)) (a1 : (Sl ad_)) : Option Bool := semV Try.prog md ext E_bool 30 [(a0.t), (a1.t)]
noncomputable def a3_ (a0 : DPattern) (a1 : Int) : Option Int := semV Try.prog md ext E_i64 37 [(.agg [i4 a0.Kind, i4 a0.Num, .str a0.Text, a0.Kids.t]), (i4 a1)]
noncomputable def bi_ (a0 : DPattern) : Option DPattern := semO Try.prog md ext Sh_DPattern 39 [(.agg [i4 a0.Kind, i4 a0.Num, .str a0.Text, a0.Kids.t])]
noncomputable def aE_ (a0 : Int) : Option ByteArray := semV Try.prog md ext E_str 63 [(i4 a0)]
noncomputable def aN_ (a0 : (Sl DPattern)) (a1 : Int) : Option Int := semV Try.prog md ext E_i64 64 [(a0.t), (i4 a1)]
noncomputable def bn_ (a0 : ad_) (a1 : Int) : Option Int := semV Try.prog md ext E_i64 65 [(.agg (ad_.cells a0)), (i4 a1)]
noncomputable def cr_ (a0 : (Sl ad_)) (a1 : ByteArray) : Option Int := semV Try.prog md ext E_i64 66 [(a0.t), (.str a1)]
noncomputable def c0_ (a0 : (Sl ad_)) : Option Bool := semV Try.prog md ext E_bool 67 [(a0.t)]
noncomputable def aW_ (a0 : DPattern) : Option DPattern := semO Try.prog md ext Sh_DPattern 68 [(.agg [i4 a0.Kind, i4 a0.Num, .str a0.Text, a0.Kids.t])]
noncomputable def dt_ (a0 : ad_) : Option ad_ := semO Try.prog md ext Sh_DNamed 69 [(.agg (ad_.cells a0))]
noncomputable def b1_ (a0 : (Sl ad_)) (a1 : ByteArray) : Option (DPattern × Bool) := semV Try.prog md ext E_t2_DPattern_bool 70 [(a0.t), (.str a1)]
noncomputable def cP_ (a0 : (Sl ad_)) : Option Bool := semV Try.prog md ext E_bool 71 [(a0.t)]
noncomputable def a5_ (a0 : DPattern) : Option DPattern := semO Try.prog md ext Sh_DPattern 72 [(.agg [i4 a0.Kind, i4 a0.Num, .str a0.Text, a0.Kids.t])]
noncomputable def di_ (a0 : ad_) (a1 : ad_) : Option Bool := semV Try.prog md ext E_bool 73 [(.agg (ad_.cells a0)), (.agg (ad_.cells a1))]
noncomputable def bN_ (a0 : DPattern) : Option Bool := semV Try.prog md ext E_bool 78 [(.agg [i4 a0.Kind, i4 a0.Num, .str a0.Text, a0.Kids.t])]
noncomputable def c9_ (a0 : Int) (a1 : Int) (a2 : Int) : Option Bool := semV Try.prog md ext E_bool 85 [(i4 a0), (i4 a1), (i4 a2)]
noncomputable def bh_ (a0 : Int) (a1 : Int) (a2 : Int) : Option Bool := semV Try.prog md ext E_bool 90 [(i4 a0), (i4 a1), (i4 a2)]
noncomputable def cq_ (a0 : ByteArray) : Option Bool := semV Try.prog md ext E_bool 95 [(.str a0)]
noncomputable def aH_ (a0 : DPattern) (a1 : Int) : Option Int := semV Try.prog md ext E_i64 105 [(.agg [i4 a0.Kind, i4 a0.Num, .str a0.Text, a0.Kids.t]), (i4 a1)]
noncomputable def cK_ (a0 : ByteArray) : Option Bool := semV Try.prog md ext E_bool 108 [(.str a0)]
noncomputable def bQ_ (a0 : DPattern) : Option Bool := semV Try.prog md ext E_bool 109 [(.agg [i4 a0.Kind, i4 a0.Num, .str a0.Text, a0.Kids.t])]
noncomputable def bP_ (a0 : (Sl ad_)) (a1 : T) : Option Bool := semV Try.prog md ext E_bool 112 [(a0.t), (a1)]
noncomputable def cm_ (a0 : ad_) : Option Bool := semV Try.prog md ext E_bool 113 [(.agg (ad_.cells a0))]
noncomputable def cM_ (a0 : ByteArray) : Option Bool := semV Try.prog md ext E_bool 114 [(.str a0)]
noncomputable def cu_ (a0 : Int) : Option (Int × ByteArray) := semV Try.prog md ext E_t2_i64_str 118 [(i4 a0)]
noncomputable def az_ (a0 : DPattern) (a1 : Int) : Option Int := semV Try.prog md ext E_i64 121 [(.agg [i4 a0.Kind, i4 a0.Num, .str a0.Text, a0.Kids.t]), (i4 a1)]
noncomputable def dr_ (a0 : DPattern) : Option Bool := semV Try.prog md ext E_bool 133 [(.agg [i4 a0.Kind, i4 a0.Num, .str a0.Text, a0.Kids.t])]
noncomputable def cb_ (a0 : ByteArray) (a1 : Int) : Option Int := semV Try.prog md ext E_i64 135 [(.str a0), (i4 a1)]
noncomputable def b2_ (a0 : Int) : Option Bool := semV Try.prog md ext E_bool 136 [(.int .u8 a0)]
noncomputable def db_ (a0 : (Sl (Iv .u8))) (a1 : T) : Option Bool := semV Try.prog md ext E_bool 137 [(a0.t), (a1)]
noncomputable def cn_ (a0 : Int) : Option Bool := semV Try.prog md ext E_bool 138 [(.int .u8 a0)]
noncomputable def eu_ (a0 : Int) : Option (ByteArray × ByteArray) := semV Try.prog md ext E_t2_str_str 139 [(i4 a0)]
noncomputable def cp_ (a0 : Int) (a1 : Int) (a2 : ByteArray) : Option Bool := semV Try.prog md ext E_bool 140 [(i4 a0), (i4 a1), (.str a2)]
noncomputable def dH_ (a0 : Int) : Option Int := semV Try.prog md ext E_i64 141 [(i4 a0)]
noncomputable def bj_ (a0 : Int) : Option Bool := semV Try.prog md ext E_bool 158 [(.int .u8 a0)]
noncomputable def bZ_ (a0 : Int) : Option Bool := semV Try.prog md ext E_bool 159 [(.int .u8 a0)]
noncomputable def dj_ (a0 : Int) : Option Bool := semV Try.prog md ext E_bool 160 [(.int .u8 a0)]
noncomputable def dK_ (a0 : Int) : Option Bool := semV Try.prog md ext E_bool 161 [(i4 a0)]
noncomputable def cG_ (a0 : Int) : Option Bool := semV Try.prog md ext E_bool 162 [(i4 a0)]
noncomputable def dn_ (a0 : Int) : Option Bool := semV Try.prog md ext E_bool 163 [(i4 a0)]
noncomputable def bD_ (a0 : Int) : Option Bool := semV Try.prog md ext E_bool 164 [(i4 a0)]
theorem ok_5 : Ok Try.prog 5 (Try.f5.body.getD .skip) Try.f5.ntmps Try.f5.results.toList := ⟨Try.f5, by kernel_rfl, by kernel_rfl, by kernel_rfl, by kernel_rfl, rfl, rfl⟩
theorem ok_15 : Ok Try.prog 15 (Try.f15.body.getD .skip) Try.f15.ntmps Try.f15.results.toList := ⟨Try.f15, by kernel_rfl, by kernel_rfl, by kernel_rfl, by kernel_rfl, rfl, rfl⟩
theorem ok_17 : Ok Try.prog 17 (Try.f17.body.getD .skip) Try.f17.ntmps Try.f17.results.toList := ⟨Try.f17, by kernel_rfl, by kernel_rfl, by kernel_rfl, by kernel_rfl, rfl, rfl⟩
theorem ok_19 : Ok Try.prog 19 (Try.f19.body.getD .skip) Try.f19.ntmps Try.f19.results.toList := ⟨Try.f19, by kernel_rfl, by kernel_rfl, by kernel_rfl, by kernel_rfl, rfl, rfl⟩
theorem ok_20 : Ok Try.prog 20 (Try.f20.body.getD .skip) Try.f20.ntmps Try.f20.results.toList := ⟨Try.f20, by kernel_rfl, by kernel_rfl, by kernel_rfl, by kernel_rfl, rfl, rfl⟩
theorem ok_21 : Ok Try.prog 21 (Try.f21.body.getD .skip) Try.f21.ntmps Try.f21.results.toList := ⟨Try.f21, by kernel_rfl, by kernel_rfl, by kernel_rfl, by kernel_rfl, rfl, rfl⟩
theorem ok_22 : Ok Try.prog 22 (Try.f22.body.getD .skip) Try.f22.ntmps Try.f22.results.toList := ⟨Try.f22, by kernel_rfl, by kernel_rfl, by kernel_rfl, by kernel_rfl, rfl, rfl⟩
theorem ok_23 : Ok Try.prog 23 (Try.f23.body.getD .skip) Try.f23.ntmps Try.f23.results.toList := ⟨Try.f23, by kernel_rfl, by kernel_rfl, by kernel_rfl, by kernel_rfl, rfl, rfl⟩
theorem ok_26 : Ok Try.prog 26 (Try.f26.body.getD .skip) Try.f26.ntmps Try.f26.results.toList := ⟨Try.f26, by kernel_rfl, by kernel_rfl, by kernel_rfl, by kernel_rfl, rfl, rfl⟩
theorem ok_27 : Ok Try.prog 27 (Try.f27.body.getD .skip) Try.f27.ntmps Try.f27.results.toList := ⟨Try.f27, by kernel_rfl, by kernel_rfl, by kernel_rfl, by kernel_rfl, rfl, rfl⟩
theorem ok_28 : Ok Try.prog 28 (Try.f28.body.getD .skip) Try.f28.ntmps Try.f28.results.toList := ⟨Try.f28, by kernel_rfl, by kernel_rfl, by kernel_rfl, by kernel_rfl, rfl, rfl⟩
theorem ok_29 : Ok Try.prog 29 (Try.f29.body.getD .skip) Try.f29.ntmps Try.f29.results.toList := ⟨Try.f29, by kernel_rfl, by kernel_rfl, by kernel_rfl, by kernel_rfl, rfl, rfl⟩
theorem ok_30 : Ok Try.prog 30 (Try.f30.body.getD .skip) Try.f30.ntmps Try.f30.results.toList := ⟨Try.f30, by kernel_rfl, by kernel_rfl, by kernel_rfl, by kernel_rfl, rfl, rfl⟩
theorem ok_31 : Ok Try.prog 31 (Try.f31.body.getD .skip) Try.f31.ntmps Try.f31.results.toList := ⟨Try.f31, by kernel_rfl, by kernel_rfl, by kernel_rfl, by kernel_rfl, rfl, rfl⟩
theorem ok_37 : Ok Try.prog 37 (Try.f37.body.getD .skip) Try.f37.ntmps Try.f37.results.toList := ⟨Try.f37, by kernel_rfl, by kernel_rfl, by kernel_rfl, by kernel_rfl, rfl, rfl⟩
theorem ok_39 : Ok Try.prog 39 (Try.f39.body.getD .skip) Try.f39.ntmps Try.f39.results.toList := ⟨Try.f39, by kernel_rfl, by kernel_rfl, by kernel_rfl, by kernel_rfl, rfl, rfl⟩
theorem ok_63 : Ok Try.prog 63 (Try.f63.body.getD .skip) Try.f63.ntmps Try.f63.results.toList := ⟨Try.f63, by kernel_rfl, by kernel_rfl, by kernel_rfl, by kernel_rfl, rfl, rfl⟩
theorem ok_64 : Ok Try.prog 64 (Try.f64.body.getD .skip) Try.f64.ntmps Try.f64.results.toList := ⟨Try.f64, by kernel_rfl, by kernel_rfl, by kernel_rfl, by kernel_rfl, rfl, rfl⟩
theorem ok_65 : Ok Try.prog 65 (Try.f65.body.getD .skip) Try.f65.ntmps Try.f65.results.toList := ⟨Try.f65, by kernel_rfl, by kernel_rfl, by kernel_rfl, by kernel_rfl, rfl, rfl⟩
theorem ok_66 : Ok Try.prog 66 (Try.f66.body.getD .skip) Try.f66.ntmps Try.f66.results.toList := ⟨Try.f66, by kernel_rfl, by kernel_rfl, by kernel_rfl, by kernel_rfl, rfl, rfl⟩
theorem ok_67 : Ok Try.prog 67 (Try.f67.body.getD .skip) Try.f67.ntmps Try.f67.results.toList := ⟨Try.f67, by kernel_rfl, by kernel_rfl, by kernel_rfl, by kernel_rfl, rfl, rfl⟩
theorem ok_68 : Ok Try.prog 68 (Try.f68.body.getD .skip) Try.f68.ntmps Try.f68.results.toList := ⟨Try.f68, by kernel_rfl, by kernel_rfl, by kernel_rfl, by kernel_rfl, rfl, rfl⟩
theorem ok_69 : Ok Try.prog 69 (Try.f69.body.getD .skip) Try.f69.ntmps Try.f69.results.toList := ⟨Try.f69, by kernel_rfl, by kernel_rfl, by kernel_rfl, by kernel_rfl, rfl, rfl⟩
theorem ok_70 : Ok Try.prog 70 (Try.f70.body.getD .skip) Try.f70.ntmps Try.f70.results.toList := ⟨Try.f70, by kernel_rfl, by kernel_rfl, by kernel_rfl, by kernel_rfl, rfl, rfl⟩
theorem ok_71 : Ok Try.prog 71 (Try.f71.body.getD .skip) Try.f71.ntmps Try.f71.results.toList := ⟨Try.f71, by kernel_rfl, by kernel_rfl, by kernel_rfl, by kernel_rfl, rfl, rfl⟩
theorem ok_72 : Ok Try.prog 72 (Try.f72.body.getD .skip) Try.f72.ntmps Try.f72.results.toList := ⟨Try.f72, by kernel_rfl, by kernel_rfl, by kernel_rfl, by kernel_rfl, rfl, rfl⟩
theorem ok_73 : Ok Try.prog 73 (Try.f73.body.getD .skip) Try.f73.ntmps Try.f73.results.toList := ⟨Try.f73, by kernel_rfl, by kernel_rfl, by kernel_rfl, by kernel_rfl, rfl, rfl⟩
theorem ok_78 : Ok Try.prog 78 (Try.f78.body.getD .skip) Try.f78.ntmps Try.f78.results.toList := ⟨Try.f78, by kernel_rfl, by kernel_rfl, by kernel_rfl, by kernel_rfl, rfl, rfl⟩
theorem ok_85 : Ok Try.prog 85 (Try.f85.body.getD .skip) Try.f85.ntmps Try.f85.results.toList := ⟨Try.f85, by kernel_rfl, by kernel_rfl, by kernel_rfl, by kernel_rfl, rfl, rfl⟩
theorem ok_90 : Ok Try.prog 90 (Try.f90.body.getD .skip) Try.f90.ntmps Try.f90.results.toList := ⟨Try.f90, by kernel_rfl, by kernel_rfl, by kernel_rfl, by kernel_rfl, rfl, rfl⟩
theorem ok_95 : Ok Try.prog 95 (Try.f95.body.getD .skip) Try.f95.ntmps Try.f95.results.toList := ⟨Try.f95, by kernel_rfl, by kernel_rfl, by kernel_rfl, by kernel_rfl, rfl, rfl⟩
theorem ok_105 : Ok Try.prog 105 (Try.f105.body.getD .skip) Try.f105.ntmps Try.f105.results.toList := ⟨Try.f105, by kernel_rfl, by kernel_rfl, by kernel_rfl, by kernel_rfl, rfl, rfl⟩
theorem ok_108 : Ok Try.prog 108 (Try.f108.body.getD .skip) Try.f108.ntmps Try.f108.results.toList := ⟨Try.f108, by kernel_rfl, by kernel_rfl, by kernel_rfl, by kernel_rfl, rfl, rfl⟩
theorem ok_109 : Ok Try.prog 109 (Try.f109.body.getD .skip) Try.f109.ntmps Try.f109.results.toList := ⟨Try.f109, by kernel_rfl, by kernel_rfl, by kernel_rfl, by kernel_rfl, rfl, rfl⟩
theorem ok_110 : Ok Try.prog 110 (Try.f110.body.getD .skip) Try.f110.ntmps Try.f110.results.toList := ⟨Try.f110, by kernel_rfl, by kernel_rfl, by kernel_rfl, by kernel_rfl, rfl, rfl⟩
theorem ok_111 : Ok Try.prog 111 (Try.f111.body.getD .skip) Try.f111.ntmps Try.f111.results.toList := ⟨Try.f111, by kernel_rfl, by kernel_rfl, by kernel_rfl, by kernel_rfl, rfl, rfl⟩
theorem ok_112 : Ok Try.prog 112 (Try.f112.body.getD .skip) Try.f112.ntmps Try.f112.results.toList := ⟨Try.f112, by kernel_rfl, by kernel_rfl, by kernel_rfl, by kernel_rfl, rfl, rfl⟩
theorem ok_113 : Ok Try.prog 113 (Try.f113.body.getD .skip) Try.f113.ntmps Try.f113.results.toList := ⟨Try.f113, by kernel_rfl, by kernel_rfl, by kernel_rfl, by kernel_rfl, rfl, rfl⟩
theorem ok_114 : Ok Try.prog 114 (Try.f114.body.getD .skip) Try.f114.ntmps Try.f114.results.toList := ⟨Try.f114, by kernel_rfl, by kernel_rfl, by kernel_rfl, by kernel_rfl, rfl, rfl⟩
theorem ok_118 : Ok Try.prog 118 (Try.f118.body.getD .skip) Try.f118.ntmps Try.f118.results.toList := ⟨Try.f118, by kernel_rfl, by kernel_rfl, by kernel_rfl, by kernel_rfl, rfl, rfl⟩
theorem ok_121 : Ok Try.prog 121 (Try.f121.body.getD .skip) Try.f121.ntmps Try.f121.results.toList := ⟨Try.f121, by kernel_rfl, by kernel_rfl, by kernel_rfl, by kernel_rfl, rfl, rfl⟩
theorem ok_133 : Ok Try.prog 133 (Try.f133.body.getD .skip) Try.f133.ntmps Try.f133.results.toList := ⟨Try.f133, by kernel_rfl, by kernel_rfl, by kernel_rfl, by kernel_rfl, rfl, rfl⟩
theorem ok_135 : Ok Try.prog 135 (Try.f135.body.getD .skip) Try.f135.ntmps Try.f135.results.toList := ⟨Try.f135, by kernel_rfl, by kernel_rfl, by kernel_rfl, by kernel_rfl, rfl, rfl⟩
theorem ok_136 : Ok Try.prog 136 (Try.f136.body.getD .skip) Try.f136.ntmps Try.f136.results.toList := ⟨Try.f136, by kernel_rfl, by kernel_rfl, by kernel_rfl, by kernel_rfl, rfl, rfl⟩
theorem ok_137 : Ok Try.prog 137 (Try.f137.body.getD .skip) Try.f137.ntmps Try.f137.results.toList := ⟨Try.f137, by kernel_rfl, by kernel_rfl, by kernel_rfl, by kernel_rfl, rfl, rfl⟩
theorem ok_138 : Ok Try.prog 138 (Try.f138.body.getD .skip) Try.f138.ntmps Try.f138.results.toList := ⟨Try.f138, by kernel_rfl, by kernel_rfl, by kernel_rfl, by kernel_rfl, rfl, rfl⟩
theorem ok_139 : Ok Try.prog 139 (Try.f139.body.getD .skip) Try.f139.ntmps Try.f139.results.toList := ⟨Try.f139, by kernel_rfl, by kernel_rfl, by kernel_rfl, by kernel_rfl, rfl, rfl⟩
theorem ok_140 : Ok Try.prog 140 (Try.f140.body.getD .skip) Try.f140.ntmps Try.f140.results.toList := ⟨Try.f140, by kernel_rfl, by kernel_rfl, by kernel_rfl, by kernel_rfl, rfl, rfl⟩
theorem ok_141 : Ok Try.prog 141 (Try.f141.body.getD .skip) Try.f141.ntmps Try.f141.results.toList := ⟨Try.f141, by kernel_rfl, by kernel_rfl, by kernel_rfl, by kernel_rfl, rfl, rfl⟩
theorem ok_158 : Ok Try.prog 158 (Try.f158.body.getD .skip) Try.f158.ntmps Try.f158.results.toList := ⟨Try.f158, by kernel_rfl, by kernel_rfl, by kernel_rfl, by kernel_rfl, rfl, rfl⟩
theorem ok_159 : Ok Try.prog 159 (Try.f159.body.getD .skip) Try.f159.ntmps Try.f159.results.toList := ⟨Try.f159, by kernel_rfl, by kernel_rfl, by kernel_rfl, by kernel_rfl, rfl, rfl⟩
theorem ok_160 : Ok Try.prog 160 (Try.f160.body.getD .skip) Try.f160.ntmps Try.f160.results.toList := ⟨Try.f160, by kernel_rfl, by kernel_rfl, by kernel_rfl, by kernel_rfl, rfl, rfl⟩
theorem ok_161 : Ok Try.prog 161 (Try.f161.body.getD .skip) Try.f161.ntmps Try.f161.results.toList := ⟨Try.f161, by kernel_rfl, by kernel_rfl, by kernel_rfl, by kernel_rfl, rfl, rfl⟩
theorem ok_162 : Ok Try.prog 162 (Try.f162.body.getD .skip) Try.f162.ntmps Try.f162.results.toList := ⟨Try.f162, by kernel_rfl, by kernel_rfl, by kernel_rfl, by kernel_rfl, rfl, rfl⟩
theorem ok_163 : Ok Try.prog 163 (Try.f163.body.getD .skip) Try.f163.ntmps Try.f163.results.toList := ⟨Try.f163, by kernel_rfl, by kernel_rfl, by kernel_rfl, by kernel_rfl, rfl, rfl⟩
theorem ok_164 : Ok Try.prog 164 (Try.f164.body.getD .skip) Try.f164.ntmps Try.f164.results.toList := ⟨Try.f164, by kernel_rfl, by kernel_rfl, by kernel_rfl, by kernel_rfl, rfl, rfl⟩
end Go.Am
end
