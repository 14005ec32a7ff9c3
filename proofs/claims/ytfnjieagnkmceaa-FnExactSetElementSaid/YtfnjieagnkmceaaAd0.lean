/- The data. -/
import Derived.Test.YtfnjieagnkmceaaAm5
import Derived.Test.YtfnjieagnkmceaaProg
section
set_option maxRecDepth 100000
set_option linter.unusedVariables false
set_option linter.unusedSimpArgs false
namespace Go.Am
open Go.Proofs
structure ac_ where
 Kind : Int
 Num : Int
 Text : ByteArray
 Ref : Int
def ac_.cells (x : ac_) : List T := [i4 x.Kind, i4 x.Num, .str x.Text, i4 x.Ref]
instance : Enc ac_ := ⟨ac_.cells, 4, fun _ => rfl, fun _ => rfl, fun x => by simp [ac_.cells, pureL, pureT], fun a b h => by
 rcases a with ⟨_, _, _, _⟩; rcases b with ⟨_, _, _, _⟩; simp [ac_.cells] at h; simp_all⟩
instance (z : Bool) : Hld z ac_ := ⟨fun a σ d => by show frzL (hold z σ d) (ac_.cells a) = some (ac_.cells a, []); simp [ac_.cells, frzL]⟩
structure aa_ where
 Id : Int
 Kind : Int
 Name : ByteArray
 Low : Int
 Keys : (Sl ac_)
 Vals : (Sl ac_)
 Default : ac_
def aa_.cells (x : aa_) : List T := [i4 x.Id, i4 x.Kind, .str x.Name, i4 x.Low, x.Keys.t, x.Vals.t, i4 x.Default.Kind, i4 x.Default.Num, .str x.Default.Text, i4 x.Default.Ref]
instance : Enc aa_ := ⟨aa_.cells, 10, fun _ => rfl, fun _ => rfl, fun x => by simp [aa_.cells, pureL, pureT], fun a b h => by
 rcases a with ⟨_, _, _, _, _, _, ⟨_, _, _, _⟩⟩; rcases b with ⟨_, _, _, _, _, _, ⟨_, _, _, _⟩⟩; simp [aa_.cells] at h; simp_all⟩
instance : Hld false aa_ := ⟨fun a σ d => by show frzL (hold false σ d) (aa_.cells a) = some (aa_.cells a, []); simp [aa_.cells, frzL]⟩
structure aj_ where
 Next : Int
 Objects : (Sl aa_)
def aj_.cells (x : aj_) : List T := [i4 x.Next, x.Objects.t]
instance : Enc aj_ := ⟨aj_.cells, 2, fun _ => rfl, fun _ => rfl, fun x => by simp [aj_.cells, pureL, pureT], fun a b h => by
 rcases a with ⟨_, _⟩; rcases b with ⟨_, _⟩; simp [aj_.cells] at h; simp_all⟩
instance : Hld false aj_ := ⟨fun a σ d => by show frzL (hold false σ d) (aj_.cells a) = some (aj_.cells a, []); simp [aj_.cells, frzL]⟩
structure eX_ where
 code_ : (Sl (Iv .u8))
 at_ : Int
 seed_ : Int
def eX_.cells (x : eX_) : List T := [x.code_.t, i4 x.at_, .int .u64 x.seed_]
instance : Enc eX_ := ⟨eX_.cells, 3, fun _ => rfl, fun _ => rfl, fun x => by simp [eX_.cells, pureL, pureT], fun a b h => by
 rcases a with ⟨_, _, _⟩; rcases b with ⟨_, _, _⟩; simp [eX_.cells] at h; simp_all⟩
instance : Hld false eX_ := ⟨fun a σ d => by show frzL (hold false σ d) (eX_.cells a) = some (eX_.cells a, []); simp [eX_.cells, frzL]⟩
def md : Nat → Md := fun f => bif [15, 16, 17, 24, 25, 26, 28, 29, 31, 33, 35, 36, 37, 38, 39, 40, 44, 45, 46, 60, 61, 64, 69, 72, 74, 76, 77, 79, 81, 93, 98, 99, 101, 102, 127, 136, 139].elem f then .own else bif [20, 21, 48, 66, 68, 82, 90, 104, 105, 106, 107, 110, 111, 112, 140, 141, 142, 143, 144, 145, 146, 156, 160, 162, 166, 167, 169, 170].elem f then .raw else .view
def ext : Ext := fun _ => none
theorem len1 {hs : List T} (h : hs.length = 1) : ∃ a0, hs = [a0] := by
 rcases hs with _ | ⟨a0, _ | ⟨x, l⟩⟩ <;> simp at h
 exact ⟨a0, rfl⟩
theorem len2 {hs : List T} (h : hs.length = 2) : ∃ a0 a1, hs = [a0, a1] := by
 rcases hs with _ | ⟨a0, _ | ⟨a1, _ | ⟨x, l⟩⟩⟩ <;> simp at h
 exact ⟨a0, a1, rfl⟩
def E_bool : Bool → T := fun y => .bool y
theorem E_bool_inj : ∀ a b, E_bool a = E_bool b → a = b := inj_bool
def E_i64 : Int → T := fun y => i4 y
theorem E_i64_inj : ∀ a b, E_i64 a = E_i64 b → a = b := fW_
def E_DHeap : aj_ → T := fun y => .agg (aj_.cells y)
theorem E_DHeap_inj : ∀ a b, E_DHeap a = E_DHeap b → a = b := gr_
def E_DObject : aa_ → T := fun y => .agg (aa_.cells y)
theorem E_DObject_inj : ∀ a b, E_DObject a = E_DObject b → a = b := gr_
def E_t3_DHeap_i64_i64 : (aj_ × Int × Int) → T := fun y => .tup [.agg (aj_.cells y.1), i4 y.2.1, i4 y.2.2]
theorem E_t3_DHeap_i64_i64_inj : ∀ a b, E_t3_DHeap_i64_i64 a = E_t3_DHeap_i64_i64 b → a = b := l5_ gr_ fW_ fW_
def E_t3_DHeap_DValue_i64 : (aj_ × ac_ × Int) → T := fun y => .tup [.agg (aj_.cells y.1), .agg (ac_.cells y.2.1), i4 y.2.2]
theorem E_t3_DHeap_DValue_i64_inj : ∀ a b, E_t3_DHeap_DValue_i64 a = E_t3_DHeap_DValue_i64 b → a = b := l5_ gr_ gr_ fW_
def E_DValue : ac_ → T := fun y => .agg (ac_.cells y)
theorem E_DValue_inj : ∀ a b, E_DValue a = E_DValue b → a = b := gr_
def E_t3_DHeap_bool_i64 : (aj_ × Bool × Int) → T := fun y => .tup [.agg (aj_.cells y.1), .bool y.2.1, i4 y.2.2]
theorem E_t3_DHeap_bool_i64_inj : ∀ a b, E_t3_DHeap_bool_i64 a = E_t3_DHeap_bool_i64 b → a = b := l5_ gr_ inj_bool fW_
def E_sl_DValue : (Sl ac_) → T := fun y => y.t
theorem E_sl_DValue_inj : ∀ a b, E_sl_DValue a = E_sl_DValue b → a = b := o6_
def E_sl_DObject : (Sl aa_) → T := fun y => y.t
theorem E_sl_DObject_inj : ∀ a b, E_sl_DObject a = E_sl_DObject b → a = b := o6_
def E_t3_i64_i64_i64 : (Int × Int × Int) → T := fun y => .tup [i4 y.1, i4 y.2.1, i4 y.2.2]
theorem E_t3_i64_i64_i64_inj : ∀ a b, E_t3_i64_i64_i64 a = E_t3_i64_i64_i64 b → a = b := l5_ fW_ fW_ fW_
def E_str : ByteArray → T := fun y => .str y
theorem E_str_inj : ∀ a b, E_str a = E_str b → a = b := inj_str
noncomputable def Sh_DHeap : el_ aj_ := ⟨1, fun hs y => match hs with | [h1] => .agg [i4 y.Next, h1] | _ => .tup [], fun hs y => match hs with | [h1] => [.own true 10 h1 (Sl.t (y.Objects : Sl aa_))] | _ => [], E_DHeap, fun hs y h => by
 obtain ⟨h1, rfl⟩ := len1 h
 exact (HL.agg (es1 := [.own true 10 h1 (Sl.t (y.Objects : Sl aa_))]) (es2 := []) (HL.leaf (fun σ d => by simp) (HL.own rfl HL.nil)) HL.nil), E_DHeap_inj⟩
noncomputable def Sh_DObject : el_ aa_ := ⟨2, fun hs y => match hs with | [h1, h2] => .agg [i4 y.Id, i4 y.Kind, .str y.Name, i4 y.Low, h1, h2, i4 y.Default.Kind, i4 y.Default.Num, .str y.Default.Text, i4 y.Default.Ref] | _ => .tup [], fun hs y => match hs with | [h1, h2] => [.own true 4 h1 (Sl.t (y.Keys : Sl ac_)), .own true 4 h2 (Sl.t (y.Vals : Sl ac_))] | _ => [], E_DObject, fun hs y h => by
 obtain ⟨h1, h2, rfl⟩ := len2 h
 exact (HL.agg (es1 := [.own true 4 h1 (Sl.t (y.Keys : Sl ac_)), .own true 4 h2 (Sl.t (y.Vals : Sl ac_))]) (es2 := []) (HL.leaf (fun σ d => by simp) (HL.leaf (fun σ d => by simp) (HL.leaf (fun σ d => by simp) (HL.leaf (fun σ d => by simp) (HL.own rfl (HL.own rfl (HL.leaf (fun σ d => by simp) (HL.leaf (fun σ d => by simp) (HL.leaf (fun σ d => by simp) (HL.leaf (fun σ d => by simp) HL.nil)))))))))) HL.nil), E_DObject_inj⟩
noncomputable def Sh_t3_DHeap_i64_i64 : el_ (aj_ × Int × Int) := ⟨1, fun hs y => match hs with | [h1] => .tup [.agg [i4 y.1.Next, h1], i4 y.2.1, i4 y.2.2] | _ => .tup [], fun hs y => match hs with | [h1] => [.own true 10 h1 (Sl.t (y.1.Objects : Sl aa_))] | _ => [], E_t3_DHeap_i64_i64, fun hs y h => by
 obtain ⟨h1, rfl⟩ := len1 h
 exact (HL.tup (es1 := [.own true 10 h1 (Sl.t (y.1.Objects : Sl aa_))]) (es2 := []) (HL.agg (es1 := [.own true 10 h1 (Sl.t (y.1.Objects : Sl aa_))]) (es2 := []) (HL.leaf (fun σ d => by simp) (HL.own rfl HL.nil)) (HL.leaf (fun σ d => by simp) (HL.leaf (fun σ d => by simp) HL.nil))) HL.nil), E_t3_DHeap_i64_i64_inj⟩
noncomputable def Sh_t3_DHeap_DValue_i64 : el_ (aj_ × ac_ × Int) := ⟨1, fun hs y => match hs with | [h1] => .tup [.agg [i4 y.1.Next, h1], .agg (ac_.cells y.2.1), i4 y.2.2] | _ => .tup [], fun hs y => match hs with | [h1] => [.own true 10 h1 (Sl.t (y.1.Objects : Sl aa_))] | _ => [], E_t3_DHeap_DValue_i64, fun hs y h => by
 obtain ⟨h1, rfl⟩ := len1 h
 exact (HL.tup (es1 := [.own true 10 h1 (Sl.t (y.1.Objects : Sl aa_))]) (es2 := []) (HL.agg (es1 := [.own true 10 h1 (Sl.t (y.1.Objects : Sl aa_))]) (es2 := []) (HL.leaf (fun σ d => by simp) (HL.own rfl HL.nil)) (HL.agg (es1 := []) (es2 := []) (HL.leaf (fun σ d => by simp) (HL.leaf (fun σ d => by simp) (HL.leaf (fun σ d => by simp) (HL.leaf (fun σ d => by simp) HL.nil)))) (HL.leaf (fun σ d => by simp) HL.nil))) HL.nil), E_t3_DHeap_DValue_i64_inj⟩
noncomputable def Sh_t3_DHeap_bool_i64 : el_ (aj_ × Bool × Int) := ⟨1, fun hs y => match hs with | [h1] => .tup [.agg [i4 y.1.Next, h1], .bool y.2.1, i4 y.2.2] | _ => .tup [], fun hs y => match hs with | [h1] => [.own true 10 h1 (Sl.t (y.1.Objects : Sl aa_))] | _ => [], E_t3_DHeap_bool_i64, fun hs y h => by
 obtain ⟨h1, rfl⟩ := len1 h
 exact (HL.tup (es1 := [.own true 10 h1 (Sl.t (y.1.Objects : Sl aa_))]) (es2 := []) (HL.agg (es1 := [.own true 10 h1 (Sl.t (y.1.Objects : Sl aa_))]) (es2 := []) (HL.leaf (fun σ d => by simp) (HL.own rfl HL.nil)) (HL.leaf (fun σ d => by simp) (HL.leaf (fun σ d => by simp) HL.nil))) HL.nil), E_t3_DHeap_bool_i64_inj⟩
noncomputable def Sh_sl_DValue : el_ (Sl ac_) := ⟨1, fun hs y => match hs with | [h1] => h1 | _ => .tup [], fun hs y => match hs with | [h1] => [.own true 4 h1 (Sl.t (y : Sl ac_))] | _ => [], E_sl_DValue, fun hs y h => by
 obtain ⟨h1, rfl⟩ := len1 h
 exact (HL.own rfl HL.nil), E_sl_DValue_inj⟩
noncomputable def Sh_sl_DObject : el_ (Sl aa_) := ⟨1, fun hs y => match hs with | [h1] => h1 | _ => .tup [], fun hs y => match hs with | [h1] => [.own true 10 h1 (Sl.t (y : Sl aa_))] | _ => [], E_sl_DObject, fun hs y h => by
 obtain ⟨h1, rfl⟩ := len1 h
 exact (HL.own rfl HL.nil), E_sl_DObject_inj⟩
noncomputable def cO_ (a0 : aj_) (a1 : ac_) (a2 : ac_) (a3 : ac_) : Option Bool := semV Try.prog md ext E_bool 9 [(.agg (aj_.cells a0)), (.agg (ac_.cells a1)), (.agg (ac_.cells a2)), (.agg (ac_.cells a3))]
noncomputable def fu_ (a0 : aj_) (a1 : Int) : Option Int := semV Try.prog md ext E_i64 14 [(.agg (aj_.cells a0)), (i4 a1)]
noncomputable def cj_ (a0 : aj_) : Option aj_ := semO Try.prog md ext Sh_DHeap 16 [(.agg (aj_.cells a0))]
noncomputable def cZ_ (a0 : aa_) (a1 : aa_) : Option Bool := semV Try.prog md ext E_bool 18 [(.agg (aa_.cells a0)), (.agg (aa_.cells a1))]
noncomputable def bU_ (a0 : aj_) (a1 : aj_) : Option Bool := semV Try.prog md ext E_bool 19 [(.agg (aj_.cells a0)), (.agg (aj_.cells a1))]
noncomputable def e2_ (a0 : aa_) (a1 : Int) : Option Int := semV Try.prog md ext E_i64 22 [(.agg (aa_.cells a0)), (i4 a1)]
noncomputable def ep_ (a0 : aa_) (a1 : Int) : Option Int := semV Try.prog md ext E_i64 23 [(.agg (aa_.cells a0)), (i4 a1)]
noncomputable def eh_ (a0 : aa_) : Option aa_ := semO Try.prog md ext Sh_DObject 25 [(.agg (aa_.cells a0))]
noncomputable def cX_ (a0 : aj_) (a1 : Int) : Option Int := semV Try.prog md ext E_i64 27 [(.agg (aj_.cells a0)), (i4 a1)]
noncomputable def bB_ (a0 : ac_) (a1 : Int) : Option Int := semV Try.prog md ext E_i64 30 [(.agg (ac_.cells a0)), (i4 a1)]
noncomputable def aQ_ (a0 : ac_) : Option ac_ := semV Try.prog md ext E_DValue 32 [(.agg (ac_.cells a0))]
noncomputable def cA_ (a0 : ac_) (a1 : ac_) : Option Bool := semV Try.prog md ext E_bool 34 [(.agg (ac_.cells a0)), (.agg (ac_.cells a1))]
noncomputable def dv_ (a0 : aj_) (a1 : ac_) (a2 : ac_) (a3 : ac_) : Option (aj_ × Bool × Int) := semO Try.prog md ext Sh_t3_DHeap_bool_i64 39 [(.agg (aj_.cells a0)), (.agg (ac_.cells a1)), (.agg (ac_.cells a2)), (.agg (ac_.cells a3))]
noncomputable def cr_ (a0 : aj_) (a1 : ac_) (a2 : ac_) (a3 : ac_) : Option (aj_ × Bool × Int) := semO Try.prog md ext Sh_t3_DHeap_bool_i64 40 [(.agg (aj_.cells a0)), (.agg (ac_.cells a1)), (.agg (ac_.cells a2)), (.agg (ac_.cells a3))]
noncomputable def df_ (a0 : (Sl ac_)) (a1 : Int) : Option Int := semV Try.prog md ext E_i64 43 [(a0.t), (i4 a1)]
noncomputable def cY_ (a0 : (Sl ac_)) : Option (Sl ac_) := semO Try.prog md ext Sh_sl_DValue 45 [(a0.t)]
noncomputable def dc_ (a0 : (Sl ac_)) (a1 : (Sl ac_)) : Option Bool := semV Try.prog md ext E_bool 47 [(a0.t), (a1.t)]
noncomputable def a1_ (a0 : (Sl ac_)) (a1 : Int) : Option Int := semV Try.prog md ext E_i64 49 [(a0.t), (i4 a1)]
noncomputable def dS_ (a0 : (Sl aa_)) (a1 : Int) : Option Int := semV Try.prog md ext E_i64 57 [(a0.t), (i4 a1)]
noncomputable def fR_ (a0 : aj_) : Option Bool := semL Try.prog md ext E_bool 58 (fun bs => match bs with | [bp0] => [(.ptr bp0 0 0 2)] | _ => []) [aj_.cells a0]
noncomputable def b5_ (a0 : aj_) (a1 : Int) : Option Int := semL Try.prog md ext E_i64 59 (fun bs => match bs with | [bp0] => [(.ptr bp0 0 0 2), (i4 a1)] | _ => []) [aj_.cells a0]
noncomputable def bX_ (a0 : aa_) : Option aa_ := semO Try.prog md ext Sh_DObject 60 [(.agg (aa_.cells a0))]
noncomputable def dU_ (a0 : (Sl aa_)) : Option (Sl aa_) := semO Try.prog md ext Sh_sl_DObject 61 [(a0.t)]
noncomputable def dX_ (a0 : aj_) : Option Bool := semV Try.prog md ext E_bool 62 [(.agg (aj_.cells a0))]
noncomputable def bk_ (a0 : aj_) (a1 : Int) : Option Int := semV Try.prog md ext E_i64 63 [(.agg (aj_.cells a0)), (i4 a1)]
noncomputable def aR_ (a0 : aa_) : Option aa_ := semO Try.prog md ext Sh_DObject 64 [(.agg (aa_.cells a0))]
noncomputable def dY_ (a0 : (Sl aa_)) (a1 : (Sl aa_)) : Option Bool := semV Try.prog md ext E_bool 65 [(a0.t), (a1.t)]
noncomputable def cD_ (a0 : aa_) : Option Bool := semV Try.prog md ext E_bool 67 [(.agg (aa_.cells a0))]
noncomputable def d9_ (a0 : aj_) : Option aj_ := kc_ Try.prog md ext Sh_DHeap 69 (fun bs => match bs with | [bp0] => [(.ptr bp0 0 0 2)] | _ => []) [aj_.cells a0]
noncomputable def ca_ (a0 : aa_) : Option Bool := semV Try.prog md ext E_bool 70 [(.agg (aa_.cells a0))]
noncomputable def aD_ (a0 : (Sl ac_)) (a1 : T) : Option Bool := semV Try.prog md ext E_bool 71 [(a0.t), (a1)]
noncomputable def bm_ (a0 : aa_) : Option (Sl ac_) := semO Try.prog md ext Sh_sl_DValue 72 [(.agg (aa_.cells a0))]
noncomputable def d0_ (a0 : aj_) (a1 : ac_) : Option Bool := semV Try.prog md ext E_bool 73 [(.agg (aj_.cells a0)), (.agg (ac_.cells a1))]
noncomputable def cg_ (a0 : aj_) (a1 : Int) (a2 : aa_) : Option aj_ := semO Try.prog md ext Sh_DHeap 74 [(.agg (aj_.cells a0)), (i4 a1), (.agg (aa_.cells a2))]
noncomputable def dh_ (a0 : (Sl aa_)) (a1 : Int) : Option Int := semV Try.prog md ext E_i64 75 [(a0.t), (i4 a1)]
noncomputable def fz_ (a0 : aj_) (a1 : aa_) : Option (aj_ × Int × Int) := kc_ Try.prog md ext Sh_t3_DHeap_i64_i64 76 (fun bs => match bs with | [bp0] => [(.ptr bp0 0 0 2), (.agg (aa_.cells a1))] | _ => []) [aj_.cells a0]
noncomputable def cW_ (a0 : aj_) (a1 : aa_) : Option (aj_ × Int × Int) := semO Try.prog md ext Sh_t3_DHeap_i64_i64 77 [(.agg (aj_.cells a0)), (.agg (aa_.cells a1))]
noncomputable def fC_ (a0 : aj_) (a1 : (Sl ac_)) : Option Bool := semL Try.prog md ext E_bool 78 (fun bs => match bs with | [bp0] => [(.ptr bp0 0 0 2), (a1.t)] | _ => []) [aj_.cells a0]
noncomputable def e4_ (a0 : aj_) (a1 : aa_) : Option (aj_ × ac_ × Int) := kc_ Try.prog md ext Sh_t3_DHeap_DValue_i64 79 (fun bs => match bs with | [bp0] => [(.ptr bp0 0 0 2), (.agg (aa_.cells a1))] | _ => []) [aj_.cells a0]
noncomputable def fa_ (a0 : aj_) (a1 : (Sl ac_)) : Option Int := semV Try.prog md ext E_i64 80 [(.agg (aj_.cells a0)), (a1.t)]
noncomputable def eO_ (a0 : aj_) (a1 : aa_) : Option (aj_ × ac_ × Int) := semO Try.prog md ext Sh_t3_DHeap_DValue_i64 81 [(.agg (aj_.cells a0)), (.agg (aa_.cells a1))]
noncomputable def h0_ (a0 : aj_) (a1 : ac_) (a2 : ByteArray) : Option (Int × Int × Int) := semV Try.prog md ext E_t3_i64_i64_i64 83 [(.agg (aj_.cells a0)), (.agg (ac_.cells a1)), (.str a2)]
noncomputable def en_ (a0 : ac_) : Option Bool := semV Try.prog md ext E_bool 84 [(.agg (ac_.cells a0))]
noncomputable def fQ_ (a0 : (Sl (Iv .i64))) : Option Int := semV Try.prog md ext E_i64 85 [(a0.t)]
noncomputable def db_ (a0 : Bool) (a1 : Int) : Option Int := semV Try.prog md ext E_i64 86 [(.bool a0), (i4 a1)]
noncomputable def ec_ (a0 : Int) : Option Bool := semV Try.prog md ext E_bool 87 [(i4 a0)]
noncomputable def b8_ (a0 : aj_) (a1 : ac_) : Option Int := semV Try.prog md ext E_i64 88 [(.agg (aj_.cells a0)), (.agg (ac_.cells a1))]
noncomputable def dr_ (a0 : ac_) : Option Bool := semV Try.prog md ext E_bool 89 [(.agg (ac_.cells a0))]
noncomputable def dN_ (a0 : ac_) : Option Bool := semV Try.prog md ext E_bool 91 [(.agg (ac_.cells a0))]
noncomputable def cf_ (a0 : aa_) (a1 : ac_) : Option Int := semV Try.prog md ext E_i64 92 [(.agg (aa_.cells a0)), (.agg (ac_.cells a1))]
noncomputable def bw_ (a0 : aj_) : Option aj_ := semO Try.prog md ext Sh_DHeap 93 [(.agg (aj_.cells a0))]
noncomputable def a7_ (a0 : Int) (a1 : Int) (a2 : Int) : Option Bool := semV Try.prog md ext E_bool 94 [(i4 a0), (i4 a1), (i4 a2)]
noncomputable def bR_ (a0 : Int) (a1 : Int) (a2 : Int) : Option Bool := semV Try.prog md ext E_bool 95 [(i4 a0), (i4 a1), (i4 a2)]
noncomputable def bO_ (a0 : (Sl ac_)) : Option (Sl ac_) := semO Try.prog md ext Sh_sl_DValue 98 [(a0.t)]
noncomputable def dm_ (a0 : aj_) (a1 : (Sl ac_)) : Option Bool := semV Try.prog md ext E_bool 100 [(.agg (aj_.cells a0)), (a1.t)]
noncomputable def bn_ (a0 : (Sl ac_)) : Option (Sl ac_) := semO Try.prog md ext Sh_sl_DValue 101 [(a0.t)]
noncomputable def aJ_ (a0 : Int) : Option ByteArray := semV Try.prog md ext E_str 103 [(i4 a0)]
noncomputable def bi_ (a0 : aa_) (a1 : Int) : Option Int := semV Try.prog md ext E_i64 113 [(.agg (aa_.cells a0)), (i4 a1)]
noncomputable def cL_ (a0 : Int) (a1 : Int) : Option Int := semV Try.prog md ext E_i64 114 [(i4 a0), (i4 a1)]
noncomputable def be_ (a0 : (Sl ac_)) (a1 : Int) : Option Bool := semV Try.prog md ext E_bool 115 [(a0.t), (i4 a1)]
noncomputable def b7_ (a0 : (Sl ac_)) : Option Bool := semV Try.prog md ext E_bool 116 [(a0.t)]
noncomputable def bK_ (a0 : ac_) : Option Bool := semV Try.prog md ext E_bool 117 [(.agg (ac_.cells a0))]
noncomputable def c4_ (a0 : ByteArray) : Option Bool := semV Try.prog md ext E_bool 118 [(.str a0)]
noncomputable def cv_ (a0 : (Sl ac_)) : Option Bool := semV Try.prog md ext E_bool 119 [(a0.t)]
noncomputable def aY_ (a0 : aj_) (a1 : (Sl ac_)) : Option Bool := semL Try.prog md ext E_bool 120 (fun bs => match bs with | [bp0] => [(.ptr bp0 0 0 2), (a1.t)] | _ => []) [aj_.cells a0]
noncomputable def b4_ (a0 : aj_) (a1 : ac_) : Option Bool := semL Try.prog md ext E_bool 121 (fun bs => match bs with | [bp0] => [(.ptr bp0 0 0 2), (.agg (ac_.cells a1))] | _ => []) [aj_.cells a0]
noncomputable def cl_ (a0 : Int) : Option Bool := semV Try.prog md ext E_bool 122 [(i4 a0)]
noncomputable def a9_ (a0 : ac_) : Option Bool := semV Try.prog md ext E_bool 123 [(.agg (ac_.cells a0))]
noncomputable def bT_ (a0 : (Sl ac_)) : Option Bool := semV Try.prog md ext E_bool 124 [(a0.t)]
noncomputable def eR_ (a0 : ac_) : Option Bool := semV Try.prog md ext E_bool 125 [(.agg (ac_.cells a0))]
noncomputable def de_ (a0 : ByteArray) : Option Bool := semV Try.prog md ext E_bool 126 [(.str a0)]
noncomputable def cd_ (a0 : (Sl (Sl ac_))) : Option (Sl ac_) := semO Try.prog md ext Sh_sl_DValue 127 [(a0.t)]
noncomputable def dt_ (a0 : Int) : Option Int := semV Try.prog md ext E_i64 128 [(i4 a0)]
noncomputable def bW_ (a0 : aa_) : Option ac_ := semV Try.prog md ext E_DValue 129 [(.agg (aa_.cells a0))]
noncomputable def c3_ (a0 : (Sl ac_)) (a1 : ac_) : Option Int := semV Try.prog md ext E_i64 130 [(a0.t), (.agg (ac_.cells a1))]
noncomputable def a4_ (a0 : (Sl ac_)) (a1 : ac_) : Option Int := semV Try.prog md ext E_i64 131 [(a0.t), (.agg (ac_.cells a1))]
noncomputable def d7_ (a0 : ByteArray) : Option ac_ := semV Try.prog md ext E_DValue 132 [(.str a0)]
noncomputable def eZ_ (a0 : Int) (a1 : Int) : Option Bool := semV Try.prog md ext E_bool 133 [(i4 a0), (i4 a1)]
noncomputable def cm_ (a0 : Int) : Option Bool := semV Try.prog md ext E_bool 147 [(i4 a0)]
noncomputable def b2_ (a0 : ac_) (a1 : ac_) : Option Bool := semV Try.prog md ext E_bool 148 [(.agg (ac_.cells a0)), (.agg (ac_.cells a1))]
noncomputable def br_ (a0 : ac_) (a1 : Bool) (a2 : Bool) (a3 : Bool) : Option Bool := semV Try.prog md ext E_bool 149 [(.agg (ac_.cells a0)), (.bool a1), (.bool a2), (.bool a3)]
noncomputable def du_ (a0 : ByteArray) (a1 : Int) : Option Int := semV Try.prog md ext E_i64 150 [(.str a0), (i4 a1)]
noncomputable def cw_ (a0 : Int) : Option Int := semV Try.prog md ext E_i64 151 [(i4 a0)]
noncomputable def bo_ (a0 : (Sl ac_)) (a1 : ac_) : Option Bool := semV Try.prog md ext E_bool 152 [(a0.t), (.agg (ac_.cells a1))]
noncomputable def c8_ (a0 : Int) : Option Bool := semV Try.prog md ext E_bool 153 [(.int .u8 a0)]
noncomputable def eI_ (a0 : (Sl (Iv .u8))) (a1 : T) : Option Bool := semV Try.prog md ext E_bool 154 [(a0.t), (a1)]
noncomputable def dp_ (a0 : Int) : Option Bool := semV Try.prog md ext E_bool 155 [(.int .u8 a0)]
noncomputable def b3_ (a0 : Int) : Option Bool := semV Try.prog md ext E_bool 171 [(.int .u8 a0)]
noncomputable def dj_ (a0 : Int) : Option Bool := semV Try.prog md ext E_bool 172 [(.int .u8 a0)]
noncomputable def eV_ (a0 : Int) : Option Bool := semV Try.prog md ext E_bool 173 [(.int .u8 a0)]
theorem ok_9 : Ok Try.prog 9 (Try.f9.body.getD .skip) Try.f9.ntmps Try.f9.results.toList := ⟨Try.f9, by kernel_rfl, by kernel_rfl, by kernel_rfl, by kernel_rfl, rfl, rfl⟩
theorem ok_14 : Ok Try.prog 14 (Try.f14.body.getD .skip) Try.f14.ntmps Try.f14.results.toList := ⟨Try.f14, by kernel_rfl, by kernel_rfl, by kernel_rfl, by kernel_rfl, rfl, rfl⟩
theorem ok_16 : Ok Try.prog 16 (Try.f16.body.getD .skip) Try.f16.ntmps Try.f16.results.toList := ⟨Try.f16, by kernel_rfl, by kernel_rfl, by kernel_rfl, by kernel_rfl, rfl, rfl⟩
theorem ok_18 : Ok Try.prog 18 (Try.f18.body.getD .skip) Try.f18.ntmps Try.f18.results.toList := ⟨Try.f18, by kernel_rfl, by kernel_rfl, by kernel_rfl, by kernel_rfl, rfl, rfl⟩
theorem ok_19 : Ok Try.prog 19 (Try.f19.body.getD .skip) Try.f19.ntmps Try.f19.results.toList := ⟨Try.f19, by kernel_rfl, by kernel_rfl, by kernel_rfl, by kernel_rfl, rfl, rfl⟩
theorem ok_20 : Ok Try.prog 20 (Try.f20.body.getD .skip) Try.f20.ntmps Try.f20.results.toList := ⟨Try.f20, by kernel_rfl, by kernel_rfl, by kernel_rfl, by kernel_rfl, rfl, rfl⟩
theorem ok_21 : Ok Try.prog 21 (Try.f21.body.getD .skip) Try.f21.ntmps Try.f21.results.toList := ⟨Try.f21, by kernel_rfl, by kernel_rfl, by kernel_rfl, by kernel_rfl, rfl, rfl⟩
theorem ok_22 : Ok Try.prog 22 (Try.f22.body.getD .skip) Try.f22.ntmps Try.f22.results.toList := ⟨Try.f22, by kernel_rfl, by kernel_rfl, by kernel_rfl, by kernel_rfl, rfl, rfl⟩
theorem ok_23 : Ok Try.prog 23 (Try.f23.body.getD .skip) Try.f23.ntmps Try.f23.results.toList := ⟨Try.f23, by kernel_rfl, by kernel_rfl, by kernel_rfl, by kernel_rfl, rfl, rfl⟩
theorem ok_25 : Ok Try.prog 25 (Try.f25.body.getD .skip) Try.f25.ntmps Try.f25.results.toList := ⟨Try.f25, by kernel_rfl, by kernel_rfl, by kernel_rfl, by kernel_rfl, rfl, rfl⟩
theorem ok_27 : Ok Try.prog 27 (Try.f27.body.getD .skip) Try.f27.ntmps Try.f27.results.toList := ⟨Try.f27, by kernel_rfl, by kernel_rfl, by kernel_rfl, by kernel_rfl, rfl, rfl⟩
theorem ok_30 : Ok Try.prog 30 (Try.f30.body.getD .skip) Try.f30.ntmps Try.f30.results.toList := ⟨Try.f30, by kernel_rfl, by kernel_rfl, by kernel_rfl, by kernel_rfl, rfl, rfl⟩
theorem ok_32 : Ok Try.prog 32 (Try.f32.body.getD .skip) Try.f32.ntmps Try.f32.results.toList := ⟨Try.f32, by kernel_rfl, by kernel_rfl, by kernel_rfl, by kernel_rfl, rfl, rfl⟩
theorem ok_34 : Ok Try.prog 34 (Try.f34.body.getD .skip) Try.f34.ntmps Try.f34.results.toList := ⟨Try.f34, by kernel_rfl, by kernel_rfl, by kernel_rfl, by kernel_rfl, rfl, rfl⟩
theorem ok_39 : Ok Try.prog 39 (Try.f39.body.getD .skip) Try.f39.ntmps Try.f39.results.toList := ⟨Try.f39, by kernel_rfl, by kernel_rfl, by kernel_rfl, by kernel_rfl, rfl, rfl⟩
theorem ok_40 : Ok Try.prog 40 (Try.f40.body.getD .skip) Try.f40.ntmps Try.f40.results.toList := ⟨Try.f40, by kernel_rfl, by kernel_rfl, by kernel_rfl, by kernel_rfl, rfl, rfl⟩
theorem ok_43 : Ok Try.prog 43 (Try.f43.body.getD .skip) Try.f43.ntmps Try.f43.results.toList := ⟨Try.f43, by kernel_rfl, by kernel_rfl, by kernel_rfl, by kernel_rfl, rfl, rfl⟩
theorem ok_45 : Ok Try.prog 45 (Try.f45.body.getD .skip) Try.f45.ntmps Try.f45.results.toList := ⟨Try.f45, by kernel_rfl, by kernel_rfl, by kernel_rfl, by kernel_rfl, rfl, rfl⟩
theorem ok_47 : Ok Try.prog 47 (Try.f47.body.getD .skip) Try.f47.ntmps Try.f47.results.toList := ⟨Try.f47, by kernel_rfl, by kernel_rfl, by kernel_rfl, by kernel_rfl, rfl, rfl⟩
theorem ok_48 : Ok Try.prog 48 (Try.f48.body.getD .skip) Try.f48.ntmps Try.f48.results.toList := ⟨Try.f48, by kernel_rfl, by kernel_rfl, by kernel_rfl, by kernel_rfl, rfl, rfl⟩
theorem ok_49 : Ok Try.prog 49 (Try.f49.body.getD .skip) Try.f49.ntmps Try.f49.results.toList := ⟨Try.f49, by kernel_rfl, by kernel_rfl, by kernel_rfl, by kernel_rfl, rfl, rfl⟩
theorem ok_57 : Ok Try.prog 57 (Try.f57.body.getD .skip) Try.f57.ntmps Try.f57.results.toList := ⟨Try.f57, by kernel_rfl, by kernel_rfl, by kernel_rfl, by kernel_rfl, rfl, rfl⟩
theorem ok_58 : Ok Try.prog 58 (Try.f58.body.getD .skip) Try.f58.ntmps Try.f58.results.toList := ⟨Try.f58, by kernel_rfl, by kernel_rfl, by kernel_rfl, by kernel_rfl, rfl, rfl⟩
theorem ok_59 : Ok Try.prog 59 (Try.f59.body.getD .skip) Try.f59.ntmps Try.f59.results.toList := ⟨Try.f59, by kernel_rfl, by kernel_rfl, by kernel_rfl, by kernel_rfl, rfl, rfl⟩
theorem ok_60 : Ok Try.prog 60 (Try.f60.body.getD .skip) Try.f60.ntmps Try.f60.results.toList := ⟨Try.f60, by kernel_rfl, by kernel_rfl, by kernel_rfl, by kernel_rfl, rfl, rfl⟩
theorem ok_61 : Ok Try.prog 61 (Try.f61.body.getD .skip) Try.f61.ntmps Try.f61.results.toList := ⟨Try.f61, by kernel_rfl, by kernel_rfl, by kernel_rfl, by kernel_rfl, rfl, rfl⟩
theorem ok_62 : Ok Try.prog 62 (Try.f62.body.getD .skip) Try.f62.ntmps Try.f62.results.toList := ⟨Try.f62, by kernel_rfl, by kernel_rfl, by kernel_rfl, by kernel_rfl, rfl, rfl⟩
theorem ok_63 : Ok Try.prog 63 (Try.f63.body.getD .skip) Try.f63.ntmps Try.f63.results.toList := ⟨Try.f63, by kernel_rfl, by kernel_rfl, by kernel_rfl, by kernel_rfl, rfl, rfl⟩
theorem ok_64 : Ok Try.prog 64 (Try.f64.body.getD .skip) Try.f64.ntmps Try.f64.results.toList := ⟨Try.f64, by kernel_rfl, by kernel_rfl, by kernel_rfl, by kernel_rfl, rfl, rfl⟩
theorem ok_65 : Ok Try.prog 65 (Try.f65.body.getD .skip) Try.f65.ntmps Try.f65.results.toList := ⟨Try.f65, by kernel_rfl, by kernel_rfl, by kernel_rfl, by kernel_rfl, rfl, rfl⟩
theorem ok_66 : Ok Try.prog 66 (Try.f66.body.getD .skip) Try.f66.ntmps Try.f66.results.toList := ⟨Try.f66, by kernel_rfl, by kernel_rfl, by kernel_rfl, by kernel_rfl, rfl, rfl⟩
theorem ok_67 : Ok Try.prog 67 (Try.f67.body.getD .skip) Try.f67.ntmps Try.f67.results.toList := ⟨Try.f67, by kernel_rfl, by kernel_rfl, by kernel_rfl, by kernel_rfl, rfl, rfl⟩
theorem ok_68 : Ok Try.prog 68 (Try.f68.body.getD .skip) Try.f68.ntmps Try.f68.results.toList := ⟨Try.f68, by kernel_rfl, by kernel_rfl, by kernel_rfl, by kernel_rfl, rfl, rfl⟩
theorem ok_69 : Ok Try.prog 69 (Try.f69.body.getD .skip) Try.f69.ntmps Try.f69.results.toList := ⟨Try.f69, by kernel_rfl, by kernel_rfl, by kernel_rfl, by kernel_rfl, rfl, rfl⟩
theorem ok_70 : Ok Try.prog 70 (Try.f70.body.getD .skip) Try.f70.ntmps Try.f70.results.toList := ⟨Try.f70, by kernel_rfl, by kernel_rfl, by kernel_rfl, by kernel_rfl, rfl, rfl⟩
theorem ok_71 : Ok Try.prog 71 (Try.f71.body.getD .skip) Try.f71.ntmps Try.f71.results.toList := ⟨Try.f71, by kernel_rfl, by kernel_rfl, by kernel_rfl, by kernel_rfl, rfl, rfl⟩
theorem ok_72 : Ok Try.prog 72 (Try.f72.body.getD .skip) Try.f72.ntmps Try.f72.results.toList := ⟨Try.f72, by kernel_rfl, by kernel_rfl, by kernel_rfl, by kernel_rfl, rfl, rfl⟩
theorem ok_73 : Ok Try.prog 73 (Try.f73.body.getD .skip) Try.f73.ntmps Try.f73.results.toList := ⟨Try.f73, by kernel_rfl, by kernel_rfl, by kernel_rfl, by kernel_rfl, rfl, rfl⟩
theorem ok_74 : Ok Try.prog 74 (Try.f74.body.getD .skip) Try.f74.ntmps Try.f74.results.toList := ⟨Try.f74, by kernel_rfl, by kernel_rfl, by kernel_rfl, by kernel_rfl, rfl, rfl⟩
theorem ok_75 : Ok Try.prog 75 (Try.f75.body.getD .skip) Try.f75.ntmps Try.f75.results.toList := ⟨Try.f75, by kernel_rfl, by kernel_rfl, by kernel_rfl, by kernel_rfl, rfl, rfl⟩
theorem ok_76 : Ok Try.prog 76 (Try.f76.body.getD .skip) Try.f76.ntmps Try.f76.results.toList := ⟨Try.f76, by kernel_rfl, by kernel_rfl, by kernel_rfl, by kernel_rfl, rfl, rfl⟩
theorem ok_77 : Ok Try.prog 77 (Try.f77.body.getD .skip) Try.f77.ntmps Try.f77.results.toList := ⟨Try.f77, by kernel_rfl, by kernel_rfl, by kernel_rfl, by kernel_rfl, rfl, rfl⟩
theorem ok_78 : Ok Try.prog 78 (Try.f78.body.getD .skip) Try.f78.ntmps Try.f78.results.toList := ⟨Try.f78, by kernel_rfl, by kernel_rfl, by kernel_rfl, by kernel_rfl, rfl, rfl⟩
theorem ok_79 : Ok Try.prog 79 (Try.f79.body.getD .skip) Try.f79.ntmps Try.f79.results.toList := ⟨Try.f79, by kernel_rfl, by kernel_rfl, by kernel_rfl, by kernel_rfl, rfl, rfl⟩
theorem ok_80 : Ok Try.prog 80 (Try.f80.body.getD .skip) Try.f80.ntmps Try.f80.results.toList := ⟨Try.f80, by kernel_rfl, by kernel_rfl, by kernel_rfl, by kernel_rfl, rfl, rfl⟩
theorem ok_81 : Ok Try.prog 81 (Try.f81.body.getD .skip) Try.f81.ntmps Try.f81.results.toList := ⟨Try.f81, by kernel_rfl, by kernel_rfl, by kernel_rfl, by kernel_rfl, rfl, rfl⟩
theorem ok_83 : Ok Try.prog 83 (Try.f83.body.getD .skip) Try.f83.ntmps Try.f83.results.toList := ⟨Try.f83, by kernel_rfl, by kernel_rfl, by kernel_rfl, by kernel_rfl, rfl, rfl⟩
theorem ok_84 : Ok Try.prog 84 (Try.f84.body.getD .skip) Try.f84.ntmps Try.f84.results.toList := ⟨Try.f84, by kernel_rfl, by kernel_rfl, by kernel_rfl, by kernel_rfl, rfl, rfl⟩
theorem ok_85 : Ok Try.prog 85 (Try.f85.body.getD .skip) Try.f85.ntmps Try.f85.results.toList := ⟨Try.f85, by kernel_rfl, by kernel_rfl, by kernel_rfl, by kernel_rfl, rfl, rfl⟩
theorem ok_86 : Ok Try.prog 86 (Try.f86.body.getD .skip) Try.f86.ntmps Try.f86.results.toList := ⟨Try.f86, by kernel_rfl, by kernel_rfl, by kernel_rfl, by kernel_rfl, rfl, rfl⟩
theorem ok_87 : Ok Try.prog 87 (Try.f87.body.getD .skip) Try.f87.ntmps Try.f87.results.toList := ⟨Try.f87, by kernel_rfl, by kernel_rfl, by kernel_rfl, by kernel_rfl, rfl, rfl⟩
theorem ok_88 : Ok Try.prog 88 (Try.f88.body.getD .skip) Try.f88.ntmps Try.f88.results.toList := ⟨Try.f88, by kernel_rfl, by kernel_rfl, by kernel_rfl, by kernel_rfl, rfl, rfl⟩
theorem ok_89 : Ok Try.prog 89 (Try.f89.body.getD .skip) Try.f89.ntmps Try.f89.results.toList := ⟨Try.f89, by kernel_rfl, by kernel_rfl, by kernel_rfl, by kernel_rfl, rfl, rfl⟩
theorem ok_90 : Ok Try.prog 90 (Try.f90.body.getD .skip) Try.f90.ntmps Try.f90.results.toList := ⟨Try.f90, by kernel_rfl, by kernel_rfl, by kernel_rfl, by kernel_rfl, rfl, rfl⟩
theorem ok_91 : Ok Try.prog 91 (Try.f91.body.getD .skip) Try.f91.ntmps Try.f91.results.toList := ⟨Try.f91, by kernel_rfl, by kernel_rfl, by kernel_rfl, by kernel_rfl, rfl, rfl⟩
theorem ok_92 : Ok Try.prog 92 (Try.f92.body.getD .skip) Try.f92.ntmps Try.f92.results.toList := ⟨Try.f92, by kernel_rfl, by kernel_rfl, by kernel_rfl, by kernel_rfl, rfl, rfl⟩
theorem ok_93 : Ok Try.prog 93 (Try.f93.body.getD .skip) Try.f93.ntmps Try.f93.results.toList := ⟨Try.f93, by kernel_rfl, by kernel_rfl, by kernel_rfl, by kernel_rfl, rfl, rfl⟩
theorem ok_94 : Ok Try.prog 94 (Try.f94.body.getD .skip) Try.f94.ntmps Try.f94.results.toList := ⟨Try.f94, by kernel_rfl, by kernel_rfl, by kernel_rfl, by kernel_rfl, rfl, rfl⟩
theorem ok_95 : Ok Try.prog 95 (Try.f95.body.getD .skip) Try.f95.ntmps Try.f95.results.toList := ⟨Try.f95, by kernel_rfl, by kernel_rfl, by kernel_rfl, by kernel_rfl, rfl, rfl⟩
theorem ok_98 : Ok Try.prog 98 (Try.f98.body.getD .skip) Try.f98.ntmps Try.f98.results.toList := ⟨Try.f98, by kernel_rfl, by kernel_rfl, by kernel_rfl, by kernel_rfl, rfl, rfl⟩
theorem ok_100 : Ok Try.prog 100 (Try.f100.body.getD .skip) Try.f100.ntmps Try.f100.results.toList := ⟨Try.f100, by kernel_rfl, by kernel_rfl, by kernel_rfl, by kernel_rfl, rfl, rfl⟩
theorem ok_101 : Ok Try.prog 101 (Try.f101.body.getD .skip) Try.f101.ntmps Try.f101.results.toList := ⟨Try.f101, by kernel_rfl, by kernel_rfl, by kernel_rfl, by kernel_rfl, rfl, rfl⟩
theorem ok_103 : Ok Try.prog 103 (Try.f103.body.getD .skip) Try.f103.ntmps Try.f103.results.toList := ⟨Try.f103, by kernel_rfl, by kernel_rfl, by kernel_rfl, by kernel_rfl, rfl, rfl⟩
theorem ok_110 : Ok Try.prog 110 (Try.f110.body.getD .skip) Try.f110.ntmps Try.f110.results.toList := ⟨Try.f110, by kernel_rfl, by kernel_rfl, by kernel_rfl, by kernel_rfl, rfl, rfl⟩
theorem ok_111 : Ok Try.prog 111 (Try.f111.body.getD .skip) Try.f111.ntmps Try.f111.results.toList := ⟨Try.f111, by kernel_rfl, by kernel_rfl, by kernel_rfl, by kernel_rfl, rfl, rfl⟩
theorem ok_112 : Ok Try.prog 112 (Try.f112.body.getD .skip) Try.f112.ntmps Try.f112.results.toList := ⟨Try.f112, by kernel_rfl, by kernel_rfl, by kernel_rfl, by kernel_rfl, rfl, rfl⟩
theorem ok_113 : Ok Try.prog 113 (Try.f113.body.getD .skip) Try.f113.ntmps Try.f113.results.toList := ⟨Try.f113, by kernel_rfl, by kernel_rfl, by kernel_rfl, by kernel_rfl, rfl, rfl⟩
theorem ok_114 : Ok Try.prog 114 (Try.f114.body.getD .skip) Try.f114.ntmps Try.f114.results.toList := ⟨Try.f114, by kernel_rfl, by kernel_rfl, by kernel_rfl, by kernel_rfl, rfl, rfl⟩
theorem ok_115 : Ok Try.prog 115 (Try.f115.body.getD .skip) Try.f115.ntmps Try.f115.results.toList := ⟨Try.f115, by kernel_rfl, by kernel_rfl, by kernel_rfl, by kernel_rfl, rfl, rfl⟩
theorem ok_116 : Ok Try.prog 116 (Try.f116.body.getD .skip) Try.f116.ntmps Try.f116.results.toList := ⟨Try.f116, by kernel_rfl, by kernel_rfl, by kernel_rfl, by kernel_rfl, rfl, rfl⟩
theorem ok_117 : Ok Try.prog 117 (Try.f117.body.getD .skip) Try.f117.ntmps Try.f117.results.toList := ⟨Try.f117, by kernel_rfl, by kernel_rfl, by kernel_rfl, by kernel_rfl, rfl, rfl⟩
theorem ok_118 : Ok Try.prog 118 (Try.f118.body.getD .skip) Try.f118.ntmps Try.f118.results.toList := ⟨Try.f118, by kernel_rfl, by kernel_rfl, by kernel_rfl, by kernel_rfl, rfl, rfl⟩
theorem ok_119 : Ok Try.prog 119 (Try.f119.body.getD .skip) Try.f119.ntmps Try.f119.results.toList := ⟨Try.f119, by kernel_rfl, by kernel_rfl, by kernel_rfl, by kernel_rfl, rfl, rfl⟩
theorem ok_120 : Ok Try.prog 120 (Try.f120.body.getD .skip) Try.f120.ntmps Try.f120.results.toList := ⟨Try.f120, by kernel_rfl, by kernel_rfl, by kernel_rfl, by kernel_rfl, rfl, rfl⟩
theorem ok_121 : Ok Try.prog 121 (Try.f121.body.getD .skip) Try.f121.ntmps Try.f121.results.toList := ⟨Try.f121, by kernel_rfl, by kernel_rfl, by kernel_rfl, by kernel_rfl, rfl, rfl⟩
theorem ok_122 : Ok Try.prog 122 (Try.f122.body.getD .skip) Try.f122.ntmps Try.f122.results.toList := ⟨Try.f122, by kernel_rfl, by kernel_rfl, by kernel_rfl, by kernel_rfl, rfl, rfl⟩
theorem ok_123 : Ok Try.prog 123 (Try.f123.body.getD .skip) Try.f123.ntmps Try.f123.results.toList := ⟨Try.f123, by kernel_rfl, by kernel_rfl, by kernel_rfl, by kernel_rfl, rfl, rfl⟩
theorem ok_124 : Ok Try.prog 124 (Try.f124.body.getD .skip) Try.f124.ntmps Try.f124.results.toList := ⟨Try.f124, by kernel_rfl, by kernel_rfl, by kernel_rfl, by kernel_rfl, rfl, rfl⟩
theorem ok_125 : Ok Try.prog 125 (Try.f125.body.getD .skip) Try.f125.ntmps Try.f125.results.toList := ⟨Try.f125, by kernel_rfl, by kernel_rfl, by kernel_rfl, by kernel_rfl, rfl, rfl⟩
theorem ok_126 : Ok Try.prog 126 (Try.f126.body.getD .skip) Try.f126.ntmps Try.f126.results.toList := ⟨Try.f126, by kernel_rfl, by kernel_rfl, by kernel_rfl, by kernel_rfl, rfl, rfl⟩
theorem ok_127 : Ok Try.prog 127 (Try.f127.body.getD .skip) Try.f127.ntmps Try.f127.results.toList := ⟨Try.f127, by kernel_rfl, by kernel_rfl, by kernel_rfl, by kernel_rfl, rfl, rfl⟩
theorem ok_128 : Ok Try.prog 128 (Try.f128.body.getD .skip) Try.f128.ntmps Try.f128.results.toList := ⟨Try.f128, by kernel_rfl, by kernel_rfl, by kernel_rfl, by kernel_rfl, rfl, rfl⟩
theorem ok_129 : Ok Try.prog 129 (Try.f129.body.getD .skip) Try.f129.ntmps Try.f129.results.toList := ⟨Try.f129, by kernel_rfl, by kernel_rfl, by kernel_rfl, by kernel_rfl, rfl, rfl⟩
theorem ok_130 : Ok Try.prog 130 (Try.f130.body.getD .skip) Try.f130.ntmps Try.f130.results.toList := ⟨Try.f130, by kernel_rfl, by kernel_rfl, by kernel_rfl, by kernel_rfl, rfl, rfl⟩
theorem ok_131 : Ok Try.prog 131 (Try.f131.body.getD .skip) Try.f131.ntmps Try.f131.results.toList := ⟨Try.f131, by kernel_rfl, by kernel_rfl, by kernel_rfl, by kernel_rfl, rfl, rfl⟩
theorem ok_132 : Ok Try.prog 132 (Try.f132.body.getD .skip) Try.f132.ntmps Try.f132.results.toList := ⟨Try.f132, by kernel_rfl, by kernel_rfl, by kernel_rfl, by kernel_rfl, rfl, rfl⟩
theorem ok_133 : Ok Try.prog 133 (Try.f133.body.getD .skip) Try.f133.ntmps Try.f133.results.toList := ⟨Try.f133, by kernel_rfl, by kernel_rfl, by kernel_rfl, by kernel_rfl, rfl, rfl⟩
theorem ok_147 : Ok Try.prog 147 (Try.f147.body.getD .skip) Try.f147.ntmps Try.f147.results.toList := ⟨Try.f147, by kernel_rfl, by kernel_rfl, by kernel_rfl, by kernel_rfl, rfl, rfl⟩
theorem ok_148 : Ok Try.prog 148 (Try.f148.body.getD .skip) Try.f148.ntmps Try.f148.results.toList := ⟨Try.f148, by kernel_rfl, by kernel_rfl, by kernel_rfl, by kernel_rfl, rfl, rfl⟩
theorem ok_149 : Ok Try.prog 149 (Try.f149.body.getD .skip) Try.f149.ntmps Try.f149.results.toList := ⟨Try.f149, by kernel_rfl, by kernel_rfl, by kernel_rfl, by kernel_rfl, rfl, rfl⟩
theorem ok_150 : Ok Try.prog 150 (Try.f150.body.getD .skip) Try.f150.ntmps Try.f150.results.toList := ⟨Try.f150, by kernel_rfl, by kernel_rfl, by kernel_rfl, by kernel_rfl, rfl, rfl⟩
theorem ok_151 : Ok Try.prog 151 (Try.f151.body.getD .skip) Try.f151.ntmps Try.f151.results.toList := ⟨Try.f151, by kernel_rfl, by kernel_rfl, by kernel_rfl, by kernel_rfl, rfl, rfl⟩
theorem ok_152 : Ok Try.prog 152 (Try.f152.body.getD .skip) Try.f152.ntmps Try.f152.results.toList := ⟨Try.f152, by kernel_rfl, by kernel_rfl, by kernel_rfl, by kernel_rfl, rfl, rfl⟩
theorem ok_153 : Ok Try.prog 153 (Try.f153.body.getD .skip) Try.f153.ntmps Try.f153.results.toList := ⟨Try.f153, by kernel_rfl, by kernel_rfl, by kernel_rfl, by kernel_rfl, rfl, rfl⟩
theorem ok_154 : Ok Try.prog 154 (Try.f154.body.getD .skip) Try.f154.ntmps Try.f154.results.toList := ⟨Try.f154, by kernel_rfl, by kernel_rfl, by kernel_rfl, by kernel_rfl, rfl, rfl⟩
theorem ok_155 : Ok Try.prog 155 (Try.f155.body.getD .skip) Try.f155.ntmps Try.f155.results.toList := ⟨Try.f155, by kernel_rfl, by kernel_rfl, by kernel_rfl, by kernel_rfl, rfl, rfl⟩
theorem ok_156 : Ok Try.prog 156 (Try.f156.body.getD .skip) Try.f156.ntmps Try.f156.results.toList := ⟨Try.f156, by kernel_rfl, by kernel_rfl, by kernel_rfl, by kernel_rfl, rfl, rfl⟩
theorem ok_171 : Ok Try.prog 171 (Try.f171.body.getD .skip) Try.f171.ntmps Try.f171.results.toList := ⟨Try.f171, by kernel_rfl, by kernel_rfl, by kernel_rfl, by kernel_rfl, rfl, rfl⟩
theorem ok_172 : Ok Try.prog 172 (Try.f172.body.getD .skip) Try.f172.ntmps Try.f172.results.toList := ⟨Try.f172, by kernel_rfl, by kernel_rfl, by kernel_rfl, by kernel_rfl, rfl, rfl⟩
theorem ok_173 : Ok Try.prog 173 (Try.f173.body.getD .skip) Try.f173.ntmps Try.f173.results.toList := ⟨Try.f173, by kernel_rfl, by kernel_rfl, by kernel_rfl, by kernel_rfl, rfl, rfl⟩
end Go.Am
end
