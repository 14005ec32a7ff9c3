/- The abstract machine. -/
import Derived.Test.YtnihabnkoegdjaaAm0
import Derived.LaidEql
import Derived.LoopN
import Derived.Lib.LaidTab
import Derived.Lib.ItoaNum
section
set_option linter.unusedVariables false
set_option linter.unusedSimpArgs false
namespace Go.Am
open Go.RowKit
section
variable {P : Program}
theorem oE_ (a : Addr) (i j : Nat) : (a.add i).add j = a.add (i + j) := by
 unfold Addr.add
 by_cases hi : i = 0 <;> by_cases hj : j = 0 <;> simp [hi, hj, Nat.add_assoc]
theorem V.vw_drop {E : Env} {a : Addr} {us : List Value} {cs : List T} (h1 : VL E us cs) (h2 : ∀ j u, us[j]? = some u → E.F (a.add j) = some u) (k : Nat) : V E (.pointer (some (a.add k))) (.vw (cs.drop k)) := by
 refine V.vw_iff.2 ⟨_, us.drop k, rfl, h1.drop k, fun j u hu => ?_⟩
 rw [List.getElem?_drop] at hu
 rw [oE_]; exact h2 _ _ hu
theorem fR_ {t : TypeId} {f off n : Nat} {ft : TypeId} (h : bu_ P t f = some (off, ft, n)) :
  ∃ fs x, P.underlying t = some (.struct fs) ∧ fs[f]? = some x ∧ x.offset = off ∧ x.type = ft ∧ szOf P ft = some n := by
 unfold bu_ at h
 split at h
 ·rename_i fs hfs
  obtain ⟨x, hx, h1⟩ := Option.bind_eq_some_iff.1 h
  obtain ⟨m, hm, h2⟩ := Option.map_eq_some_iff.1 h1
  injection h2 with h2 h3; injection h3 with h3 h4
  subst h2; subst h3; subst h4
  exact ⟨fs, x, hfs, hx, rfl, rfl, hm⟩
 ·cases h
theorem iF_ {w : World} {t : TypeId} {f off n : Nat} {ft : TypeId} (h : bu_ P t f = some (off, ft, n)) (hn : n ≠ 0) (a : Addr) : (Instr.fieldAt t (.pointer (some a)) f).run P w = .ok (.pointer (some (a.add off))) w := by
 obtain ⟨fs, x, h1, h2, h3, h4, h5⟩ := fR_ h
 subst h3; subst h4
 simp [Instr.fieldAt, run_underlying h1, h2, Instr.sureAddr, fieldPlace, b1_ h5, hn]
theorem iO_ {B0 w0 E σ w} (hR : Rel B0 w0 E σ w) {t : TypeId} {x i r : T} {v u : Value} (hx : V E v x) (hi : V E u i) (h : eM_ P σ t x i = some r) : eJ_ P E w (Instr.indexAt t v u) r := by
 unfold eM_ at h
 split at h
 ·rename_i k j
  obtain rfl := hi.int_inv
  obtain ⟨e, he, q1⟩ := Option.bind_eq_some_iff.1 h
  obtain ⟨sz, hsz, q2⟩ := Option.bind_eq_some_iff.1 q1
  clear h q1
  have ht := bl_ he
  split at q2
  ·rename_i z n cs
   split at q2
   ·rename_i hc
    injection q2 with q2; subst q2
    rcases V.row_iff.1 hx with ⟨_, rfl, _⟩ | ⟨_, a, c, us, rfl, _, h1, h2⟩
    ·omega
    ·have hlt : j < (n : Int) := hc.2.1
     refine ⟨.pointer (some (a.add (j.toNat * sz))), ?_, V.vw_drop h1 h2 _⟩
     simp [Instr.indexAt, asIntOf, run_underlying ht, hc.1, hlt, b1_ hsz]
   ·cases q2
  ·rename_i b ep off n
   obtain ⟨B, hb, q3⟩ := Option.bind_eq_some_iff.1 q2
   clear q2
   split at q3
   ·rename_i hc
    injection q3 with q3; subst q3
    obtain ⟨h0, h1, h2⟩ := hc
    cases hx with
    | ref hJ hlen ha =>
     rename_i c inc a
     obtain ⟨_, hesz⟩ := hR.jep _ _ _ _ hb hJ
     rcases ha with ⟨rfl, _⟩ | ⟨rfl, _⟩
     ·refine ⟨.pointer (some (Addr.add ⟨inc.g, off, none⟩ (j.toNat * sz))), by simp [Instr.indexAt, asIntOf, run_underlying ht, h0, h1, b1_ hsz], ?_⟩
      rw [iZ_]
      refine V.ptr hJ ?_
      rw [hesz, h2] at hlen
      have : (j.toNat + 1) * sz ≤ n * sz := Nat.mul_le_mul_right _ (by omega)
      rw [Nat.add_mul] at this
      omega
     ·omega
   ·cases q3
  ·cases q2
 ·cases h
theorem m0_ {E : Env} {w : World} {t ty : TypeId} {x r : T} {v : Value} (hx : V E v x) (h : capA P t x = some r) : eJ_ P E w (Builtin.cap_ #[t] ty #[v]) r := by
 unfold capA at h
 split at h
 ·split at h
  ·rename_i hc; injection h with h; subst h
   obtain ⟨e, he⟩ := b7_ hc
   cases hx; exact ⟨_, by simp [Builtin.cap_, run_underlying he, goInt], .int _ _⟩
  ·cases h
 ·split at h
  ·rename_i hc; injection h with h; subst h
   obtain ⟨e, he⟩ := b7_ hc
   cases hx; exact ⟨_, by simp [Builtin.cap_, run_underlying he, goInt], .int _ _⟩
  ·cases h
 ·cases h
theorem m2_ {E : Env} {σ : St} {w : World} {t ty : TypeId} {x r : T} {v : Value} (hx : V E v x) (h : lenA P σ t x = some r) : eJ_ P E w (Builtin.len_ #[t] ty #[v]) r := by
 unfold lenA at h
 split at h
 ·split at h
  ·rename_i hc; injection h with h; subst h; cases hx
   exact ⟨_, by simp [Builtin.len_, run_underlying (bZ_ hc), goInt], .int _ _⟩
  ·cases h
 ·split at h
  ·rename_i hc; injection h with h; subst h
   obtain ⟨e, he⟩ := b7_ hc
   cases hx <;> exact ⟨_, by simp [Builtin.len_, run_underlying he, goInt], .int _ _⟩
  ·cases h
 ·split at h
  ·rename_i hc; injection h with h; subst h
   obtain ⟨e, he⟩ := b7_ hc
   cases hx; exact ⟨_, by simp [Builtin.len_, run_underlying he, goInt], .int _ _⟩
  ·cases h
 ·split at h
  ·rename_i hc; injection h with h; subst h
   obtain ⟨e, he⟩ := b7_ hc
   cases hx; exact ⟨_, by simp [Builtin.len_, run_underlying he, goInt], .int _ _⟩
  ·cases h
 ·cases h
theorem k0_ {E : Env} {w : World} {t : TypeId} {x i r : T} {v u : Value} (hx : V E v x) (hi : V E u i) (h : iY_ P t x i = some r) : eJ_ P E w (Instr.index t v u) r := by
 unfold iY_ at h
 split at h
 ·split at h
  ·rename_i hc
   split at h
   ·rename_i hj
    injection h with h; subst h
    cases hx; cases hi
    refine ⟨_, ?_, .int _ _⟩
    simp [Instr.index, asIntOf, run_underlying (bZ_ hc), hj.1, hj.2]
   ·cases h
  ·cases h
 ·cases h
def optV : Option T → Option Value → Prop
 | none, none => True
 | some (.int k n), some v => v = .int k n
 | _, _ => False
theorem jd_ {w : World} {x : Option T} {v : Option Value} {d m : Nat} {code : BoundsCode} {y : Nat} (hxv : optV x v) (h : boundA x d = some m) (hm : m ≤ y) :
  (x = none → v = none ∧ m = d) ∧ (∀ z, v = some z → (Instr.sliceBound z y code).run P w = .ok m w) := by
 unfold boundA at h
 split at h
 ·injection h with h; subst h
  refine ⟨fun _ => ⟨by cases v <;> simp_all [optV], rfl⟩, fun z hz => by subst hz; simp [optV] at hxv⟩
 ·rename_i k i
  split at h
  ·rename_i hi
   injection h with h; subst h
   refine ⟨fun hh => (by cases hh), fun z hz => ?_⟩
   subst hz
   simp only [optV] at hxv
   subst hxv
   have hle : i ≤ (y : Int) := by omega
   simp [Instr.sliceBound, asIntOf, hi, hle]
  ·cases h
 ·cases h
theorem c9_ {w : World} {isS : Bool} {len cap l h : Nat} {lo hi : Option T} {vlo vhi : Option Value} (hlo : optV lo vlo) (hhi : optV hi vhi)
  (eh : boundA hi len = some h) (el : boundA lo 0 = some l) (h1 : l ≤ h) (h2 : h ≤ cap) : (Instr.sliceBounds isS len cap vlo vhi none).run P w = .ok (l, h, cap) w := by
 obtain ⟨c1, c2⟩ := jd_ (P := P) (w := w) (code := if isS then .sliceAcap else .sliceAlen) hhi eh h2
 obtain ⟨d1, d2⟩ := jd_ (P := P) (w := w) (code := .sliceB) hlo el h1
 have none_of : ∀ (x : Option T), optV x none → x = none := fun x hx => by
  cases x with
  | none => rfl
  | some x => cases x <;> simp [optV] at hx
 cases vhi with
 | none =>
  obtain ⟨_, rfl⟩ := c1 (none_of _ hhi)
  cases vlo with
  | none =>
   obtain ⟨_, rfl⟩ := d1 (none_of _ hlo)
   simp [Instr.sliceBounds]
  | some z =>
   have := d2 z rfl
   simp [Instr.sliceBounds, this]
 | some y =>
  have hy := c2 y rfl
  cases vlo with
  | none =>
   obtain ⟨_, rfl⟩ := d1 (none_of _ hlo)
   simp [Instr.sliceBounds, hy]
  | some z =>
   have := d2 z rfl
   simp [Instr.sliceBounds, hy, this]
theorem kf_ {B0 w0 E σ w} (hR : Rel B0 w0 E σ w) {t : TypeId} {x r : T} {lo hi : Option T} {v : Value} {vlo vhi : Option Value} (hx : V E v x) (hlo : optV lo vlo) (hhi : optV hi vhi) (h : fL_ P σ t x lo hi none = some r) :
  eJ_ P E w (Instr.sliceAt t v vlo vhi none) r := by
 unfold fL_ at h
 split at h
 ·rename_i s
  split at h
  ·rename_i hc
   obtain ⟨hh, eh, q1⟩ := Option.bind_eq_some_iff.1 h
   obtain ⟨l, el, q2⟩ := Option.bind_eq_some_iff.1 q1
   split at q2
   ·rename_i hb
    injection q2 with q2; subst q2
    cases hx
    refine ⟨_, ?_, .str _⟩
    simp [Instr.sliceAt, Instr.slice, run_underlying (bZ_ hc), c9_ hlo hhi eh el hb.1 hb.2]
   ·cases q2
  ·cases h
 ·rename_i z n cs
  obtain ⟨e, he, q1⟩ := Option.bind_eq_some_iff.1 h
  obtain ⟨sz, hsz, q2⟩ := Option.bind_eq_some_iff.1 q1
  obtain ⟨hh, eh, q3⟩ := Option.bind_eq_some_iff.1 q2
  obtain ⟨l, el, q4⟩ := Option.bind_eq_some_iff.1 q3
  clear h q1 q2 q3
  have ht := bl_ he
  split at q4
  ·rename_i hb
   injection q4 with q4; subst q4
   obtain ⟨b1, b2, b3⟩ := hb
   rcases V.row_iff.1 hx with ⟨rfl, rfl, rfl, rfl⟩ | ⟨rfl, a, c, us, rfl, h0, h1, h2⟩
   ·have hl0 : l = 0 := by omega
    have hh0 : hh = 0 := by omega
    subst hl0; subst hh0
    refine ⟨.slice none 0 0, ?_, ?_⟩
    ·simp [Instr.sliceAt, Instr.slice, run_underlying ht, c9_ hlo hhi eh el b1 (Nat.le_refl 0), b1_ hsz]
    ·simpa using V.rown
   ·refine ⟨.slice (some (if c = l then a else a.add (l * sz))) (hh - l) (c - l), ?_, ?_⟩
    ·simp only [Instr.sliceAt, Instr.slice, Sem.run_bind, run_underlying ht, Result.andThen_ok, c9_ hlo hhi eh el b1 (show hh ≤ c by omega), b1_ hsz, Sem.run_pure]
     split <;> rfl
    ·refine V.row_iff.2 (.inr ⟨rfl, _, _, (us.drop (l * sz)).take ((hh - l) * sz), rfl, by omega, (h1.drop _).take _, fun j u hu => ?_⟩)
     split
     ·have : hh - l = 0 := by omega
      rw [this] at hu; simp at hu
     ·rw [List.getElem?_take] at hu
      split at hu
      ·rw [List.getElem?_drop] at hu; rw [oE_]; exact h2 _ _ hu
      ·cases hu
  ·cases q4
 ·rename_i b ep off n
  obtain ⟨e, he, q1⟩ := Option.bind_eq_some_iff.1 h
  obtain ⟨sz, hsz, q2⟩ := Option.bind_eq_some_iff.1 q1
  obtain ⟨B, hb, q5⟩ := Option.bind_eq_some_iff.1 q2
  obtain ⟨hh, eh, q3⟩ := Option.bind_eq_some_iff.1 q5
  obtain ⟨l, el, q4⟩ := Option.bind_eq_some_iff.1 q3
  clear h q1 q2 q3 q5
  have ht := bl_ he
  split at q4
  ·rename_i hbb
   injection q4 with q4; subst q4
   obtain ⟨b1, b2, b3, b4, b5⟩ := hbb
   cases hx with
   | ref hJ hlen ha =>
    rename_i c i a
    obtain ⟨_, hesz⟩ := hR.jep _ _ _ _ hb hJ
    have hszi : i.esz = sz := by rw [hesz, b3]
    obtain ⟨arr, aty, fr, f1, f2, f3, f4, f5, f6, f7⟩ := hR.form hb hJ b4
    rw [hszi] at hlen ha
    have hnc : n ≤ c := by
     rcases ha with ⟨_, hcap⟩ | ⟨h0, _⟩
     ·have h3 : n * sz ≤ c * sz := by omega
      exact Nat.le_of_mul_le_mul_right h3 (by omega)
     ·omega
    refine ⟨.slice (some (if c = l then a else a.add (l * sz))) (hh - l) (c - l), ?_, ?_⟩
    ·simp only [Instr.sliceAt, Instr.slice, Sem.run_bind, run_underlying ht, Result.andThen_ok, c9_ hlo hhi eh el b1 (show hh ≤ c by omega), b1_ hsz, Sem.run_pure]
     split <;> rfl
    ·have e1 : l * sz + (hh - l) * sz = hh * sz := by rw [← Nat.add_mul, show l + (hh - l) = hh by omega]
     have e2 : hh * sz ≤ n * sz := Nat.mul_le_mul_right _ b2
     refine V.ref hJ (by rw [hszi]; omega) ?_
     rw [hszi]
     split
     ·exact .inr ⟨by omega, by omega⟩
     ·rcases ha with ⟨rfl, hcap⟩ | ⟨h0, h1⟩
      ·refine .inl ⟨by rw [iZ_], ?_⟩
       have : l * sz + (c - l) * sz = c * sz := by rw [← Nat.add_mul, show l + (c - l) = c by omega]
       omega
      ·exact .inr ⟨by omega, by omega⟩
  ·cases q4
 ·cases h
end
end Go.Am
end
section
set_option linter.unusedVariables false
set_option linter.unusedSimpArgs false
namespace Go.Am
open Go.RowKit
section
variable {P : Program}
theorem foldl_set : ∀ (vs : List Value) (k off : Nat) (arr : Array Value), off + k + vs.length ≤ arr.size →
  ((vs.zipIdx k).foldl (fun (cs : Array Value) (x : Value × Nat) => cs.setIfInBounds (off + x.2) x.1) arr).toList = arr.toList.take (off + k) ++ vs ++ arr.toList.drop (off + k + vs.length)
 | [], k, off, arr, _ => by simp
 | v :: r, k, off, arr, h => by
  simp only [List.length_cons] at h
  rw [List.zipIdx_cons, List.foldl_cons]
  have hsz : (arr.setIfInBounds (off + k) v).size = arr.size := by simp
  rw [foldl_set r (k + 1) off _ (by rw [hsz]; omega)]
  rw [Array.toList_setIfInBounds, show off + (k + 1) = off + k + 1 by omega]
  exact iG_ arr.toList (off + k) v r (by simp; omega)
theorem jC_ (vs arr : Array Value) (off : Nat) (h : off + vs.size ≤ arr.size) :
  (vs.zipIdx.foldl (fun (cs : Array Value) (x : Value × Nat) => cs.setIfInBounds (off + x.2) x.1) arr).toList = arr.toList.take off ++ vs.toList ++ arr.toList.drop (off + vs.toList.length) := by
 rw [← Array.foldl_toList, Array.toList_zipIdx]
 have := foldl_set vs.toList 0 off arr (by simpa using h)
 simpa using this
def VPs (E : Env) : List (Nat × Value) → List (Nat × T) → Prop
 | [], [] => True
 | (i, v) :: vs, (j, t) :: ts => i = j ∧ V E v t ∧ VPs E vs ts
 | _, _ => False
theorem hx_ {E : Env} {a : Act} {s : Nat → T} (hS : eB_ E a s) : ∀ {xs : List (Nat × Operand)} {ts : List (Nat × T)}, dh_ s xs = some ts → VPs E (xs.map fun (i, x) => (i, a.eval x)) ts
 | [], ts, h => by injection h with h; subst h; trivial
 | (i, x) :: xs, ts, h => by
  simp only [dh_, Option.bind_eq_some_iff, Option.map_eq_some_iff] at h
  obtain ⟨t, ht, ts', hts, rfl⟩ := h
  exact ⟨rfl, ax_ hS ht, hx_ hS hts⟩
theorem ho_ {E : Env} {place : Nat → Option (Nat × Nat)} {placeV : Nat → Option (Nat × Nat)} (hp : ∀ i o n, place i = some (o, n) → placeV i = some (o, n)) :
  ∀ {ps : List (Nat × T)} {vs : List (Nat × Value)} {cells r : List T} {arr : Array Value}, VPs E vs ps → VL E arr.toList cells → et_ place cells ps = some r →
   ∃ arr', Instr.fill placeV arr vs = some arr' ∧ VL E arr'.toList r ∧ arr'.size = arr.size
 | [], [], cells, r, arr, hv, hc, h => by
  injection h with h; subst h
  exact ⟨arr, rfl, hc, rfl⟩
 | [], _ :: _, cells, r, arr, hv, hc, h => hv.elim
 | (i, t) :: ps, [], cells, r, arr, hv, hc, h => hv.elim
 | (i, t) :: ps, (i', v) :: vs, cells, r, arr, hv, hc, h => by
  obtain ⟨rfl, hvt, hvs⟩ := hv
  simp only [et_] at h
  obtain ⟨⟨off, size⟩, hpl, h1⟩ := Option.bind_eq_some_iff.1 h
  simp only at h1
  split at h1
  ·rename_i hcd
   obtain ⟨d1, d2, d3⟩ := hcd
   have hvc := hvt.cells
   have hvl := hvc.1
   have hcl := hc.1
   simp at hvl hcl
   have hz : v.cells.size = size := by omega
   have hfs := jC_ v.cells arr off (by omega)
   obtain ⟨arr', e1, e2, e3⟩ := ho_ (E := E) hp (vs := vs) (ps := ps) (cells := splice cells off t.cells) (r := r) (arr := v.cells.zipIdx.foldl (fun (cs : Array Value) (x : Value × Nat) => cs.setIfInBounds (off + x.2) x.1) arr)
    hvs (by rw [hfs]; exact hc.splice hvc off) h1
   refine ⟨arr', ?_, e2, ?_⟩
   ·simp only [Instr.fill, hp _ _ _ hpl]
    rw [if_neg (by simp [hz]; omega)]
    exact e1
   ·rw [e3, ← Array.length_toList, hfs]; simp; omega
  ·cases h1
theorem lg_ {E : Env} {w : World} {t : TypeId} {z r : List T} {ps : List (Nat × T)} {vs : Array (Nat × Value)} (hz : aZ_ P t = some z) (hps : VPs E vs.toList ps) (hk : aH_ P t = 7)
  (h : et_ (fun i => (bu_ P t i).map fun (o, _, n) => (o, n)) z ps = some r) (hall : ∀ fs, P.underlying t = some (.struct fs) → ∀ f ∈ fs, ∃ n, szOf P f.type = some n) : eJ_ P E w (Instr.build t vs) (.agg r) := by
 obtain ⟨i, v, hi, hv, hvl⟩ := di_ hz E
 obtain ⟨fs, hfs⟩ := hz_ hk
 have hpl : ∀ (l : List Field), (∀ f ∈ l, ∃ n, szOf P f.type = some n) → (l.mapM fun f => do pure (f.offset, ← sizeOf f.type) : Sem (List (Nat × Nat))).run P w = .ok (l.map fun f => (f.offset, (szOf P f.type).getD 0)) w := fun l => by
  induction l with
  | nil => intro _; simp
  | cons f l ih =>
   intro hl
   obtain ⟨n, hn⟩ := hl f (by simp)
   have := ih (fun f hf => hl f (by simp [hf]))
   simp only [List.mapM_cons, Sem.run_bind, b1_ hn, Result.andThen_ok, Sem.run_pure, this, List.map_cons, hn, Option.getD_some]
 have hpl' : (fs.mapM fun f => (do pure (f.offset, ← sizeOf f.type) : Sem (Nat × Nat))).run P w = .ok (fs.map fun f => (f.offset, (szOf P f.type).getD 0)) w := by
  have h1 := hpl fs.toList (fun f hf => hall fs hfs f (by simpa using hf))
  rw [Array.mapM_eq_mapM_toList]
  simp at h1
  simp [h1]
  apply Array.ext'
  simp
 obtain ⟨arr', e1, e2, e3⟩ := ho_ (E := E) (placeV := fun i => (fs.map fun f => (f.offset, (szOf P f.type).getD 0))[i]?) (place := fun i => (bu_ P t i).map fun (o, _, n) => (o, n)) (fun i o n hh => by
  obtain ⟨⟨o', ft, n'⟩, hf, he⟩ := Option.map_eq_some_iff.1 hh
  obtain ⟨fs', x, q1, q2, q3, q4, q5⟩ := fR_ hf
  rw [hfs] at q1; injection q1 with q1; injection q1 with q1; subst q1
  simp at he
  obtain ⟨rfl, rfl⟩ := he
  subst q4
  simp [q2, q3, q5]) hps hvl h
 refine ⟨.agg arr', ?_, V.agg_iff.2 ⟨_, rfl, e2⟩⟩
 have hz' : (zeroValue t).run P w = .ok v w := by simp [zeroValue, typeInfo, hi, hv]
 simp only [Instr.build, Sem.run_bind, hz', run_underlying hfs, Result.andThen_ok, hpl', e1, Sem.run_pure]
theorem V.emp_or {E : Env} {a : Addr} {b n c : Nat} (h : V E (.slice (some a) n c) (.ref b 0 0 n)) (p : Prop) [Decidable p] (hp : p → n = 0 ∧ c = 0) : V E (.slice (some a) n c) (if p then .emp else .ref b 0 0 n) := by
 split
 ·rename_i h0
  obtain ⟨rfl, rfl⟩ := hp h0
  exact .emp
 ·exact h
theorem hH_ {B0 w0 E σ w} (hR : Rel B0 w0 E σ w) {k : Option Nat} (hk : σ.okK k = true) {t e : TypeId} {sz len : Nat} {z cs : List T} {ps : List (Nat × T)} {vs : Array (Nat × Value)} (he : av_ P t = some e) (hsz : szOf P e = some sz) (hz : aZ_ P e = some z)
  (hps : VPs E vs.toList ps) (hl : z.length = sz) (hlen : len * sz ≤ 2 ^ 24) (hsz0 : sz ≠ 0) (h : et_ (fun i => some (i * sz, sz)) ((List.replicate len z).flatten) ps = some cs) :
  dD_ P B0 w0 E σ w (Instr.buildSlice t len vs) (if len = 0 then .emp else .ref (σ.nid k) 0 0 len) (σ.pushK k (aP_ cs sz)) := by
 obtain ⟨i, v, hi, hv, hvl⟩ := di_ hz E
 have hvz : v.cells.size = sz := by have := hvl.1; simp at this; omega
 have ht := bl_ he
 have hz' : (zeroValue e).run P w = .ok v w := by simp [zeroValue, typeInfo, hi, hv]
 have fill0 : ∀ (arr0 : Array Value), VL E arr0.toList ((List.replicate len z).flatten) → arr0.size = len * sz → ∃ arr', Instr.fill (fun i => some (i * sz, sz)) arr0 vs.toList = some arr' ∧ dD_ P B0 w0 E σ w (do pure (.slice (some (← newRow e arr')) len len) : Sem Value) (if len = 0 then .emp else .ref (σ.nid k) 0 0 len) (σ.pushK k (aP_ cs sz)) := fun arr0 h0 hs0 => by
  obtain ⟨arr', e1, e2, e3⟩ := ho_ (E := E) (placeV := fun i => some (i * sz, sz)) (fun _ _ _ h => h) hps h0 h
  have hcl := e2.1
  simp at hcl
  obtain ⟨E', h1, h2, h3, _, h5⟩ := e8_ hR hk (arr := arr') e (cells := cs) sz (by omega) (by rw [← hcl, ← Array.length_toList, List.take_length]; exact e2)
  exact ⟨arr', e1, E', _, _, h1, by simp [newRow], h2, V.emp_or (h5 len len (by omega) (by omega)) (len = 0) (fun h => ⟨h, h⟩), h3⟩
 have hle : ¬ (len * sz > 2 ^ 24) := by omega
 by_cases hn : len * sz = 0
 ·obtain ⟨arr', e1, e2⟩ := fill0 #[] (by
   have : len = 0 := by rcases Nat.mul_eq_zero.1 hn with h | h <;> omega
   subst this; simpa using VL.nil E) (by simp [hn])
  have : (Instr.buildSlice t len vs).run P w = (do pure (.slice (some (← newRow e arr')) len len) : Sem Value).run P w := by
   simp only [Instr.buildSlice, Sem.run_bind, run_underlying ht, b1_ hsz, Result.andThen_ok]
   rw [if_neg hle]
   simp only [hn, if_true, Sem.run_bind, Sem.run_pure, Result.andThen_ok]
   have : ((Array.range 0).map ((#[] : Array Value)[· % (#[] : Array Value).size]!)) = #[] := by simp
   rw [this, e1]
   simp
  unfold dD_ at e2 ⊢
  rw [this]; exact e2
 ·obtain ⟨arr', e1, e2⟩ := fill0 ((Array.range (len * sz)).map (v.cells[· % v.cells.size]!)) (by
   have := fs_ hvl len
   rw [hvz] at this ⊢
   exact this) (by simp)
  have : (Instr.buildSlice t len vs).run P w = (do pure (.slice (some (← newRow e arr')) len len) : Sem Value).run P w := by
   simp only [Instr.buildSlice, Sem.run_bind, run_underlying ht, b1_ hsz, Result.andThen_ok]
   rw [if_neg hle]
   simp only [hn, if_false, Sem.run_bind, hz', Sem.run_pure, Result.andThen_ok]
   rw [e1]
   simp
  unfold dD_ at e2 ⊢
  rw [this]; exact e2
theorem ix_ {B0 w0 E σ w} (hR : Rel B0 w0 E σ w) {k : Option Nat} (hk : σ.okK k = true) {t e : TypeId} {sz by_ : Nat} {ka kb : IntKind} {l c : Int} {z : List T} (he : av_ P t = some e) (hsz : szOf P e = some sz) (hby : bY_ P e = some by_) (hz : aZ_ P e = some z)
  (hl : z.length = sz) (hsz0 : sz ≠ 0) (h0 : 0 ≤ l) (h1 : l ≤ c) (h2 : c * by_ ≤ 2 ^ 40) (h3 : c ≤ 2 ^ 40) :
  dD_ P B0 w0 E σ w (Instr.makeSlice t (.int ka l) (.int kb c)) (if l = 0 ∧ c = 0 then .emp else .ref (σ.nid k) 0 0 l.toNat) (σ.pushK k (aP_ ((List.replicate l.toNat z).flatten) sz)) := by
 obtain ⟨i, v, hi, hv, hvl⟩ := di_ hz E
 have hvz : v.cells.size = sz := by have := hvl.1; simp at this; omega
 have ht := bl_ he
 have hz' : (zeroValue e).run P w = .ok v w := by simp [zeroValue, typeInfo, hi, hv]
 obtain ⟨i', hi', hbyi⟩ := Option.map_eq_some_iff.1 hby
 rw [hi] at hi'; injection hi' with hi'; subst hi'
 have wr : ∀ x : Int, 0 ≤ x → x ≤ 2 ^ 40 → w4 x = x := fun x a b => by
  simp [w4, IntKind.wrap, IntKind.bits, IntKind.signed]; omega
 have hlen : ((List.replicate l.toNat z).flatten).length = l.toNat * sz := by simp [hl]
 have hszR : ((Array.range (c.toNat * sz)).map (v.cells[· % v.cells.size]!)).size = c.toNat * sz := by simp
 have hlc : l.toNat * sz ≤ c.toNat * sz := Nat.mul_le_mul_right _ (by omega)
 have hpre : VL E (((Array.range (c.toNat * sz)).map (v.cells[· % v.cells.size]!)).toList.take (l.toNat * sz)) ((List.replicate l.toNat z).flatten) := by
  have := fs_ hvl l.toNat
  rw [hvz] at this ⊢
  have e : ((Array.range (c.toNat * sz)).map (v.cells[· % sz]!)).toList.take (l.toNat * sz) = ((Array.range (l.toNat * sz)).map (v.cells[· % sz]!)).toList := by
   simp only [Array.toList_map, Array.toList_range, ← List.map_take, List.take_range, Nat.min_eq_left hlc]
  rw [e]; exact this
 obtain ⟨E', k1, k2, k3, _, k5⟩ := e8_ hR hk (arr := (Array.range (c.toNat * sz)).map (v.cells[· % v.cells.size]!)) e (cells := (List.replicate l.toNat z).flatten) sz (by rw [hlen, hszR]; exact hlc) (by rw [hlen]; exact hpre)
 refine ⟨E', _, _, k1, ?_, k2, V.emp_or (k5 l.toNat c.toNat (by rw [hlen]) (by rw [hszR])) (l = 0 ∧ c = 0) (fun h => ⟨by omega, by omega⟩), k3⟩
 have hask : ∀ n, (askRoom n).run P w = .ok () w := fun n => by unfold askRoom; split <;> simp [mark, Sem.run]
 have hti : (typeInfo e).run P w = .ok i w := by simp [typeInfo, hi]
 have wl := wr l h0 (by omega)
 have wc := wr c (by omega) h3
 have n1 : ¬ c < 0 := by omega
 have n2 : ¬ l < 0 := by omega
 have n3 : ¬ l > c := by omega
 have n4 : ¬ ((i.bytes : Int) * c > 2 ^ 48) := by rw [hbyi, Int.mul_comm]; omega
 have n5 : c.toNat * sz = 0 → False ∨ c = 0 := fun h => by rcases Nat.mul_eq_zero.1 h with h | h <;> omega
 simp only [Instr.makeSlice, Sem.run_bind, run_underlying ht, asInt, asIntOf, Sem.run_pure, Result.andThen_ok, hti, wl, wc]
 rw [if_neg (by simp [n1, n2, n4]; omega)]
 by_cases hc0 : c.toNat * sz = 0
 ·simp [hask, b1_ hsz, hc0, newRow]
  rw [show Array.range 0 = #[] from rfl, Array.map_empty, Array.map_empty]
 ·simp [hask, b1_ hsz, hc0, newRow, hz']
theorem kY_ {E : Env} {w : World} {t e : TypeId} {x r : T} {v : Value} {k k' : IntKind} {sz : Nat} (hx : V E v x) (he : av_ P t = some e) (hsz : szOf P e = some sz)
  (h : (∃ z n cs, x = .row z n cs ∧ r = if z then .row true 0 [] else .emp) ∨ (∃ b ep off n, x = .ref b ep off n ∧ r = .emp)) :
  eJ_ P E w (Instr.sliceAt t v none (some (.int k 0)) (some (.int k' 0))) r := by
 have ht := bl_ he
 have key : ∀ (a : Option Addr) (n c : Nat), (Instr.sliceAt t (.slice a n c) none (some (.int k 0)) (some (.int k' 0))).run P w = .ok (.slice a 0 0) w := fun a n c => by
  have hc : (0 : Int) ≤ (c : Int) := by omega
  simp [Instr.sliceAt, Instr.slice, run_underlying ht, Instr.sliceBounds, Instr.sliceBound, asIntOf, hc, b1_ hsz]
 rcases h with ⟨z, n, cs, rfl, rfl⟩ | ⟨b, ep, off, n, rfl, rfl⟩
 ·rcases V.row_iff.1 hx with ⟨rfl, rfl, rfl, rfl⟩ | ⟨rfl, a, c, us, rfl, _⟩
  ·exact ⟨_, key none 0 0, .rown⟩
  ·exact ⟨_, key (some a) n c, .emp⟩
 ·cases hx
  exact ⟨_, key _ _ _, .emp⟩
theorem gT_ {E : Env} : ∀ {cs : List T} {l : List UInt8} {us : List Value}, ofBytes cs = some l → VL E us cs → us = (l.map fun b => Value.int .u8 (b.toNat : Int))
 | [], l, us, h, hv => by
  injection h with h; subst h
  have := hv.1; simpa using this
 | c :: cs, l, [], h, hv => by have := hv.1; simp at this
 | c :: cs, l, u :: us, h, hv => by
  unfold ofBytes at h
  split at h
  ·rename_i heq; cases heq
  ·rename_i n cs' heq
   injection heq with h1 h2; subst h1; subst h2
   split at h
   ·rename_i hn
    obtain ⟨l', hl', rfl⟩ := Option.map_eq_some_iff.1 h
    have h1 := hv.head
    obtain rfl := h1.int_inv
    rw [gT_ hl' hv.tail]
    simp
    omega
   ·cases h
  ·cases h
theorem lj_ {B0 w0 E σ w} (hR : Rel B0 w0 E σ w) {k : Option Nat} {src dst : TypeId} {x r : T} {v : Value} {σ' : St} (hx : V E v x) (h : iM_ P k σ src dst x = some (r, σ')) : dD_ P B0 w0 E σ w (convert src dst v) r σ' := by
 unfold iM_ at h
 split at h
 ·split at h
  ·rename_i hs
   split at h
   ·rename_i kd hd
    injection h with h; injection h with h1 h2; subst h1; subst h2
    obtain ⟨k', hk'⟩ := hf_ hs
    obtain rfl := hx.int_inv
    exact dD_.pure hR (by simp [convert, run_underlying hk', run_underlying hd, Conv.intToInt]) (.int _ _)
   ·cases h
  ·cases h
 ·split at h
  ·rename_i hs
   have hs := bZ_ hs
   split at h
   ·rename_i hd
    have hd := bZ_ hd
    injection h with h; injection h with h1 h2; subst h1; subst h2
    obtain rfl := hx.str_inv
    exact dD_.pure hR (by simp [convert, run_underlying hs, run_underlying hd]) (.str _)
   ·obtain ⟨e, he, h⟩ := Option.bind_eq_some_iff.1 h
    split at h
    ·rename_i hc
     injection h with h; injection h with h1 h2; subst h1; subst h2
     obtain rfl := hx.str_inv
     rename_i s _ _ 
     have hrun := Lib.run_convert_string_bytes (P := P) w src dst e s hs (bl_ he) (jZ_ hc.1)
     have hsz : (Lib.bytesCells w e s).size = grownCap w s.size 0 e := by
      have := eg_ w s.size 0 e
      simp [Lib.bytesCells]; omega
     obtain ⟨r1, r2, r3⟩ := hR.drew.push hc.2.2 (arr := Lib.bytesCells w e s) (ty := e) (cells := dB_ s) (esz := 1) ((Lib.bytesCells w e s).size, (Lib.bytesCells w e s).size + 1)
      (by rw [hsz]; simpa [dB_] using eg_ w s.size 0 e) (by
       have : (Lib.bytesCells w e s).toList.take (dB_ s).length = byteCells s := by
        simp [Lib.bytesCells, dB_, byteCells]
       rw [this]
       refine ⟨by simp [byteCells, dB_], fun j h1 h2 => ?_⟩
       simp only [byteCells, dB_, List.getElem_map]
       constructor) (fun o ho => by omega)
     have hw : Lib.bytesWorld w e s = { w.drew with heap := w.drew.heap.push (.cells (Lib.bytesCells w e s) e ((Lib.bytesCells w e s).size, (Lib.bytesCells w e s).size + 1)) } := by
      have e1 := Lib.bytesWorld_at_new w e s
      have e2 := Lib.bytesWorld_size w e s
      have e3 := fun j hj => Lib.bytesWorld_at_old w e s j hj
      have eh : (Lib.bytesWorld w e s).heap = w.drew.heap.push (.cells (Lib.bytesCells w e s) e ((Lib.bytesCells w e s).size, (Lib.bytesCells w e s).size + 1)) := by
       apply Array.ext_getElem?
       intro j
       rcases Nat.lt_trichotomy j w.heap.size with hj | hj | hj
       ·rw [e3 j hj]
        show _ = (w.heap.push _)[j]?
        rw [Array.getElem?_push, if_neg (by omega)]
       ·subst hj
        rw [e1]
        show _ = (w.heap.push _)[w.heap.size]?
        simp
       ·rw [Array.getElem?_eq_none (by omega)]
        show _ = (w.heap.push _)[j]?
        rw [Array.getElem?_eq_none (by simp; omega)]
      have : ∀ (a b : World), a.heap = b.heap → a.tape = b.tape → a.drawn = b.drawn → a.os = b.os → a.output = b.output → a = b := fun a b h1 h2 h3 h4 h5 => by
       cases a; cases b; simp_all
      exact this _ _ eh rfl rfl rfl rfl
     rw [hw] at hrun
     refine ⟨_, _, _, r1, hrun, r2, ?_, r3.drew'⟩
     exact V.ref (i := ⟨w.heap.size, (dB_ s).length, (Lib.bytesCells w e s).size, 1⟩) (by simp [Env.bind]) (by simp [dB_]) (.inl ⟨rfl, by simp [hsz]⟩)
    ·cases h
  ·cases h
 ·rename_i hni hns
  split at h
  ·rename_i hd
   have hd := bZ_ hd
   obtain ⟨e, he, h1⟩ := Option.bind_eq_some_iff.1 h
   split at h1
   ·rename_i hu
    obtain ⟨⟨n, cs⟩, hc, h2⟩ := Option.bind_eq_some_iff.1 h1
    simp only at h2
    split at h2
    case isFalse => cases h2
    rename_i hcn
    obtain ⟨l, hl, h3⟩ := Option.map_eq_some_iff.1 h2
    injection h3 with h3 h4; subst h3; subst h4
    obtain ⟨a, c, us, rfl, k1, k2, k3⟩ := g2_ hR hx hc
    have hus := gT_ hl k1
    have hss := bl_ he
    cases a with
    | none =>
     obtain ⟨rfl, rfl, rfl⟩ := k3 rfl
     have : l = [] := by simpa using hus
     subst this
     exact dD_.pure hR (by simp [convert, run_underlying hss, run_underlying hd, run_underlying (jZ_ hu), Conv.bytesToString]; rfl) (.str _)
    | some a =>
     have hn : us.length = n := by rw [k1.1, hcn]
     have hlc := run_loadCells_list (P := P) w a us (k2 a rfl)
     rw [hn] at hlc
     have hus' : us = (l.map fun b => (b.toNat : Int)).map (Value.int .u8) := by rw [hus, List.map_map]; rfl
     rw [hus'] at hlc
     have := run_bytesToString (P := P) w a n c (l.map fun b => (b.toNat : Int)) hlc
     have ef : ∀ (l : List UInt8) (acc : ByteArray), (l.map fun b => (b.toNat : Int)).foldl (fun r n => r.push (UInt8.ofNat n.toNat)) acc = ⟨acc.data ++ l.toArray⟩ := fun l => by
      induction l with
      | nil => intro acc; simp
      | cons b l ih =>
       intro acc
       simp only [List.map_cons, List.foldl_cons]
       rw [ih]
       simp [ByteArray.push]
     rw [ef] at this
     refine dD_.pure hR (u := .string ⟨l.toArray⟩) ?_ (.str _)
     simp only [convert, Sem.run_bind, run_underlying hss, run_underlying hd, Result.andThen_ok, run_underlying (jZ_ hu), this]
     rw [show ByteArray.empty.data = #[] from rfl, Array.empty_append]
   ·cases h1
  ·cases h
end
end Go.Am
end
section
set_option linter.unusedVariables false
set_option linter.unusedSimpArgs false
namespace Go.Am
open Go.RowKit
inductive Drws (w : World) : World → Prop
 | refl : Drws w w
 | step {w'} : Drws w w' → Drws w w'.drew
theorem Drws.heap {w w' : World} (h : Drws w w') : w'.heap = w.heap := by
 induction h with
 | refl => rfl
 | step _ ih => exact ih
theorem Drws.rel {B0 w0 E σ w w'} (h : Drws w w') (hR : Rel B0 w0 E σ w) : Rel B0 w0 E σ w' ∧ Keep E σ w σ w' := by
 induction h with
 | refl => exact ⟨hR, .refl _ _ _⟩
 | step _ ih => exact ⟨ih.1.drew, ih.2.trans (.refl E) .drew⟩
section
variable {P : Program}
def GdOk (E : Env) (w : World) : Prop := ∀ k fr, E.G k = some fr → ∃ c t, w.heap[k]? = some (.cells c t fr)
theorem pA_ {E : Env} {w : World} (hg : GdOk E w) {a : Addr} (h : e0_ E (.pointer (some a))) : w.frozen? a = false ∧ ∃ c t fr, w.heap[a.block]? = some (.cells c t fr) := by
 obtain ⟨fr, h1, h2⟩ := h
 obtain ⟨c, t, h3⟩ := hg _ _ h1
 refine ⟨?_, c, t, fr, h3⟩
 unfold World.frozen?
 rw [h3]
 obtain ⟨lo, hi⟩ := fr
 simp at h2 ⊢
 omega
theorem kQ_ (q : Question) (w : World) : ∃ m w', (choose q).run P w = .ok m w' ∧ Drws w w' := by
 by_cases h : q.forced = true
 ·exact ⟨0, w, by simp [h], .refl⟩
 ·exact ⟨_, w.drew, by simp only [run_choose_drew, h]; rfl, .step .refl⟩
theorem nb_ (w : World) (r : Nat) : (shape r).run P w = .ok (w.shape? r) w := rfl
theorem nY_ {E : Env} {w : World} (hg : GdOk E w) {a b : Addr} (ha : e0_ E (.pointer (some a))) (hb : e0_ E (.pointer (some b))) : ∃ r w', (sameAddr a b).run P w = .ok r w' ∧ Drws w w' := by
 obtain ⟨fa, ca, ta, ra, h1⟩ := pA_ hg ha
 obtain ⟨fb, cb, tb, rb, h2⟩ := pA_ hg hb
 by_cases hbl : a.block = b.block
 ·exact ⟨a == b, w, by simp [sameAddr, hbl], .refl⟩
 ·have sa : w.shape? a.block = some (ta, ca.size) := by simp [World.shape?, h1]
  have sb : w.shape? b.block = some (tb, cb.size) := by simp [World.shape?, h2]
  by_cases hm : ∃ m : Bool, (mayBeOne a b).run P w = .ok m w
  ·obtain ⟨m, hm⟩ := hm
   have hm' := hm
   cases m with
   | false => exact ⟨false, w, by simp [sameAddr, hbl, fa, noView, viewAt, sa, sb, hm], .refl⟩
   | true =>
    obtain ⟨m, w', c1, c2⟩ := kQ_ (P := P) (.extern "sameAddr.stringBytes" 2) w
    refine ⟨m == 1, w', ?_, c2⟩
    have e : (sameAddr a b).run P w = (do pure ((← choose (.extern "sameAddr.stringBytes" 2)) == 1) : Sem Bool).run P w := by
     unfold sameAddr
     rw [if_neg (by simp [hbl])]
     simp only [Sem.run_bind, run_frozen, fa, Result.andThen_ok, Bool.false_and, Bool.false_eq_true, if_false, noView, viewAt, nb_, sa, sb, Option.isSome_some, if_true, Sem.run_pure, Option.isSome_none, hm]
    rw [e, Sem.run_bind, c1]
    simp
  ·exfalso
   apply hm
   simp [mayBeOne, stringish, fa, fb, sa, sb]
theorem ql_ {E : Env} {w : World} (hg : GdOk E w) {kt pe : TypeId} {n : Nat} (hk : P.underlying kt = some (.pointer pe)) (hs : szOf P pe = some n) (hz : n ≠ 0) {x y : Value} (hx : e0_ E x) (hy : e0_ E y) : ∃ r w', (Op.equal kt x y).run P w = .ok r w' ∧ Drws w w' := by
 suffices hd : ∀ d, ∃ r w', (Op.equalIn (d + 1) kt x y).run P w = .ok r w' ∧ Drws w w' from hd 9999
 intro d
 obtain ⟨i, hi, rfl⟩ := Option.map_eq_some_iff.1 hs
 match x, y, hx, hy with
 | .pointer none, .pointer b, _, _ => exact ⟨b.isNone, w, by simp [Op.equalIn, run_underlying hk], .refl⟩
 | .pointer (some a), .pointer none, _, _ => exact ⟨false, w, by simp [Op.equalIn, run_underlying hk], .refl⟩
 | .pointer (some a), .pointer (some b), ha, hb =>
  obtain ⟨r, w', h1, h2⟩ := nY_ (P := P) hg ha hb
  exact ⟨r, w', by simp [Op.equalIn, run_underlying hk, sizeOf, typeInfo, hi, hz, h1], h2⟩
def rG_ (E : Env) (es : List MapEntry) : Prop := ∀ e ∈ es, e0_ E e.key ∧ ∃ n, e.val = .int .i64 n
theorem lo_ {E : Env} {kt pe : TypeId} {n : Nat} (hk : P.underlying kt = some (.pointer pe)) (hs : szOf P pe = some n) (hz : n ≠ 0) {x : Value} (hx : e0_ E x) : ∀ (es : List MapEntry) (i : Nat) (w : World), GdOk E w → rG_ E es →
  ∃ r w', (Instr.findAsking kt x es i).run P w = .ok r w' ∧ Drws w w' ∧ ∀ j v, r = some (j, v) → ∃ e ∈ es, v = e.val
 | [], i, w, _, _ => ⟨none, w, by simp [Instr.findAsking], .refl, fun j v h => by cases h⟩
 | e :: es, i, w, hg, he => by
  obtain ⟨r, w1, h1, h2⟩ := ql_ (P := P) hg hk hs hz hx (he e (by simp)).1
  cases r with
  | true => exact ⟨some (i, e.val), w1, by simp [Instr.findAsking, Sem.run_bind, h1], h2, fun j v h => by injection h with h; injection h with _ h; exact ⟨e, by simp, h.symm⟩⟩
  | false =>
   obtain ⟨r, w2, k1, k2, k3⟩ := lo_ hk hs hz hx es (i + 1) w1 (fun k fr hf => by rw [h2.heap]; exact hg k fr hf) (fun e' h' => he e' (by simp [h']))
   refine ⟨r, w2, by simp [Instr.findAsking, Sem.run_bind, h1, k1], ?_, fun j v h => by obtain ⟨e', a, b⟩ := k3 j v h; exact ⟨e', by simp [a], b⟩⟩
   clear k1 k3
   induction k2 with
   | refl => exact h2
   | step _ ih => exact .step ih
theorem pD_ {B0 w0 E σ w} (hR : Rel B0 w0 E σ w) {x : T} {v : Value} (hv : V E v x) (hk : keyA σ x = true) : ∃ E', Env.Le E E' ∧ Rel B0 w0 E' σ w ∧ e0_ E' v := by
 have more : ∀ (a : Addr) (c : Array Value) (t : TypeId) (fr : Nat × Nat), w.heap[a.block]? = some (.cells c t fr) → ¬(fr.1 ≤ a.off ∧ a.off < fr.2) → ∃ E', Env.Le E E' ∧ Rel B0 w0 E' σ w ∧ e0_ E' (.pointer (some a)) := fun a c t fr h1 h2 => by
  have hG : ∀ k p, E.G k = some p → (if k = a.block then some fr else E.G k) = some p := fun k p hp => by
   split
   ·rename_i hk; subst hk
    obtain ⟨c', t', h3⟩ := hR.gd _ _ hp
    rw [h1] at h3; injection h3 with h3; injection h3 with _ _ h3; rw [h3]
   ·exact hp
  obtain ⟨k1, k2⟩ := hR.more (O := E.O) (G := fun k => if k = a.block then some fr else E.G k) (fun _ _ h => h) hG (fun _ _ h => .inl h) (fun k f hf => by
   split at hf
   ·rename_i hk; subst hk; injection hf with hf; subst hf; exact ⟨c, t, h1⟩
   ·exact hR.gd k f hf)
  exact ⟨_, k1, k2, fr, by simp, h2⟩
 unfold keyA at hk
 split at hk
 ·cases hv; exact ⟨E, .refl E, hR, trivial⟩
 ·cases hv with
  | @vw a _ us h1 _ =>
   have h2 := h1 0 (by simp)
   have ha : a.add 0 = a := by simp [Addr.add]
   rw [ha] at h2
   have h3 := hR.frz _ _ h2
   have h4 := hR.unf _ _ h2
   unfold World.cell? at h3
   unfold World.frozen? at h4
   cases hb : w.heap[a.block]? with
   | none => rw [hb] at h3; cases h3
   | some o =>
    rw [hb] at h3 h4
    cases o with
    | cells c t fr => exact more a c t fr hb (by obtain ⟨lo, hi⟩ := fr; simp at h4 ⊢; exact h4)
    | _ => cases h3
 ·rename_i b e off m
  split at hk
  ·rename_i B hB
   simp only [Bool.and_eq_true, decide_eq_true_eq] at hk
   cases hv with
   | ptr h1 h2 =>
    rename_i i
    obtain ⟨arr, ty, fr, f1, f2, f3, f4, f5⟩ := hR.form hB h1 hk.1
    exact more ⟨i.g, off, none⟩ arr ty fr f1 (f4 off (by omega))
  ·cases hk
 ·cases hk
theorem f7_ {w : World} {r : Nat} {es : Array MapEntry} {c : Nat} (h : w.heap[r]? = some (.map es c)) : (getObj r).run P w = .ok (.map es c) w := by simp [getObj, Sem.run, h]
theorem ms_ {w : World} {r : Nat} {es : Array MapEntry} {c : Nat} {o' : Obj} (h : w.heap[r]? = some (.map es c)) : (setObj r o').run P w = .ok () (setO w r o') := by
 simp only [setObj, Sem.run, h, setO]
theorem kS_ {t : TypeId} (h : hb_ P t = true) : ∃ k e pe n, P.underlying t = some (.map k e) ∧ P.underlying k = some (.pointer pe) ∧ szOf P pe = some n ∧ n ≠ 0 ∧ (P.info? e).bind (·.zero) = some (.int .i64 0) := by
 unfold hb_ at h
 split at h
 ·rename_i k e hu
  simp only [Bool.and_eq_true] at h
  obtain ⟨⟨h1, h2⟩, h3⟩ := h
  split at h1
  ·rename_i pe hp
   split at h1
   ·rename_i n hn
    split at h3
    ·rename_i hz; exact ⟨k, e, pe, n, hu, hp, hn, by simpa using h1, hz⟩
    ·cases h3
   ·cases h1
  ·cases h1
 ·cases h
theorem h7_ {kt pe : TypeId} (hk : P.underlying kt = some (.pointer pe)) (x : Value) (es : List MapEntry) (w : World) : (Instr.findKey kt x es).run P w = .ok none w ∧ es = [] ∨ (Instr.findKey kt x es).run P w = (Instr.findAsking kt x es).run P w := by
 cases es with
 | nil => left; simp [Instr.findKey, Sem.run_bind, run_underlying hk, Instr.findNow]
 | cons e es =>
  right
  have : Instr.findNow (.pointer pe) x (e :: es) 0 = none := by simp [Instr.findNow, Instr.sameNow]
  simp [Instr.findKey, Sem.run_bind, run_underlying hk, this]
theorem hy_ {kt pe : TypeId} (hk : P.underlying kt = some (.pointer pe)) (b : Bool) (x : Value) (w : World) : (Instr.checkKey b 10000 kt x).run P w = .ok () w := by
 suffices hd : ∀ d, (Instr.checkKey b (d + 1) kt x).run P w = .ok () w from hd 9999
 intro d
 simp [Instr.checkKey, Sem.run_bind, run_underlying hk]
theorem kz_ {B0 w0 E σ w} (hR : Rel B0 w0 E σ w) {t : TypeId} {m x : T} {vm vx : Value} (hm : V E vm m) (hx : V E vx x) (h1 : isMpx m = true) (h2 : hb_ P t = true) (h3 : keyA σ x = true) :
  ∃ E' n w', Env.Le E E' ∧ (Instr.lookup t vm vx false).run P w = .ok (.int .i64 n) w' ∧ Rel B0 w0 E' σ w' ∧ Keep E σ w σ w' := by
 obtain ⟨E', e1, e2, e3⟩ := pD_ hR hx h3
 obtain ⟨kt, et, pe, n, u1, u2, u3, u4, u5⟩ := kS_ h2
 obtain rfl : m = .mp true := by cases m <;> simp [isMpx] at h1; rw [h1]
 cases hm with
 | mpx hO =>
  rename_i r
  obtain ⟨_, ⟨o, ho, es, c, rfl, hes⟩, _⟩ := e2.oth r true (e1.o _ _ hO)
  obtain ⟨q, w', q1, q2, q3⟩ := lo_ (P := P) u2 u3 u4 e3 es.toList 0 w e2.gd hes
  have hz : (zeroValue et).run P w' = .ok (.int .i64 0) w' := by
   obtain ⟨i, hi, h6⟩ := Option.bind_eq_some_iff.1 u5
   simp [zeroValue, typeInfo, Sem.run_bind, hi, h6]
  have hz0 : (zeroValue et).run P w = .ok (.int .i64 0) w := by
   obtain ⟨i, hi, h6⟩ := Option.bind_eq_some_iff.1 u5
   simp [zeroValue, typeInfo, Sem.run_bind, hi, h6]
  obtain ⟨k1, k2⟩ := q2.rel e2
  have k3 : Keep E σ w σ w' := (Keep.refl E σ w).trans e1 k2
  have ck := hy_ (P := P) u2 es.isEmpty vx w
  rcases h7_ (P := P) u2 vx es.toList w with ⟨f1, f2⟩ | f1
  ·refine ⟨E', 0, w, e1, ?_, e2, .refl _ _ _⟩
   simp [Instr.lookup, Sem.run_bind, run_underlying u1, f7_ ho, ck, f1, hz0]
  ·rw [q1] at f1
   cases q with
   | none =>
    refine ⟨E', 0, w', e1, ?_, k1, k3⟩
    simp [Instr.lookup, Sem.run_bind, run_underlying u1, f7_ ho, ck, f1, hz]
   | some p =>
    obtain ⟨j, v⟩ := p
    obtain ⟨e, he, rfl⟩ := q3 j v rfl
    obtain ⟨n, hn⟩ := (hes e he).2
    refine ⟨E', n, w', e1, ?_, k1, k3⟩
    simp [Instr.lookup, Sem.run_bind, run_underlying u1, f7_ ho, ck, f1, hn]
theorem mL_ {B0 w0 E σ w} (hR : Rel B0 w0 E σ w) {x y : Value} (hx : e0_ E x) (hy : e0_ E y) : ∃ z w', (Instr.keyThatStays x y).run P w = .ok z w' ∧ Drws w w' ∧ e0_ E z := by
 unfold Instr.keyThatStays
 split
 ·exact ⟨y, w, by simp, .refl, hy⟩
 ·obtain ⟨m, w', h1, h2⟩ := kQ_ (P := P) (.extern "map.whichKeyStays" 2) w
  refine ⟨if m = 0 then y else x, w', by rw [Sem.run_bind, h1]; simp, h2, by split <;> assumption⟩
theorem iw_ {B0 w0 E σ w} (hR : Rel B0 w0 E σ w) {t : TypeId} {m x y : T} {vm vx vy : Value} (hm : V E vm m) (hx : V E vx x) (hy : V E vy y) (h1 : isMpx m = true) (h2 : hb_ P t = true) (h3 : keyA σ x = true) (h4 : isAnyi y = true) :
  ∃ E' w', Env.Le E E' ∧ (Instr.mapUpdate t vm vx vy).run P w = .ok () w' ∧ Rel B0 w0 E' σ w' ∧ Keep E σ w σ w' := by
 obtain ⟨E', e1, e2, e3⟩ := pD_ hR hx h3
 obtain ⟨kt, et, pe, n, u1, u2, u3, u4, u5⟩ := kS_ h2
 obtain ⟨vn, rfl⟩ : ∃ n, vy = .int .i64 n := by
  cases y <;> simp [isAnyi] at h4
  cases hy; exact ⟨_, rfl⟩
 obtain rfl : m = .mp true := by cases m <;> simp [isMpx] at h1; rw [h1]
 cases hm with
 | mpx hO =>
  rename_i r
  obtain ⟨_, ⟨o, ho, es, c, rfl, hes⟩, _⟩ := e2.oth r true (e1.o _ _ hO)
  have hOr := e1.o _ _ hO
  obtain ⟨q, w1, q1, q2, q3⟩ := lo_ (P := P) u2 u3 u4 e3 es.toList 0 w e2.gd hes
  have ck := hy_ (P := P) u2 false vx w
  have push : ∀ w1, Drws w w1 → ∃ w', (setObj r (.map (es.push { key := vx, val := .int .i64 vn, born := c }) (c + 1))).run P w1 = .ok () w' ∧ Rel B0 w0 E' σ w' ∧ Keep E σ w σ w' := fun w1 hd => by
   obtain ⟨k1, k2⟩ := hd.rel e2
   obtain ⟨p1, p2⟩ := k1.putO (o := .map (es.push { key := vx, val := .int .i64 vn, born := c }) (c + 1)) hOr ⟨_, _, rfl, fun e he => by
    rcases List.mem_append.1 (by simpa using he : e ∈ es.toList ++ [_]) with he | he
    ·exact hes e he
    ·obtain rfl := List.mem_singleton.1 he; exact ⟨e3, vn, rfl⟩⟩
   exact ⟨_, ms_ (es := es) (c := c) (by rw [hd.heap]; exact ho), p1, (Keep.refl E σ w).trans e1 (k2.trans (.refl E') p2)⟩
  rcases h7_ (P := P) u2 vx es.toList w with ⟨f1, f2⟩ | f1
  ·obtain ⟨w', s1, s2, s3⟩ := push w .refl
   exact ⟨E', w', e1, by simp [Instr.mapUpdate, Sem.run_bind, run_underlying u1, f7_ ho, ck, f1, s1], s2, s3⟩
  ·rw [q1] at f1
   cases q with
   | none =>
    obtain ⟨w', s1, s2, s3⟩ := push w1 q2
    exact ⟨E', w', e1, by simp [Instr.mapUpdate, Sem.run_bind, run_underlying u1, f7_ ho, ck, f1, s1], s2, s3⟩
   | some p =>
    obtain ⟨j, v⟩ := p
    have hko : e0_ E' (((es[j]?).map (·.key)).getD vx) := by
     cases hj : es[j]? with
     | none => exact e3
     | some e => exact (hes e (by have := Array.mem_of_getElem? hj; simpa using this)).1
    obtain ⟨k1, k2⟩ := q2.rel e2
    obtain ⟨z, w2, z1, z2, z3⟩ := mL_ (P := P) k1 hko e3
    obtain ⟨k3, k4⟩ := z2.rel k1
    obtain ⟨p1, p2⟩ := k3.putO (o := .map (es.modify j fun e => { e with key := z, val := .int .i64 vn }) c) hOr ⟨_, _, rfl, fun e he => by
     have he := List.mem_iff_getElem.1 he
     obtain ⟨i, hi, rfl⟩ := he
     simp only [Array.getElem_toList, Array.getElem_modify]
     split
     ·exact ⟨z3, vn, rfl⟩
     ·exact hes _ (by simp)⟩
    refine ⟨E', _, e1, ?_, p1, (Keep.refl E σ w).trans e1 (k2.trans (.refl E') (k4.trans (.refl E') p2))⟩
    simp only [Instr.mapUpdate, Sem.run_bind, run_underlying u1, Result.andThen_ok, f7_ ho, ck, f1, z1]
    exact ms_ (es := es) (c := c) (by rw [z2.heap, q2.heap]; exact ho)
end
end Go.Am
end
section
set_option linter.unusedVariables false
set_option linter.unusedSimpArgs false
namespace Go.Am
open Go.RowKit
section
variable {P : Program}
def OpOk (P : Program) (B0 : Nat) (w0 : World) (E : Env) (σ : St) (w : World) (s : Sem Next) : ARes → Prop
 | .val v σ' => ∃ E' u w', Env.Le E E' ∧ s.run P w = .ok (.value u) w' ∧ Rel B0 w0 E' σ' w' ∧ V E' u v ∧ Keep E σ w σ' w'
 | .skip σ' => ∃ E' w', Env.Le E E' ∧ s.run P w = .ok .skip w' ∧ Rel B0 w0 E' σ' w' ∧ Keep E σ w σ' w'
 | .call f args => ∃ vs : List Value, s.run P w = (callFunc f vs.toArray).run P w ∧ VL E vs args
theorem ll_ {α : Type} {l : List α} (h : l.length = 2) : ∃ a b, l = [a, b] := by
 match l, h with
 | [a, b], _ => exact ⟨a, b, rfl⟩
theorem OpOk.of_val {B0 w0 E σ w} {s : Sem Value} {v : T} {σ' : St} (h : dD_ P B0 w0 E σ w s v σ') : OpOk P B0 w0 E σ w (do pure (.value (← s))) (.val v σ') := by
 obtain ⟨E', u, w', h1, h2, h3⟩ := h
 exact ⟨E', u, w', h1, by simp [Sem.run_bind, h2], h3⟩
theorem OpOk.of_pure {B0 w0 E σ w} (hR : Rel B0 w0 E σ w) {s : Sem Value} {v : T} (h : eJ_ P E w s v) : OpOk P B0 w0 E σ w (do pure (.value (← s))) (.val v σ) := by
 obtain ⟨u, h1, h2⟩ := h
 exact OpOk.of_val (dD_.pure hR h1 h2)
theorem OpOk.of_value {B0 w0 E σ w} (hR : Rel B0 w0 E σ w) {u : Value} {v : T} (h : V E u v) : OpOk P B0 w0 E σ w (pure (.value u)) (.val v σ) :=
 ⟨E, u, w, .refl E, by simp, hR, h, .refl _ _ _⟩
theorem fm_ {E : Env} {a : Act} {s : Nat → T} (hS : eB_ E a s) {x : Option Operand} {t : Option T} (h : dP_ s x = some t) (hok : okO t = true) : optV t (x.map a.eval) := by
 cases x with
 | none => injection h with h; subst h; trivial
 | some x =>
  obtain ⟨t', ht, rfl⟩ := Option.map_eq_some_iff.1 h
  have := ax_ hS ht
  cases t' <;> simp [okO] at hok
  exact this.int_inv
theorem jm_ {E : Env} {a : Act} {s : Nat → T} (hS : eB_ E a s) {xs : Array (Nat × Operand)} {ts : List (Nat × T)} (h : dh_ s xs.toList = some ts) : VPs E (xs.map fun (i, x) => (i, a.eval x)).toList ts := by
 have := hx_ hS h
 simpa using this
theorem ii_ {B0 w0 E w} {fr : Fr} {a : Act} (hR : Rel B0 w0 E fr.σ w) (hS : eB_ E a fr.s) {kk : Option Nat} {o : Oper} {r : ARes} (h : aOp P kk fr o = some r) : OpOk P B0 w0 E fr.σ w (execOp a.eval o) r := by
 unfold aOp at h
 unfold execOp
 dsimp only at h
 split at h
 case h_1 x ho =>
  obtain ⟨t, ht, rfl⟩ := Option.map_eq_some_iff.1 h
  rw [ho]; exact OpOk.of_value hR (ax_ hS ht)
 case h_2 x ho =>
  obtain ⟨t, ht, rfl⟩ := Option.map_eq_some_iff.1 h
  rw [ho]; exact OpOk.of_value hR (ax_ hS ht)
 case h_3 c x y ho =>
  obtain ⟨tc, htc, h1⟩ := Option.bind_eq_some_iff.1 h
  rw [ho]
  split at h1
  ·obtain ⟨t, ht, rfl⟩ := Option.map_eq_some_iff.1 h1
   have := (ax_ hS htc).bool_inv
   simp only [this, asBool]
   exact OpOk.of_value hR (ax_ hS ht)
  ·obtain ⟨t, ht, rfl⟩ := Option.map_eq_some_iff.1 h1
   have := (ax_ hS htc).bool_inv
   simp only [this, asBool]
   exact OpOk.of_value hR (ax_ hS ht)
  ·cases h1
 case h_4 t ho =>
  obtain ⟨z, hz, h1⟩ := Option.bind_eq_some_iff.1 h
  split at h1
  ·rename_i hkk
   injection h1 with h1; subst h1
   rw [ho]; exact OpOk.of_val (lz_ hR hkk hz)
  ·cases h1
 case h_5 t x ho =>
  obtain ⟨v, hv, h1⟩ := Option.bind_eq_some_iff.1 h
  split at h1
  ·rename_i hkk
   injection h1 with h1; subst h1
   rw [ho]; exact OpOk.of_val (or_ hR hkk.2 (ax_ hS hv))
  ·cases h1
 case h_6 t parts ho =>
  obtain ⟨z, hz, h1⟩ := Option.bind_eq_some_iff.1 h
  obtain ⟨ps, hps, h2⟩ := Option.bind_eq_some_iff.1 h1
  split at h2
  ·rename_i hc
   obtain ⟨r', hr', rfl⟩ := Option.map_eq_some_iff.1 h2
   obtain ⟨cs, hcs, rfl⟩ := Option.map_eq_some_iff.1 hr'
   rw [ho]
   refine OpOk.of_pure hR (lg_ hz (jm_ hS hps) hc.1 hcs (fun fs hfs f hf => ?_))
   have h3 := hc.2
   unfold b6_ at h3
   rw [hfs] at h3
   have := List.all_eq_true.1 h3 f (by simpa using hf)
   exact Option.isSome_iff_exists.1 this
  ·cases h2
 case h_7 t len parts ho =>
  obtain ⟨e, he, h1⟩ := Option.bind_eq_some_iff.1 h
  obtain ⟨sz, hsz, h2⟩ := Option.bind_eq_some_iff.1 h1
  obtain ⟨z, hz, h3⟩ := Option.bind_eq_some_iff.1 h2
  obtain ⟨ps, hps, h4⟩ := Option.bind_eq_some_iff.1 h3
  split at h4
  ·rename_i hc
   obtain ⟨cs, hcs, rfl⟩ := Option.map_eq_some_iff.1 h4
   rw [ho]
   exact OpOk.of_val (hH_ hR hc.2.2.2 he hsz hz (jm_ hS hps) hc.1 hc.2.1 hc.2.2.1 hcs)
  ·cases h4
 case h_8 t x ho =>
  obtain ⟨p, hp, h1⟩ := Option.bind_eq_some_iff.1 h
  obtain ⟨r', hr', rfl⟩ := Option.map_eq_some_iff.1 h1
  rw [ho]
  exact OpOk.of_pure hR (h8_ hR (ax_ hS hp) hr')
 case h_9 t x y ho =>
  obtain ⟨p, hp, h1⟩ := Option.bind_eq_some_iff.1 h
  obtain ⟨q, hq, h2⟩ := Option.bind_eq_some_iff.1 h1
  obtain ⟨σ', hs, rfl⟩ := Option.map_eq_some_iff.1 h2
  obtain ⟨w', k1, k2, k3⟩ := kv_ (P := P) hR (ax_ hS hp) (ax_ hS hq) hs
  rw [ho]
  exact ⟨E, w', .refl E, by simp [Sem.run_bind, k1], k2, k3⟩
 case h_10 x ho =>
  obtain ⟨p, hp, h1⟩ := Option.bind_eq_some_iff.1 h
  have hv := ax_ hS hp
  rw [ho]
  split at h1
  ·injection h1 with h1; subst h1
   dsimp only
   generalize a.eval x = v at hv
   have hv' := hv
   cases hv
   exact OpOk.of_value hR hv'
  ·injection h1 with h1; subst h1
   dsimp only
   generalize a.eval x = v at hv
   have hv' := hv
   cases hv
   exact OpOk.of_value hR hv'
  ·injection h1 with h1; subst h1
   dsimp only
   generalize a.eval x = v at hv
   have hv' := hv
   cases hv
   exact OpOk.of_value hR hv'
  ·cases h1
 case h_11 op t x y u ho =>
  obtain ⟨p, hp, h1⟩ := Option.bind_eq_some_iff.1 h
  obtain ⟨q, hq, h2⟩ := Option.bind_eq_some_iff.1 h1
  obtain ⟨r', hr', rfl⟩ := Option.map_eq_some_iff.1 h2
  rw [ho]
  exact OpOk.of_pure hR (mT_ (ax_ hS hp) (ax_ hS hq) hr' x y)
 case h_12 op t x ho =>
  obtain ⟨p, hp, h1⟩ := Option.bind_eq_some_iff.1 h
  obtain ⟨r', hr', rfl⟩ := Option.map_eq_some_iff.1 h1
  rw [ho]
  exact OpOk.of_pure hR (ne_ (ax_ hS hp) hr')
 case h_13 s d x ho =>
  obtain ⟨p, hp, h1⟩ := Option.bind_eq_some_iff.1 h
  obtain ⟨⟨r', σ'⟩, hr', rfl⟩ := Option.map_eq_some_iff.1 h1
  rw [ho]
  exact OpOk.of_val (lj_ hR (ax_ hS hp) hr')
 case h_14 t ho =>
  split at h
  ·injection h with h; subst h
   rw [ho]
   obtain ⟨E', k1, k2, k3, k4⟩ := hR.pushO (o := .map #[] 0) (p := true) ⟨#[], 0, rfl, by simp⟩
   exact ⟨E', _, _, k1, by simp [Instr.makeMap, newObj, Sem.run_bind, Sem.run], k3, .mpx k2, k4⟩
  ·cases h
 case h_15 t m x ho =>
  obtain ⟨p, hp, h1⟩ := Option.bind_eq_some_iff.1 h
  obtain ⟨q, hq, h2⟩ := Option.bind_eq_some_iff.1 h1
  split at h2
  ·rename_i hc
   injection h2 with h2; subst h2
   rw [ho]
   obtain ⟨E', n, w', k1, k2, k3, k4⟩ := kz_ (P := P) hR (ax_ hS hp) (ax_ hS hq) hc.1 hc.2.1 hc.2.2
   exact ⟨E', _, w', k1, by simp [Sem.run_bind, k2], k3, .anyi n, k4⟩
  ·cases h2
 case h_16 t m x y ho =>
  obtain ⟨p, hp, h1⟩ := Option.bind_eq_some_iff.1 h
  obtain ⟨q, hq, h2⟩ := Option.bind_eq_some_iff.1 h1
  obtain ⟨z, hz, h3⟩ := Option.bind_eq_some_iff.1 h2
  split at h3
  ·rename_i hc
   injection h3 with h3; subst h3
   rw [ho]
   obtain ⟨E', w', k1, k2, k3, k4⟩ := iw_ (P := P) hR (ax_ hS hp) (ax_ hS hq) (ax_ hS hz) hc.1 hc.2.1 hc.2.2.1 hc.2.2.2
   exact ⟨E', w', k1, by simp [Sem.run_bind, k2], k3, k4⟩
  ·cases h3
 case h_17 f first caps ho =>
  obtain ⟨p, hp, h1⟩ := Option.bind_eq_some_iff.1 h
  obtain ⟨q, hq, h2⟩ := Option.bind_eq_some_iff.1 h1
  injection h2 with h2; subst h2
  rw [ho]
  have e1 := fv_ hS hp
  have e2 := fv_ hS hq
  exact OpOk.of_pure hR ⟨.func (.func f) (first.map a.eval) (caps.map a.eval), by simp [Instr.makeFunc], V.fn_iff.2 ⟨_, _, rfl, by simpa using e1, by simpa using e2⟩⟩
 case h_18 t l c ho =>
  obtain ⟨p, hp, h1⟩ := Option.bind_eq_some_iff.1 h
  obtain ⟨q, hq, h2⟩ := Option.bind_eq_some_iff.1 h1
  rw [ho]
  split at h2
  ·obtain ⟨e, he, h3⟩ := Option.bind_eq_some_iff.1 h2
   obtain ⟨sz, hsz, h4⟩ := Option.bind_eq_some_iff.1 h3
   obtain ⟨by_, hby, h5⟩ := Option.bind_eq_some_iff.1 h4
   obtain ⟨z, hz, h6⟩ := Option.bind_eq_some_iff.1 h5
   split at h6
   ·rename_i hc
    obtain ⟨c1, c2, c3, c4, c5, c6, c7⟩ := hc
    injection h6 with h6; subst h6
    have e1 := (ax_ hS hp).int_inv
    have e2 := (ax_ hS hq).int_inv
    simp only [e1, e2]
    exact OpOk.of_val (ix_ hR c7 he hsz hby hz c5 c6 c1 c2 c3 c4)
   ·cases h6
  ·cases h2
 case h_19 t x lo hi mx ho =>
  obtain ⟨p, hp, h1⟩ := Option.bind_eq_some_iff.1 h
  obtain ⟨l, hl, h2⟩ := Option.bind_eq_some_iff.1 h1
  obtain ⟨hh, hhh, h3⟩ := Option.bind_eq_some_iff.1 h2
  obtain ⟨m, hm, h4⟩ := Option.bind_eq_some_iff.1 h3
  split at h4
  ·rename_i hok
   simp only [Bool.and_eq_true] at hok
   obtain ⟨⟨o1, o2⟩, o3⟩ := hok
   obtain ⟨r', hr', rfl⟩ := Option.map_eq_some_iff.1 h4
   have e0 := ax_ hS hp
   have e1 := fm_ hS hl o1
   have e2 := fm_ hS hhh o2
   have e3 := fm_ hS hm o3
   rw [ho]
   cases m with
   | none =>
    have : mx.map a.eval = none := by
     cases hmx : mx with
     | none => rfl
     | some z => rw [hmx] at e3; simp [optV] at e3
    simp only [this]
    exact OpOk.of_pure hR (kf_ hR e0 e1 e2 hr')
   | some m =>
    have hz : ∃ k, m = .int k 0 ∧ (∃ k', hh = some (.int k' 0)) ∧ l = none ∧ (∃ e sz, av_ P t = some e ∧ szOf P e = some sz) ∧ ((∃ z n cs, p = .row z n cs ∧ r' = if z then .row true 0 [] else .emp) ∨ (∃ b ep off n, p = .ref b ep off n ∧ r' = .emp)) := by
     unfold fL_ at hr'
     split at hr'
     ·split at hr' <;> cases hr'
     ·obtain ⟨e, he, q1⟩ := Option.bind_eq_some_iff.1 hr'
      obtain ⟨sz, hsz, q2⟩ := Option.bind_eq_some_iff.1 q1
      dsimp only at q2
      split at q2
      ·injection q2 with q2; subst q2
       exact ⟨_, rfl, ⟨_, rfl⟩, rfl, ⟨e, sz, he, hsz⟩, .inl ⟨_, _, _, rfl, rfl⟩⟩
      ·cases q2
     ·obtain ⟨e, he, q1⟩ := Option.bind_eq_some_iff.1 hr'
      obtain ⟨sz, hsz, q2⟩ := Option.bind_eq_some_iff.1 q1
      obtain ⟨B, hB, q3⟩ := Option.bind_eq_some_iff.1 q2
      dsimp only at q3
      split at q3
      ·injection q3 with q3; subst q3
       exact ⟨_, rfl, ⟨_, rfl⟩, rfl, ⟨e, sz, he, hsz⟩, .inr ⟨_, _, _, _, rfl, rfl⟩⟩
      ·cases q3
     ·cases hr'
    obtain ⟨k, rfl, ⟨k', rfl⟩, rfl, ⟨e, sz, he, hsz⟩, hcase⟩ := hz
    have f1 : lo.map a.eval = none := by
     cases hlo : lo.map a.eval with
     | none => rfl
     | some z => rw [hlo] at e1; simp [optV] at e1
    obtain ⟨z2, f2, f2'⟩ : ∃ z, hi.map a.eval = some z ∧ z = .int k' 0 := by
     cases hhi : hi.map a.eval with
     | none => rw [hhi] at e2; simp [optV] at e2
     | some z => rw [hhi] at e2; exact ⟨z, rfl, e2⟩
    obtain ⟨z3, f3, f3'⟩ : ∃ z, mx.map a.eval = some z ∧ z = .int k 0 := by
     cases hmx : mx.map a.eval with
     | none => rw [hmx] at e3; simp [optV] at e3
     | some z => rw [hmx] at e3; exact ⟨z, rfl, e3⟩
    subst f2'; subst f3'
    simp only [f1, f2, f3]
    exact OpOk.of_pure hR (kY_ e0 he hsz hcase)
  ·cases h4
 case h_20 t x f ho =>
  obtain ⟨p, hp, h1⟩ := Option.bind_eq_some_iff.1 h
  obtain ⟨⟨off, ft, n⟩, hf, h2⟩ := Option.bind_eq_some_iff.1 h1
  rw [ho]
  have e0 := ax_ hS hp
  dsimp only at h2 ⊢
  generalize a.eval x = v at e0
  split at h2
  ·cases h2
  ·rename_i hn
   split at h2
   ·split at h2
    ·rename_i hc
     injection h2 with h2; subst h2
     cases e0 with
     | ptr hJ hm =>
      refine OpOk.of_pure hR ⟨_, iF_ hf hn _, ?_⟩
      rw [iZ_]
      exact V.ptr hJ (by omega)
    ·cases h2
   ·split at h2
    ·rename_i hc
     injection h2 with h2; subst h2
     obtain ⟨ad, us, rfl, k1, k2⟩ := V.vw_iff.1 e0
     exact OpOk.of_pure hR ⟨_, iF_ hf hn _, V.vw_drop k1 k2 off⟩
    ·cases h2
   ·cases h2
 case h_21 t x f ho =>
  obtain ⟨p, hp, h1⟩ := Option.bind_eq_some_iff.1 h
  obtain ⟨⟨off, ft, n⟩, hf, h2⟩ := Option.bind_eq_some_iff.1 h1
  rw [ho]
  have e0 := ax_ hS hp
  dsimp only at h2 ⊢
  split at h2
  ·obtain ⟨r', hr', rfl⟩ := Option.map_eq_some_iff.1 h2
   obtain ⟨fs, xf, q1, q2, q3, q4, q5⟩ := fR_ hf
   obtain ⟨us, hus, k1⟩ := V.agg_iff.1 e0
   subst q3; subst q4
   obtain ⟨u, g1, g2⟩ := g4_ (P := P) (w := w) k1 hr'
   exact OpOk.of_pure hR ⟨u, by simp [Instr.field, run_underlying q1, q2, hus, asAgg, g1], g2⟩
  ·cases h2
 case h_22 t x i ho =>
  obtain ⟨p, hp, h1⟩ := Option.bind_eq_some_iff.1 h
  obtain ⟨q, hq, h2⟩ := Option.bind_eq_some_iff.1 h1
  obtain ⟨r', hr', rfl⟩ := Option.map_eq_some_iff.1 h2
  rw [ho]
  exact OpOk.of_pure hR (iO_ hR (ax_ hS hp) (ax_ hS hq) hr')
 case h_23 t x i ho =>
  obtain ⟨p, hp, h1⟩ := Option.bind_eq_some_iff.1 h
  obtain ⟨q, hq, h2⟩ := Option.bind_eq_some_iff.1 h1
  obtain ⟨r', hr', rfl⟩ := Option.map_eq_some_iff.1 h2
  rw [ho]
  exact OpOk.of_pure hR (k0_ (ax_ hS hp) (ax_ hS hq) hr')
 case h_24 x i ho =>
  obtain ⟨p, hp, h1⟩ := Option.bind_eq_some_iff.1 h
  rw [ho]
  have e0 := ax_ hS hp
  split at h1
  ·obtain ⟨r', hr', rfl⟩ := Option.map_eq_some_iff.1 h1
   obtain ⟨us, hus, k1⟩ := V.tup_iff.1 e0
   obtain ⟨u, g1, g2⟩ := k1.get? hr'
   rw [Array.getElem?_toList] at g1
   exact OpOk.of_pure hR ⟨u, by simp [Instr.extract, hus, g1], g2⟩
  ·cases h1
 case h_25 c ho =>
  obtain ⟨args, hargs, h1⟩ := Option.bind_eq_some_iff.1 h
  have ea := fv_ hS hargs
  have emap : c.args.map a.eval = (c.args.toList.map a.eval).toArray := by apply Array.ext'; simp
  rw [ho]
  split at h1
  ·rename_i f hc
   obtain ⟨g, hg, h2⟩ := Option.bind_eq_some_iff.1 h1
   have eg := ax_ hS hg
   split at h2
   ·injection h2 with h2; subst h2
    obtain ⟨xs, ys, hv, k1, k2⟩ := V.fn_iff.1 eg
    refine ⟨xs.toList ++ c.args.toList.map a.eval ++ ys.toList, ?_, (k1.append ea).append k2⟩
    simp only [resolve, hc, hv, Deferred.ofValue, Sem.run_bind, Sem.run_pure, Result.andThen_ok, invoke, emap]
    congr 2
    apply Array.ext'
    simp
   ·cases h2
  ·rename_i hc
   split at h1
   ·rename_i x t hat
    obtain ⟨r', hr', rfl⟩ := Option.map_eq_some_iff.1 h1
    have hat' : c.argTypes = #[t] := by apply Array.ext'; simpa using hat
    obtain ⟨v, hv⟩ : ∃ v, c.args.toList.map a.eval = [v] := by
     have := ea.1
     simp only [List.length_cons, List.length_nil] at this
     exact List.length_eq_one_iff.1 this
    rw [hv] at ea
    simp only [resolve, hc, Sem.run_pure, emap, hv, hat']
    exact OpOk.of_pure hR (m2_ ea.head hr')
   ·cases h1
  ·rename_i hc
   split at h1
   ·rename_i x t hat
    obtain ⟨r', hr', rfl⟩ := Option.map_eq_some_iff.1 h1
    have hat' : c.argTypes = #[t] := by apply Array.ext'; simpa using hat
    obtain ⟨v, hv⟩ : ∃ v, c.args.toList.map a.eval = [v] := by
     have := ea.1
     simp only [List.length_cons, List.length_nil] at this
     exact List.length_eq_one_iff.1 this
    rw [hv] at ea
    simp only [resolve, hc, Sem.run_pure, emap, hv, hat']
    exact OpOk.of_pure hR (m0_ ea.head hr')
   ·cases h1
  ·rename_i hc
   split at h1
   ·rename_i x y t t2 hat
    obtain ⟨⟨r', σ'⟩, hr', rfl⟩ := Option.map_eq_some_iff.1 h1
    have hat' : c.argTypes = #[t, t2] := by apply Array.ext'; simpa using hat
    obtain ⟨v, u, hv⟩ : ∃ v u, c.args.toList.map a.eval = [v, u] := by
     have := ea.1
     simp only [List.length_cons, List.length_nil] at this
     exact ll_ this
    rw [hv] at ea
    simp only [resolve, hc, Sem.run_pure, emap, hv, hat']
    exact OpOk.of_val (jy_ hR ea.head ea.tail.head hr')
   ·cases h1
  ·rename_i hc
   split at h1
   ·rename_i k x k' y
    injection h1 with h1; subst h1
    obtain ⟨v, u, hv⟩ : ∃ v u, c.args.toList.map a.eval = [v, u] := by
     have := ea.1
     simp only [List.length_cons, List.length_nil] at this
     exact ll_ this
    rw [hv] at ea
    obtain rfl := ea.head.int_inv
    obtain rfl := ea.tail.head.int_inv
    simp only [resolve, hc, Sem.run_pure, emap, hv]
    exact OpOk.of_pure hR ⟨_, by simp [Builtin.min_, Builtin.min2], .int _ _⟩
   ·cases h1
  ·rename_i hc
   split at h1
   ·rename_i k x k' y
    injection h1 with h1; subst h1
    obtain ⟨v, u, hv⟩ : ∃ v u, c.args.toList.map a.eval = [v, u] := by
     have := ea.1
     simp only [List.length_cons, List.length_nil] at this
     exact ll_ this
    rw [hv] at ea
    obtain rfl := ea.head.int_inv
    obtain rfl := ea.tail.head.int_inv
    simp only [resolve, hc, Sem.run_pure, emap, hv]
    exact OpOk.of_pure hR ⟨_, by simp [Builtin.max_, Builtin.max2], .int _ _⟩
   ·cases h1
  ·cases h1
 case h_26 => cases h
end
end Go.Am
end
section
set_option linter.unusedVariables false
set_option linter.unusedSimpArgs false
namespace Go.Am
open Go.RowKit
def frzL (f : T → Option (T × List Nat)) : List T → Option (List T × List Nat)
 | [] => some ([], [])
 | t :: ts => (f t).bind fun p => (frzL f ts).map fun q => (p.1 :: q.1, p.2 ++ q.2)
def frz (σ : St) : Nat → T → Option (T × List Nat)
 | d + 1, .ref b e off n => (σ.blk b).bind fun B => if B.low ≤ e ∧ B.esz ≠ 0 then (frzL (frz σ d) ((B.cells.drop off).take (n * B.esz))).map fun q => (.row false n q.1, b :: q.2) else none
 | d + 1, .agg cs => (frzL (frz σ d) cs).map fun q => (.agg q.1, q.2)
 | d + 1, .tup cs => (frzL (frz σ d) cs).map fun q => (.tup q.1, q.2)
 | 0, .ref .. | 0, .agg _ | 0, .tup _ => none
 | _, .emp => some (.row false 0 [], [])
 | _, t => some (t, [])
def own (σ : St) : Nat → T → Option (T × List Nat)
 | d + 1, .ref b e off n => (σ.blk b).bind fun B => if B.st = true ∧ e = B.ep ∧ off = 0 ∧ B.cells.length = n * B.esz ∧ B.esz ≠ 0 then (frzL (own σ d) B.cells).map fun q => (.row false n q.1, b :: q.2) else none
 | d + 1, .agg cs => (frzL (own σ d) cs).map fun q => (.agg q.1, q.2)
 | d + 1, .tup cs => (frzL (own σ d) cs).map fun q => (.tup q.1, q.2)
 | _, .emp => some (.row false 0 [], [])
 | _, .row true 0 [] => some (.row true 0 [], [])
 | _, .int k n => some (.int k n, [])
 | _, .bool b => some (.bool b, [])
 | _, .str s => some (.str s, [])
 | _, .nilp => some (.nilp, [])
 | _, .nilf => some (.nilf, [])
 | _, .nili => some (.nili, [])
 | _, .nilm => some (.nilm, [])
 | _, _ => none
def St.keep (σ σ2 : St) (K : List Nat) : St := ⟨σ2.next, fun i => if i < σ.next then σ.blk i else if i ∈ K then σ2.blk i else none⟩
inductive Md where
 | raw | view | own
 deriving DecidableEq
mutual
def pureT : T → Bool
 | .ptr .. | .ref .. | .mp _ | .anyi => false
 | .vw cs => pureL cs
 | .row _ _ cs => pureL cs
 | .fn _ a b => pureL a && pureL b
 | .agg cs => pureL cs
 | .tup cs => pureL cs
 | _ => true
def pureL : List T → Bool
 | [] => true
 | t :: ts => pureT t && pureL ts
end
mutual
def leafT : T → Bool
 | .ptr .. | .ref .. | .vw _ | .row .. | .fn .. | .emp | .mp _ | .anyi => false
 | .agg cs => leafL cs
 | .tup cs => leafL cs
 | _ => true
def leafL : List T → Bool
 | [] => true
 | t :: ts => leafT t && leafL ts
end
def St.mark (σ : St) (S : List Nat) : St := ⟨σ.next, fun i => (σ.blk i).map fun B => if i ∈ S then { B with st := false } else B⟩
def dOk (n : Nat) (o : Oper) : Bool :=
 match o.dst with
 | some d => decide (d < n)
 | none => true
def dstsOk (n : Nat) : Code → Bool
 | .region _ ops _ => ops.all (dOk n)
 | .seq a b | .cond _ a b => dstsOk n a && dstsOk n b
 | .block _ c | .loop c => dstsOk n c
 | _ => true
def Ok (P : Program) (f : Nat) (c : Code) (n : Nat) (rs : List ResultVar) : Prop :=
 ∃ fn, P.funcs[f]? = some fn ∧ (fn.name == "runtime.NumGoroutine") = false ∧ fn.body = some c ∧ dstsOk fn.ntmps c = true ∧ fn.ntmps = n ∧ fn.results.toList = rs
def enterS (args : List T) : Nat → T := fun j => args.getD j (.tup [])
def resV (P : Program) (fr : Fr) : ResultVar → Option T
 | .tmp t => some (fr.s t)
 | .cell a t => h2_ P fr.σ t (fr.s a)
def resL (P : Program) (fr : Fr) : List ResultVar → Option (List T)
 | [] => some []
 | r :: rs => (resV P fr r).bind fun v => (resL P fr rs).map (v :: ·)
def tupOf : List T → T
 | [v] => v
 | l => .tup l
def resA (P : Program) (fn : Func) (fr : Fr) : Option T :=
 (resL P fr fn.results.toList).map tupOf
abbrev Ext := Nat → Option (List T → St → Option (T × St))
mutual
inductive EvCall (P : Program) (vm : Nat → Md) (X : Ext) : Nat → List T → St → T → St → Prop
 | mk {f fn c args σ x fr r} : X f = none → P.funcs[f]? = some fn → (fn.name == "runtime.NumGoroutine") = false → fn.body = some c → dstsOk fn.ntmps c = true → args.length ≤ fn.ntmps →
   EvC P vm X c ⟨enterS args, σ⟩ x fr → (x = .normal ∨ x = .ret) → resA P fn fr = some r → EvCall P vm X f args σ r fr.σ
 | ext {f g args σ r σ'} : X f = some g → g args σ = some (r, σ') → EvCall P vm X f args σ r σ'
inductive EvP (P : Program) (vm : Nat → Md) (X : Ext) : Nat → List T → St → T → St → Prop
 | raw {f args σ r σ'} : vm f = .raw → EvCall P vm X f args σ r σ' → EvP P vm X f args σ r σ'
 | view {D1 D2 f args σ args' S r σ2 r' S2} : vm f = .view → frzL (frz σ D1) args = some (args', S) → EvCall P vm X f args' (σ.mark S) r σ2 → frz σ2 D2 r = some (r', S2) → pureT r' = true →
   (∀ i, i < σ.next → σ2.blk i = (σ.mark S).blk i) → EvP P vm X f args σ r' (if leafT r' = true then σ else (σ.mark S).mark (S2.filter fun i => decide (i < σ.next)))
 | own {D1 D2 f args σ args' S r σ2 v K} : vm f = .own → frzL (frz σ D1) args = some (args', S) → EvCall P vm X f args' (σ.mark S) r σ2 → own σ2 D2 r = some (v, K) → (∀ b ∈ K, σ.next ≤ b) →
   (∀ i, i < σ.next → σ2.blk i = (σ.mark S).blk i) → EvP P vm X f args σ r (σ.keep σ2 K)
inductive EvO (P : Program) (vm : Nat → Md) (X : Ext) : Array Oper → Option Nat → Oper → Fr → Fr → Prop
 | skip {ops k o fr} : wantedA ops o fr.s = false → EvO P vm X ops k o fr (fr.put o.dst (.tup []) fr.σ)
 | val {ops k o fr v σ} : wantedA ops o fr.s = true → aOp P k fr o = some (.val v σ) → EvO P vm X ops k o fr (fr.put o.dst v σ)
 | nores {ops k o fr σ} : wantedA ops o fr.s = true → aOp P k fr o = some (.skip σ) → EvO P vm X ops k o fr (fr.put o.dst (.tup []) σ)
 | call {ops k o fr f args r σ} : wantedA ops o fr.s = true → aOp P k fr o = some (.call f args) → EvP P vm X f args fr.σ r σ → EvO P vm X ops k o fr (fr.put o.dst r σ)
inductive EvI (P : Program) (vm : Nat → Md) (X : Ext) : Array Oper → Option Nat → List Nat → Fr → Fr → Prop
 | nil {ops b fr} : EvI P vm X ops b [] fr fr
 | cons {ops b i l o fr fr1 fr2} : ops[i]? = some o → EvO P vm X ops (b.map (· + i)) o fr fr1 → EvI P vm X ops b l fr1 fr2 → EvI P vm X ops b (i :: l) fr fr2
inductive EvC (P : Program) (vm : Nat → Md) (X : Ext) : Code → Fr → aN_ → Fr → Prop
 | skip {fr} : EvC P vm X .skip fr .normal fr
 | region {id ops fr fr'} : EvI P vm X ops none (List.range ops.size) fr fr' → EvC P vm X (.region id ops false) fr .normal fr'
 | draw {id ops fr fr'} : (∀ t, EvI P vm X ops (some fr.σ.next) (Region.linearise .any ops t) ⟨fr.s, fr.σ.bump ops.size⟩ fr') → EvC P vm X (.region id ops true) fr .normal fr'
 | seq {a b fr fr1 x fr2} : EvC P vm X a fr .normal fr1 → EvC P vm X b fr1 x fr2 → EvC P vm X (.seq a b) fr x fr2
 | seqX {a b fr x fr1} : EvC P vm X a fr x fr1 → x ≠ .normal → EvC P vm X (.seq a b) fr x fr1
 | condT {c a b fr x fr'} : evalO fr.s c = some (.bool true) → EvC P vm X a fr x fr' → EvC P vm X (.cond c a b) fr x fr'
 | condF {c a b fr x fr'} : evalO fr.s c = some (.bool false) → EvC P vm X b fr x fr' → EvC P vm X (.cond c a b) fr x fr'
 | block {id c fr x fr'} : EvC P vm X c fr x fr' → EvC P vm X (.block id c) fr (x.blk id) fr'
 | loop {c n fr x fr'} : EvR P vm X c n fr x fr' → EvC P vm X (.loop c) fr x fr'
 | exit {id fr} : EvC P vm X (.exit id) fr (.exit id) fr
 | ret {fr} : EvC P vm X .ret fr .ret fr
inductive EvR (P : Program) (vm : Nat → Md) (X : Ext) : Code → Nat → Fr → aN_ → Fr → Prop
 | go {c n fr fr1 x fr2} : EvC P vm X c fr .normal fr1 → EvR P vm X c n fr1 x fr2 → EvR P vm X c (n + 1) fr x fr2
 | stop {c n fr x fr1} : EvC P vm X c fr x fr1 → x ≠ .normal → EvR P vm X c (n + 1) fr x fr1
end
end Go.Am
end
section
set_option linter.unusedVariables false
set_option linter.unusedSimpArgs false
namespace Go.Am
open Go.RowKit Classical
theorem sb_ {E E' : Env} {v : Value} {t : T} (h : V E v t) : leafT t = true → V E' v t := by
 have hL : ∀ (xs : Array Value) (ts : List T), xs.size = ts.length → (∀ j (h : j < xs.size) (h' : j < ts.length), leafT ts[j] = true → V E' xs[j] ts[j]) → leafL ts = true → ∀ j (h : j < xs.size) (h' : j < ts.length), V E' xs[j] ts[j] := fun xs ts hn ih hl j h1 h2 => by
  refine ih j h1 h2 ?_
  clear ih h1 hn
  induction ts generalizing j with
  | nil => simp at h2
  | cons t ts ih2 =>
   simp only [leafL, Bool.and_eq_true] at hl
   cases j with
   | zero => exact hl.1
   | succ j => exact ih2 hl.2 j (by simpa using h2)
 induction h with
 | int k n => intro _; exact .int k n
 | bool b => intro _; exact .bool b
 | str s => intro _; exact .str s
 | nilp => intro _; exact .nilp
 | nilf => intro _; exact .nilf
 | nili => intro _; exact .nili
 | nilm => intro _; exact .nilm
 | agg h1 _ ih => intro hl; simp only [leafT] at hl; exact .agg h1 (hL _ _ h1 (fun j a b c => ih j a b c) hl)
 | tup h1 _ ih => intro hl; simp only [leafT] at hl; exact .tup h1 (hL _ _ h1 (fun j a b c => ih j a b c) hl)
 | _ => intro hl; simp [leafT] at hl
theorem pureL_get : ∀ {ts : List T}, pureL ts = true → ∀ j (h : j < ts.length), pureT ts[j] = true
 | [], _, j, h => by simp at h
 | t :: ts, hl, j, h => by
  simp only [pureL, Bool.and_eq_true] at hl
  cases j with
  | zero => exact hl.1
  | succ j => exact pureL_get hl.2 j (by simpa using h)
theorem sQ_ {E E' : Env} (hF : ∀ a u, E.F a = some u → E'.F a = some u) {v : Value} {t : T} (h : V E v t) : pureT t = true → V E' v t := by
 induction h with
 | int k n => intro _; exact .int k n
 | bool b => intro _; exact .bool b
 | str s => intro _; exact .str s
 | nilp => intro _; exact .nilp
 | nilf => intro _; exact .nilf
 | nili => intro _; exact .nili
 | nilm => intro _; exact .nilm
 | vw us h1 _ ih => intro hl; simp only [pureT] at hl; exact .vw us (fun j hj => hF _ _ (h1 j hj)) (fun j hj => ih j hj (pureL_get hl j hj))
 | rown => intro _; exact .rown
 | row us h0 h1 _ ih => intro hl; simp only [pureT] at hl; exact .row us h0 (fun j hj => hF _ _ (h1 j hj)) (fun j hj => ih j hj (pureL_get hl j hj))
 | emp => intro _; exact .emp
 | fn h1 _ h3 _ ih1 ih2 => intro hl; simp only [pureT, Bool.and_eq_true] at hl; exact .fn h1 (fun j a b => ih1 j a b (pureL_get hl.1 j b)) h3 (fun j a b => ih2 j a b (pureL_get hl.2 j b))
 | agg h1 _ ih => intro hl; simp only [pureT] at hl; exact .agg h1 (fun j a b => ih j a b (pureL_get hl j b))
 | tup h1 _ ih => intro hl; simp only [pureT] at hl; exact .tup h1 (fun j a b => ih j a b (pureL_get hl j b))
 | _ => intro hl; simp [pureT] at hl
noncomputable def Env.freeze (E : Env) (S : List Nat) (σ : St) (w : World) : Env :=
 ⟨fun a => match E.F a with
  | some u => some u
  | none => if ∃ b B e i, b ∈ S ∧ σ.blk b = some B ∧ B.low ≤ e ∧ E.J b e = some i ∧ a.block = i.g ∧ a.off < i.len then w.cell? a else none, E.J, E.O, E.G⟩
theorem Env.freeze_le (E : Env) (S : List Nat) (σ : St) (w : World) : Env.Le E (E.freeze S σ w) := ⟨fun a u h => by simp [Env.freeze, h], fun _ _ _ h => h, fun _ _ h => h, fun _ _ h => h⟩
theorem f5_ {σ : St} {S : List Nat} {b : Nat} {B' : Blk} (h : (σ.mark S).blk b = some B') : ∃ B, σ.blk b = some B ∧ B' = if b ∈ S then { B with st := false } else B := by
 simp only [St.mark, Option.map_eq_some_iff] at h
 obtain ⟨B, h1, h2⟩ := h
 exact ⟨B, h1, h2.symm⟩
theorem eZ_ {B : Blk} {b : Nat} {S : List Nat} : ∀ B', (B' = if b ∈ S then { B with st := false } else B) → B'.cells = B.cells ∧ B'.esz = B.esz ∧ B'.ep = B.ep ∧ B'.low = B.low ∧ B'.ver = B.ver ∧ (B.st = false → B'.st = false) ∧ (b ∈ S → B'.st = false) := fun B' h => by
 subst h; split <;> simp_all
theorem Rel.freeze {B0 w0 E σ w} (h : Rel B0 w0 E σ w) (S : List Nat) : Rel B0 w0 (E.freeze S σ w) (σ.mark S) w := by
 have hle := E.freeze_le S σ w
 constructor
 ·exact h.bel
 ·exact h.hB
 ·intro a u ha
  simp only [Env.freeze] at ha
  split at ha
  ·rename_i u' hu; injection ha with ha; subst ha; exact h.frz a _ hu
  ·split at ha
   ·exact ha
   ·cases ha
 ·exact h.jlt
 ·intro b e i hi
  obtain ⟨B, hB⟩ := h.jb b e i hi
  exact ⟨if b ∈ S then { B with st := false } else B, by simp [St.mark, hB]⟩
 ·exact h.inj
 ·intro b B' hb
  obtain ⟨B, h1, h2⟩ := f5_ hb
  obtain ⟨_, _, e3, e4, _⟩ := eZ_ B' h2
  obtain ⟨k1, k2⟩ := h.dom b B h1
  exact ⟨k1, by omega⟩
 ·intro b B' e i hb hi
  obtain ⟨B, h1, h2⟩ := f5_ hb
  obtain ⟨_, e2, e3, _⟩ := eZ_ B' h2
  obtain ⟨k1, k2⟩ := h.jep b B e i h1 hi
  exact ⟨by omega, by omega⟩
 ·intro b B' e hb hlo hhi
  obtain ⟨B, h1, h2⟩ := f5_ hb
  obtain ⟨e1, _, e3, e4, _⟩ := eZ_ B' h2
  obtain ⟨i, k1, k2, k3, k4⟩ := h.blk b B e h1 (by omega) (by omega)
  rw [e1]
  exact ⟨i, k1, k2, fun he => k3 (by omega), k4.mono hle⟩
 ·intro k p hk
  obtain ⟨h0, ⟨o, h1, h2⟩, h4⟩ := h.oth k p hk
  exact ⟨h0, ⟨o, h1, h2.mono hle⟩, h4⟩
 ·intro a u ha
  simp only [Env.freeze] at ha
  split at ha
  ·rename_i u' hu; exact h.unf a _ hu
  ·split at ha
   ·rename_i hx
    obtain ⟨b', B2, e2, i2, m1, m2, m3, m4, m5, m6⟩ := hx
    obtain ⟨arr, ty, fr, f1, f2, f3, f4, f5⟩ := h.form m2 m4 m3
    have := f4 a.off (by omega)
    unfold World.frozen?
    rw [m5, f1]
    obtain ⟨lo, hi⟩ := fr
    simp at this ⊢; omega
   ·cases ha
 ·exact h.gd
 ·intro b B' e i a u hb hi ha hg
  obtain ⟨B, h1, h2⟩ := f5_ hb
  obtain ⟨e1, _, _, e4, _, e6, e7⟩ := eZ_ B' h2
  rw [e1]
  simp only [Env.freeze] at ha
  split at ha
  ·rename_i u' hu
   obtain ⟨k1, k2⟩ := h.nof b B e i a u' h1 hi hu hg
   exact ⟨e6 k1, k2⟩
  ·split at ha
   ·rename_i hx
    obtain ⟨b', B2, e2, i2, m1, m2, m3, m4, m5, m6⟩ := hx
    have hbb := h.inj _ _ _ _ _ _ hi m4 (by omega)
    subst hbb
    rw [h1] at m2; injection m2 with m2; subst m2
    have hep := (h.jep _ _ _ _ h1 m4).1
    obtain ⟨i3, n1, n2, _⟩ := h.blk _ _ e2 h1 m3 hep
    rw [m4] at n1; injection n1 with n1; subst n1
    exact ⟨e7 m1, by omega⟩
   ·cases ha
theorem ga_ {E E' : Env} {f : T → Option (T × List Nat)} {S0 : List Nat} (hf : ∀ t t' S v, f t = some (t', S) → (∀ b ∈ S, b ∈ S0) → V E v t → V E' v t') :
  ∀ {ts ts' : List T} {S : List Nat} {vs : List Value}, frzL f ts = some (ts', S) → (∀ b ∈ S, b ∈ S0) → VL E vs ts → VL E' vs ts'
 | [], ts', S, vs, h, hS, hv => by
  injection h with h; injection h with h1 h2; subst h1
  have : vs = [] := by have := hv.1; simpa using this
  subst this; exact .nil _
 | t :: ts, ts', S, [], h, hS, hv => by have := hv.1; simp at this
 | t :: ts, ts', S, v :: vs, h, hS, hv => by
  simp only [frzL, Option.bind_eq_some_iff, Option.map_eq_some_iff] at h
  obtain ⟨⟨t', S1⟩, h1, ⟨ts1, S2⟩, h2, h3⟩ := h
  injection h3 with h3 h4; subst h3; subst h4
  exact .cons (hf _ _ _ _ h1 (fun b hb => hS b (by simp [hb])) hv.head) (ga_ hf h2 (fun b hb => hS b (by simp [hb])) hv.tail)
theorem gN_ {B0 w0 E σ w} (hR : Rel B0 w0 E σ w) (S0 : List Nat) : ∀ (d : Nat) (t t' : T) (S : List Nat) (v : Value), frz σ d t = some (t', S) → (∀ b ∈ S, b ∈ S0) → V E v t → V (E.freeze S0 σ w) v t'
 | 0, t, t', S, v, h, hS, hv => by
  cases t <;> simp [frz] at h
  all_goals (obtain ⟨rfl, rfl⟩ := h)
  case emp => cases hv; exact .row (fun _ => undef) (Nat.le_refl _) (fun j hj => absurd hj (by simp)) (fun j hj => absurd hj (by simp))
  all_goals exact hv.mono (E.freeze_le S0 σ w)
 | d + 1, t, t', S, v, h, hS, hv => by
  have ihL := @ga_ E (E.freeze S0 σ w) (frz σ d) S0 (fun t t' S v h1 h2 h3 => gN_ hR S0 d t t' S v h1 h2 h3)
  cases t with
  | ref b e off n =>
   simp only [frz] at h
   obtain ⟨B, hb, h1⟩ := Option.bind_eq_some_iff.1 h
   split at h1
   ·rename_i hc
    obtain ⟨⟨cs, S1⟩, h2, h3⟩ := Option.map_eq_some_iff.1 h1
    injection h3 with h3 h4; subst h3; subst h4
    cases hv with
    | ref hJ hlen ha =>
     rename_i c inc a
     obtain ⟨_, hesz⟩ := hR.jep _ _ _ _ hb hJ
     obtain ⟨arr, aty, fr, f1, f2, f3, f4, f5, f6, f7⟩ := hR.form hb hJ hc.1
     have hlen' := hlen
     rw [hesz] at hlen' ha
     obtain ⟨us, k1, k2⟩ := hR.at_ hb hJ hc.1 hlen'
     have hnc : n ≤ c := by
      rcases ha with ⟨_, hcap⟩ | ⟨h0, _⟩
      ·have h3 : n * B.esz ≤ c * B.esz := by omega
       exact Nat.le_of_mul_le_mul_right h3 (by have := hc.2; omega)
      ·omega
     have hcs := ihL h2 (fun b hb => hS b (by simp [hb])) k2
     refine V.row_iff.2 (.inr ⟨rfl, _, c, us, rfl, hnc, hcs, fun j u hu => ?_⟩)
     rcases ha with ⟨rfl, _⟩ | ⟨rfl, _⟩
     ·have hcell := k1 j u hu
      have hj : j < n * B.esz := by
       have := (List.getElem?_eq_some_iff.1 hu).1
       have h2 := k2.1
       simp at h2; omega
      rw [iZ_] at hcell ⊢
      simp only [Env.freeze]
      split
      ·rename_i u' hu'
       have := hR.frz _ _ hu'
       rw [hcell] at this; exact this.symm
      ·rw [if_pos ⟨b, B, e, inc, hS b (by simp), hb, hc.1, hJ, rfl, by show off + j < inc.len; omega⟩]
       exact hcell
     ·have : us = [] := by have := k2.1; simp at this; exact this
      subst this; simp at hu
   ·cases h1
  | agg cs =>
   simp only [frz] at h
   obtain ⟨⟨cs', S1⟩, h2, h3⟩ := Option.map_eq_some_iff.1 h
   injection h3 with h3 h4; subst h3; subst h4
   obtain ⟨xs, rfl, k1⟩ := V.agg_iff.1 hv
   exact V.agg_iff.2 ⟨xs, rfl, ihL h2 hS k1⟩
  | tup cs =>
   simp only [frz] at h
   obtain ⟨⟨cs', S1⟩, h2, h3⟩ := Option.map_eq_some_iff.1 h
   injection h3 with h3 h4; subst h3; subst h4
   obtain ⟨xs, rfl, k1⟩ := V.tup_iff.1 hv
   exact V.tup_iff.2 ⟨xs, rfl, ihL h2 hS k1⟩
  | emp =>
   simp [frz] at h; obtain ⟨rfl, rfl⟩ := h
   cases hv; exact .row (fun _ => undef) (Nat.le_refl _) (fun j hj => absurd hj (by simp)) (fun j hj => absurd hj (by simp))
  | _ => simp [frz] at h; obtain ⟨rfl, rfl⟩ := h; exact hv.mono (E.freeze_le S0 σ w)
theorem jz_ {f : T → Option (T × List Nat)} : ∀ {ts vs : List T} {S : List Nat}, frzL f ts = some (vs, S) → ∀ t ∈ ts, ∃ v S', f t = some (v, S') ∧ ∀ b ∈ S', b ∈ S
 | [], _, _, _, t, ht => by simp at ht
 | t0 :: ts, vs, S, h, t, ht => by
  simp only [frzL] at h
  obtain ⟨⟨v0, S0⟩, h1, h2⟩ := Option.bind_eq_some_iff.1 h
  obtain ⟨⟨vs', S'⟩, h3, h4⟩ := Option.map_eq_some_iff.1 h2
  injection h4 with h4 h5; subst h4; subst h5
  rcases List.mem_cons.1 ht with rfl | ht
  ·exact ⟨v0, S0, h1, fun b hb => by simp [hb]⟩
  ·obtain ⟨v, S1, k1, k2⟩ := jz_ h3 t ht
   exact ⟨v, S1, k1, fun b hb => by simp [k2 b hb]⟩
theorem mm_ {f : T → Option (T × List Nat)} : ∀ {ts vs : List T} {S : List Nat}, frzL f ts = some (vs, S) → ∀ b ∈ S, ∃ t ∈ ts, ∃ v S', f t = some (v, S') ∧ b ∈ S' ∧ ∀ b ∈ S', b ∈ S
 | [], _, _, h, b, hb => by simp [frzL] at h; simp [h.2] at hb
 | t0 :: ts, vs, S, h, b, hb => by
  simp only [frzL] at h
  obtain ⟨⟨v0, S0⟩, h1, h2⟩ := Option.bind_eq_some_iff.1 h
  obtain ⟨⟨vs', S'⟩, h3, h4⟩ := Option.map_eq_some_iff.1 h2
  injection h4 with h4 h5; subst h4; subst h5
  rcases List.mem_append.1 hb with hb | hb
  ·exact ⟨t0, by simp, v0, S0, h1, hb, fun b hb => by simp [hb]⟩
  ·obtain ⟨t, k0, v, S1, k1, k2, k3⟩ := mm_ h3 b hb
   exact ⟨t, by simp [k0], v, S1, k1, k2, fun b hb => by simp [k3 b hb]⟩
theorem qP_ {σ : St} {E E' : Env} {K0 : List Nat} (hJ : ∀ b e i, b ∈ K0 → E.J b e = some i → E'.J b e = some i) : ∀ (d : Nat) (t v : T) (K : List Nat) (u : Value), own σ d t = some (v, K) → (∀ b ∈ K, b ∈ K0) → V E u t → V E' u t
 | 0, t, v, K, u, h, hK, hv => by
  cases t with
  | row z n cs => cases hv with
   | rown => exact .rown
   | row us => simp [own] at h
  | agg => simp [own] at h
  | tup => simp [own] at h
  | ref => simp [own] at h
  | ptr => simp [own] at h
  | vw => simp [own] at h
  | fn => simp [own] at h
  | mp => simp [own] at h
  | anyi => simp [own] at h
  | _ => cases hv; constructor
 | d + 1, t, v, K, u, h, hK, hv => by
  have hL : ∀ {ts vs S us}, frzL (own σ d) ts = some (vs, S) → (∀ b ∈ S, b ∈ K0) → VL E us ts → VL E' us ts := fun {ts vs S us} h1 h2 h3 => ⟨h3.1, fun j a b => by
   obtain ⟨v', S', k1, k2⟩ := jz_ h1 ts[j] (List.getElem_mem _)
   exact qP_ hJ d _ _ _ _ k1 (fun b hb => h2 b (k2 b hb)) (h3.2 j a b)⟩
  cases t with
  | ref b e off n =>
   simp only [own] at h
   obtain ⟨B, hb, h1⟩ := Option.bind_eq_some_iff.1 h
   split at h1
   ·obtain ⟨⟨cs, S1⟩, h2, h3⟩ := Option.map_eq_some_iff.1 h1
    injection h3 with h3 h4; subst h3; subst h4
    cases hv with
    | ref a1 a2 a3 => exact .ref (hJ _ _ _ (hK b (by simp)) a1) a2 a3
   ·cases h1
  | agg cs =>
   simp only [own] at h
   obtain ⟨⟨cs', S1⟩, h2, h3⟩ := Option.map_eq_some_iff.1 h
   injection h3 with h3 h4; subst h3; subst h4
   obtain ⟨xs, rfl, k1⟩ := V.agg_iff.1 hv
   exact V.agg_iff.2 ⟨xs, rfl, hL h2 hK k1⟩
  | tup cs =>
   simp only [own] at h
   obtain ⟨⟨cs', S1⟩, h2, h3⟩ := Option.map_eq_some_iff.1 h
   injection h3 with h3 h4; subst h3; subst h4
   obtain ⟨xs, rfl, k1⟩ := V.tup_iff.1 hv
   exact V.tup_iff.2 ⟨xs, rfl, hL h2 hK k1⟩
  | row z n cs => cases hv with
   | rown => exact .rown
   | row us => simp [own] at h
  | ptr => simp [own] at h
  | vw => simp [own] at h
  | fn => simp [own] at h
  | mp => simp [own] at h
  | anyi => simp [own] at h
  | _ => cases hv; constructor
theorem ot_ {σ : St} {d : Nat} {z : Bool} {n : Nat} {cs : List T} {v : T} {K : List Nat} (h : own σ d (.row z n cs) = some (v, K)) : K = [] := by
 cases z <;> cases n <;> cases cs <;> cases d <;> simp_all [own]
theorem kR_ {σ : St} : ∀ (d : Nat) (t v : T) (K : List Nat), own σ d t = some (v, K) → ∀ b ∈ K, ∃ B v' K' d', σ.blk b = some B ∧ frzL (own σ d') B.cells = some (v', K') ∧ ∀ x ∈ K', x ∈ K
 | 0, t, v, K, h, b, hb => by
  cases t with
  | row z n cs => have := ot_ h; subst this; simp at hb
  | _ => simp [own] at h <;> (obtain ⟨_, rfl⟩ := h; simp at hb)
 | d + 1, t, v, K, h, b, hb => by
  have hL : ∀ {ts vs S}, frzL (own σ d) ts = some (vs, S) → ∀ b ∈ S, ∃ B v' K' d', σ.blk b = some B ∧ frzL (own σ d') B.cells = some (v', K') ∧ ∀ x ∈ K', x ∈ S := fun {ts vs S} h1 b hb => by
   obtain ⟨t, _, v, S', k1, k2, k3⟩ := mm_ h1 b hb
   obtain ⟨B, v', K', d', m1, m2, m3⟩ := kR_ d _ _ _ k1 b k2
   exact ⟨B, v', K', d', m1, m2, fun x hx => k3 x (m3 x hx)⟩
  cases t with
  | ref b0 e off n =>
   simp only [own] at h
   obtain ⟨B, hB, h1⟩ := Option.bind_eq_some_iff.1 h
   split at h1
   ·obtain ⟨⟨cs, S1⟩, h2, h3⟩ := Option.map_eq_some_iff.1 h1
    injection h3 with h3 h4; subst h3; subst h4
    rcases List.mem_cons.1 hb with rfl | hb
    ·exact ⟨B, cs, S1, d, hB, h2, fun x hx => by simp [hx]⟩
    ·obtain ⟨B', v', K', d', m1, m2, m3⟩ := hL h2 b hb
     exact ⟨B', v', K', d', m1, m2, fun x hx => by simp [m3 x hx]⟩
   ·cases h1
  | agg cs =>
   simp only [own] at h
   obtain ⟨⟨cs', S1⟩, h2, h3⟩ := Option.map_eq_some_iff.1 h
   injection h3 with h3 h4; subst h3; subst h4
   exact hL h2 b hb
  | tup cs =>
   simp only [own] at h
   obtain ⟨⟨cs', S1⟩, h2, h3⟩ := Option.map_eq_some_iff.1 h
   injection h3 with h3 h4; subst h3; subst h4
   exact hL h2 b hb
  | row z n cs => have := ot_ h; subst this; simp at hb
  | ptr => simp [own] at h
  | vw => simp [own] at h
  | fn => simp [own] at h
  | mp => simp [own] at h
  | anyi => simp [own] at h
  | _ => simp [own] at h; obtain ⟨_, rfl⟩ := h; simp at hb
def aN_.toExit : aN_ → Exit
 | .normal => .normal
 | .exit id => .exit id
 | .ret => .ret
section
variable (P : Program)
def nP_ (f : Nat) : Prop := ∃ fn c, P.funcs[f]? = some fn ∧ (fn.name == "runtime.NumGoroutine") = false ∧ fn.body = some c
def IniW (_ : World) : Prop := P = P
def Ini (B0 : Nat) (w0 : World) : Prop := ∀ w, Below B0 w0 w → IniW P w
def mj_ (f : Nat) (vs : Array Value) (w : World) (Post : Value → World → Prop) : Prop :=
 (nP_ P f ∧ Calls P f vs w fun e w' => ∃ v, e = .returned v ∧ Post v w') ∨ ∃ v w', (callFunc f vs).run P w = .ok (.value v) w' ∧ Post v w'
def gB_ (f : Nat) (args : List T) (σ : St) (r : T) (σ' : St) : Prop :=
 ∀ B0 (w0 : {u : World // Ini P B0 u}) E w vs, Rel B0 w0.1 E σ w → VL E vs args → mj_ P f vs.toArray w fun v w' => ∃ E', Env.Le E E' ∧ Rel B0 w0.1 E' σ' w' ∧ V E' v r ∧ Keep E σ w σ' w'
def Aft (B0 : Nat) (w0 : World) (n : Nat) (E : Env) (σ : St) (w : World) (fr' : Fr) (a' : Act) (w' : World) : Prop :=
 ∃ E', Env.Le E E' ∧ Rel B0 w0 E' fr'.σ w' ∧ eB_ E' a' fr'.s ∧ a'.defers = [] ∧ a'.tmps.size = n ∧ Keep E σ w fr'.σ w'
def SOp (ops : Array Oper) (o : Oper) (fr fr' : Fr) : Prop :=
 ∀ n B0 (w0 : {u : World // Ini P B0 u}) E w a (i : Nat) (K : Act → World → Prop) (Q : Exit → Act → World → Prop), ops[i]? = some o → ops.all (dOk n) = true → a.tmps.size = n → a.defers = [] → Rel B0 w0.1 E fr.σ w → eB_ E a fr.s →
  (∀ a' w', Aft B0 w0.1 n E fr.σ w fr' a' w' → K a' w') → wpOp P ops Q i K a w
def SOps (ops : Array Oper) (l : List Nat) (fr fr' : Fr) : Prop :=
 ∀ n B0 (w0 : {u : World // Ini P B0 u}) E w a (Q : Exit → Act → World → Prop), ops.all (dOk n) = true → a.tmps.size = n → a.defers = [] → Rel B0 w0.1 E fr.σ w → eB_ E a fr.s →
  (∀ a' w', Aft B0 w0.1 n E fr.σ w fr' a' w' → Q .normal a' w') → wpOps P ops Q l a w
def fV_ (c : Code) (fr : Fr) (x : aN_) (fr' : Fr) : Prop :=
 ∀ n B0 (w0 : {u : World // Ini P B0 u}) E w a Q, dstsOk n c = true → a.tmps.size = n → a.defers = [] → Rel B0 w0.1 E fr.σ w → eB_ E a fr.s →
  (∀ a' w', Aft B0 w0.1 n E fr.σ w fr' a' w' → Q x.toExit a' w') → c.wp P Q a w
def SRnd (c : Code) (m : Nat) (fr : Fr) (x : aN_) (fr' : Fr) : Prop :=
 ∀ n B0 (w0 : {u : World // Ini P B0 u}) E w a Q, dstsOk n c = true → a.tmps.size = n → a.defers = [] → Rel B0 w0.1 E fr.σ w → eB_ E a fr.s →
  (∀ a' w', Aft B0 w0.1 n E fr.σ w fr' a' w' → Q x.toExit a' w') → Code.rounds P c Q m a w
end
theorem eB_.put {E : Env} {a : Act} {s : Nat → T} (h : eB_ E a s) {o : Oper} {v : Value} {t : T} (hv : V E v t) (hd : dOk a.tmps.size o = true) (σ σ' : St) :
  eB_ E (a.put o.dst v) (Fr.put ⟨s, σ⟩ o.dst t σ').s := by
 unfold dOk at hd
 cases hdst : o.dst with
 | none => exact h
 | some d =>
  rw [hdst] at hd
  simp only [decide_eq_true_eq] at hd
  intro j
  simp only [Act.put, Fr.put]
  by_cases hj : j = d
  ·subst hj
   simp [hd]; exact hv
  ·rw [if_neg hj]
   have : (a.tmps.setIfInBounds d v).getD j undef = a.tmps.getD j undef := by
    simp [Array.getElem?_setIfInBounds_ne (Ne.symm hj)]
   rw [this]; exact h j
theorem oP_ (a : Act) (dst : Option Nat) (v : Value) : (a.put dst v).tmps.size = a.tmps.size := by cases dst <;> simp [Act.put]
theorem ls_ (a : Act) (dst : Option Nat) (v : Value) : (a.put dst v).defers = a.defers := by cases dst <;> rfl
theorem Fr.put_σ (fr : Fr) (dst : Option Nat) (v : T) (σ : St) : (fr.put dst v σ).σ = σ := by cases dst <;> rfl
theorem hp_ {ops : Array Oper} {n j : Nat} {o : Oper} (h : ops.all (dOk n) = true) (ho : ops[j]? = some o) : dOk n o = true :=
 Array.all_eq_true_iff_forall_mem.1 h o (Array.mem_of_getElem? ho)
theorem eF_ {E : Env} {a : Act} {s : Nat → T} (hS : eB_ E a s) {ops : Array Oper} {o : Oper} (hall : ops.all (dOk a.tmps.size) = true) : Region.wanted o (yielded ops a.tmps) = wantedA ops o s := by
 unfold Region.wanted wantedA
 cases hg : o.guard with
 | none => rfl
 | some gw =>
  obtain ⟨j, want⟩ := gw
  simp only [yielded]
  cases hop : ops[j]? with
  | none => simp
  | some o' =>
   simp only [Option.bind_some]
   have hd := hp_ hall hop
   unfold dOk at hd
   cases hdst : o'.dst with
   | none => simp
   | some d =>
    rw [hdst] at hd
    simp only [decide_eq_true_eq] at hd
    have hv := hS d
    have e1 : a.tmps.getD d undef = a.tmps[d] := by simp [hd]
    have e2 : a.tmps[d]? = some a.tmps[d] := Array.getElem?_eq_getElem hd
    simp only [Option.bind_some, e2]
    rw [e1] at hv
    generalize a.tmps[d] = v at hv
    generalize s d = t at hv
    cases hv <;> simp
section
variable {P : Program}
theorem mj_.mono {f : Nat} {vs : Array Value} {w : World} {Q Q' : Value → World → Prop} (h : mj_ P f vs w Q) (k : ∀ v w', Q v w' → Q' v w') : mj_ P f vs w Q' := by
 rcases h with ⟨h1, h2⟩ | ⟨v, w', h1, h2⟩
 ·exact .inl ⟨h1, h2.mono fun e w' ⟨v, e1, e2⟩ => ⟨v, e1, k v w' e2⟩⟩
 ·exact .inr ⟨v, w', h1, k v w' h2⟩
theorem gg_ {f : Nat} (h : nP_ P f) (vs : Array Value) (w : World) : (callFunc f vs).run P w = .ok (.enter f vs) w := by
 obtain ⟨fn, c, h1, h2, h3⟩ := h
 simp only [callFunc, Sem.run_bind, run_program, Result.andThen_ok, h1, h2, Bool.false_eq_true, if_false, h3, Option.isNone_some]
 simp
theorem im_ {B0 w0 E w a} {fr : Fr} {n : Nat} {E' : Env} {w' : World} {o : Oper} {u : Value} {v : T} {σ : St} (hn : a.tmps.size = n) (hdf : a.defers = []) (hd : dOk n o = true) (hS : eB_ E a fr.s)
  (h1 : Env.Le E E') (h2 : Rel B0 w0 E' σ w') (h3 : V E' u v) (h4 : Keep E fr.σ w σ w') : Aft B0 w0 n E fr.σ w (fr.put o.dst v σ) (a.put o.dst u) w' :=
 ⟨E', h1, by rw [Fr.put_σ]; exact h2, (hS.mono h1).put h3 (by rw [hn]; exact hd) fr.σ σ, by rw [ls_, hdf], by rw [oP_, hn], by rw [Fr.put_σ]; exact h4⟩
theorem gv_ {ops : Array Oper} {i : Nat} {o : Oper} {K : Act → World → Prop} {Q : Exit → Act → World → Prop} {a : Act} {w : World} (hi : ops[i]? = some o) (hw : Region.wanted o (yielded ops a.tmps) = true) (h : o.wp P a w K Q) : wpOp P ops Q i K a w := by
 unfold wpOp
 simp only [hi, hw, if_true]
 exact .inl h
theorem j4_ {ops : Array Oper} {i : Nat} {o : Oper} {K : Act → World → Prop} {Q : Exit → Act → World → Prop} {a : Act} {w : World} (hi : ops[i]? = some o) (hw : Region.wanted o (yielded ops a.tmps) = false) (h : K (a.put o.dst undef) w) : wpOp P ops Q i K a w := by
 unfold wpOp
 simp only [hi, hw, Bool.false_eq_true, if_false]
 exact h
theorem oL_ {ops : Array Oper} {o : Oper} {fr : Fr} (hw : wantedA ops o fr.s = false) : SOp P ops o fr (fr.put o.dst (.tup []) fr.σ) := by
 intro n B0 w0 E w a i K Q hi hall hn hdf hR hS hK
 refine j4_ hi (by rw [eF_ hS (by rw [hn]; exact hall)]; exact hw) (hK _ _ ?_)
 exact im_ hn hdf (hp_ hall hi) hS (.refl E) hR (.undef E) (.refl _ _ _)
theorem qd_ {ops : Array Oper} {kk : Option Nat} {o : Oper} {fr : Fr} {v : T} {σ : St} (hw : wantedA ops o fr.s = true) (h : aOp P kk fr o = some (.val v σ)) : SOp P ops o fr (fr.put o.dst v σ) := by
 intro n B0 w0 E w a i K Q hi hall hn hdf hR hS hK
 refine gv_ hi (by rw [eF_ hS (by rw [hn]; exact hall)]; exact hw) ?_
 obtain ⟨E', u, w', h1, h2, h3, h4, h5⟩ := ii_ hR hS h
 unfold Oper.wp
 rw [h2]
 exact hK _ _ (im_ hn hdf (hp_ hall hi) hS h1 h3 h4 h5)
theorem nG_ {ops : Array Oper} {kk : Option Nat} {o : Oper} {fr : Fr} {σ : St} (hw : wantedA ops o fr.s = true) (h : aOp P kk fr o = some (.skip σ)) : SOp P ops o fr (fr.put o.dst (.tup []) σ) := by
 intro n B0 w0 E w a i K Q hi hall hn hdf hR hS hK
 refine gv_ hi (by rw [eF_ hS (by rw [hn]; exact hall)]; exact hw) ?_
 obtain ⟨E', w', h1, h2, h3, h5⟩ := ii_ hR hS h
 unfold Oper.wp
 rw [h2]
 exact hK _ _ (im_ hn hdf (hp_ hall hi) hS h1 h3 (.undef E') h5)
theorem o4_ {ops : Array Oper} {kk : Option Nat} {o : Oper} {fr : Fr} {f : Nat} {args : List T} {r : T} {σ : St} (hw : wantedA ops o fr.s = true) (h : aOp P kk fr o = some (.call f args)) (hc : gB_ P f args fr.σ r σ) : SOp P ops o fr (fr.put o.dst r σ) := by
 intro n B0 w0 E w a i K Q hi hall hn hdf hR hS hK
 refine gv_ hi (by rw [eF_ hS (by rw [hn]; exact hall)]; exact hw) ?_
 obtain ⟨vs, h1, h2⟩ := ii_ hR hS h
 unfold Oper.wp
 rcases hc B0 w0 E w vs hR h2 with ⟨g1, g2⟩ | ⟨v, w', g1, E', k1, k2, k3, k4⟩
 ·rw [h1, gg_ g1]
  refine g2.mono ?_
  rintro e w' ⟨v, rfl, E', k1, k2, k3, k4⟩
  exact hK _ _ (im_ hn hdf (hp_ hall hi) hS k1 k2 k3 k4)
 ·rw [h1, g1]
  exact hK _ _ (im_ hn hdf (hp_ hall hi) hS k1 k2 k3 k4)
theorem po_ {ops : Array Oper} {fr : Fr} : SOps P ops [] fr fr := by
 intro n B0 w0 E w a Q hall hn hdf hR hS hQ
 exact hQ _ _ ⟨E, .refl E, hR, hS, hdf, hn, .refl _ _ _⟩
theorem nB_ {ops : Array Oper} {i : Nat} {l : List Nat} {o : Oper} {fr fr1 fr2 : Fr} (hi : ops[i]? = some o) (h : SOp P ops o fr fr1) (k : SOps P ops l fr1 fr2) : SOps P ops (i :: l) fr fr2 := by
 intro n B0 w0 E w a Q hall hn hdf hR hS hQ
 rw [wpOps_cons]
 refine h n B0 w0 E w a i _ Q hi hall hn hdf hR hS fun a1 w1 h1 => ?_
 obtain ⟨E1, m1, m2, m3, m4, m5, m6⟩ := h1
 refine k n B0 w0 E1 w1 a1 Q hall m5 m4 m2 m3 fun a2 w2 h2 => hQ _ _ ?_
 obtain ⟨E2, q1, q2, q3, q4, q5, q6⟩ := h2
 exact ⟨E2, m1.trans q1, q2, q3, q4, q5, Keep.trans m1 m6 q6⟩
theorem kp_ {id : Nat} {ops : Array Oper} {fr fr' : Fr} (h : SOps P ops (List.range ops.size) fr fr') : fV_ P (.region id ops false) fr .normal fr' := by
 intro n B0 w0 E w a Q hall hn hdf hR hS hQ
 exact wp_region (h n B0 w0 E w a Q hall hn hdf hR hS hQ)
theorem Rel.bump {B0 w0 E σ w} (h : Rel B0 w0 E σ w) (n : Nat) : Rel B0 w0 E (σ.bump n) w := by
 have hb : (σ.bump n).blk = σ.blk := by
  funext i
  show (if i < σ.next then σ.blk i else none) = σ.blk i
  split
  ·rfl
  ·cases hc : σ.blk i with
   | none => rfl
   | some B => exact absurd (h.dom i B hc).1 ‹_›
 have e : σ.bump n = ⟨σ.next + n, σ.blk⟩ := by rw [← hb]; rfl
 rw [e]
 exact ⟨h.bel, h.hB, h.frz, fun b e i hi => by obtain ⟨a1, a2, a3⟩ := h.jlt b e i hi; exact ⟨by simp; omega, a2, a3⟩, h.jb, h.inj, fun b B hb => by obtain ⟨a1, a2⟩ := h.dom b B hb; exact ⟨by simp; omega, a2⟩, h.jep, h.blk, h.oth, h.unf, h.gd, h.nof⟩
theorem mU_ (hmix : P.follows .mixedOrders = true) {id : Nat} {ops : Array Oper} {fr fr' : Fr} (h : ∀ t, SOps P ops (Region.linearise .any ops t) ⟨fr.s, fr.σ.bump ops.size⟩ fr') : fV_ P (.region id ops true) fr .normal fr' := by
 intro n B0 w0 E w a Q hall hn hdf hR hS hQ
 refine wp_region_draw fun t => ?_
 simp only [Region.schedule, hmix, Bool.true_or, if_true]
 refine h t n B0 w0 E _ a Q hall hn hdf (hR.drew.bump _) hS fun a' w' hA => hQ _ _ ?_
 obtain ⟨E1, m1, m2, m3, m4, m5, m6⟩ := hA
 refine ⟨E1, m1, m2, m3, m4, m5, ?_, m6.hs, fun b B hb => m6.old b B (by show (if b < fr.σ.next then fr.σ.blk b else none) = some B; rw [if_pos (hR.dom b B hb).1, hb])⟩
 have := m6.nx
 simp [St.bump] at this
 omega
theorem nd_ {c d : Code} {fr fr1 fr2 : Fr} {x : aN_} (h : fV_ P c fr .normal fr1) (k : fV_ P d fr1 x fr2) : fV_ P (.seq c d) fr x fr2 := by
 intro n B0 w0 E w a Q hall hn hdf hR hS hQ
 simp only [dstsOk, Bool.and_eq_true] at hall
 refine wp_seq (h n B0 w0 E w a _ hall.1 hn hdf hR hS fun a1 w1 h1 => ?_)
 obtain ⟨E1, m1, m2, m3, m4, m5, m6⟩ := h1
 refine k n B0 w0 E1 w1 a1 Q hall.2 m5 m4 m2 m3 fun a2 w2 h2 => hQ _ _ ?_
 obtain ⟨E2, q1, q2, q3, q4, q5, q6⟩ := h2
 exact ⟨E2, m1.trans q1, q2, q3, q4, q5, Keep.trans m1 m6 q6⟩
theorem mQ_ {c d : Code} {fr fr1 : Fr} {x : aN_} (h : fV_ P c fr x fr1) (hx : x ≠ .normal) : fV_ P (.seq c d) fr x fr1 := by
 intro n B0 w0 E w a Q hall hn hdf hR hS hQ
 simp only [dstsOk, Bool.and_eq_true] at hall
 refine wp_seq (h n B0 w0 E w a _ hall.1 hn hdf hR hS fun a1 w1 h1 => ?_)
 have := hQ a1 w1 h1
 cases x with
 | normal => exact absurd rfl hx
 | exit i => exact this
 | ret => exact this
theorem iX_ {c : Operand} {b : Bool} {x y : Code} {fr fr' : Fr} {e : aN_} (hc : evalO fr.s c = some (.bool b)) (h : fV_ P (if b then x else y) fr e fr') : fV_ P (.cond c x y) fr e fr' := by
 intro n B0 w0 E w a Q hall hn hdf hR hS hQ
 simp only [dstsOk, Bool.and_eq_true] at hall
 refine wp_cond (t := b) (ax_ hS hc).bool_inv ?_
 refine h n B0 w0 E w a Q ?_ hn hdf hR hS hQ
 cases b <;> simp [hall.1, hall.2]
theorem lD_ {id : Nat} {c : Code} {fr fr' : Fr} {x : aN_} (h : fV_ P c fr x fr') : fV_ P (.block id c) fr (x.blk id) fr' := by
 intro n B0 w0 E w a Q hall hn hdf hR hS hQ
 refine wp_block (h n B0 w0 E w a _ hall hn hdf hR hS fun a1 w1 h1 => ?_)
 have := hQ a1 w1 h1
 cases x with
 | normal => exact this
 | exit i =>
  simp only [aN_.blk, aN_.toExit, Exit.inBlock] at this ⊢
  split
  ·rename_i hi; simp only [hi, if_true] at this; exact this
  ·rename_i hi; simp only [hi, if_false] at this; exact this
 | ret => exact this
theorem mI_ {c : Code} {m : Nat} {fr fr' : Fr} {x : aN_} (h : SRnd P c m fr x fr') : fV_ P (.loop c) fr x fr' := by
 intro n B0 w0 E w a Q hall hn hdf hR hS hQ
 exact wp_loop_rounds m (h n B0 w0 E w a Q hall hn hdf hR hS hQ)
theorem qO_ {c : Code} {m : Nat} {fr fr1 fr2 : Fr} {x : aN_} (h : fV_ P c fr .normal fr1) (k : SRnd P c m fr1 x fr2) : SRnd P c (m + 1) fr x fr2 := by
 intro n B0 w0 E w a Q hall hn hdf hR hS hQ
 refine h n B0 w0 E w a _ hall hn hdf hR hS fun a1 w1 h1 => ?_
 obtain ⟨E1, m1, m2, m3, m4, m5, m6⟩ := h1
 refine k n B0 w0 E1 w1 a1 Q hall m5 m4 m2 m3 fun a2 w2 h2 => hQ _ _ ?_
 obtain ⟨E2, q1, q2, q3, q4, q5, q6⟩ := h2
 exact ⟨E2, m1.trans q1, q2, q3, q4, q5, Keep.trans m1 m6 q6⟩
theorem oc_ {c : Code} {m : Nat} {fr fr1 : Fr} {x : aN_} (h : fV_ P c fr x fr1) (hx : x ≠ .normal) : SRnd P c (m + 1) fr x fr1 := by
 intro n B0 w0 E w a Q hall hn hdf hR hS hQ
 refine h n B0 w0 E w a _ hall hn hdf hR hS fun a1 w1 h1 => ?_
 have := hQ a1 w1 h1
 cases x with
 | normal => exact absurd rfl hx
 | exit i => exact this
 | ret => exact this
theorem g6_ {c : Code} {x : aN_} {fr : Fr} (h : ∀ Q a w, Q x.toExit a w → c.wp P Q a w) : fV_ P c fr x fr := by
 intro n B0 w0 E w a Q hall hn hdf hR hS hQ
 exact h Q a w (hQ _ _ ⟨E, .refl E, hR, hS, hdf, hn, .refl _ _ _⟩)
theorem jo_ {B0 w0 E w} {fr : Fr} {a : Act} (hR : Rel B0 w0 E fr.σ w) (hS : eB_ E a fr.s) : ∀ {rs : List ResultVar} {ts : List T}, resL P fr rs = some ts →
  ∃ vs : List Value, ((rs.mapM fun | .tmp t => pure (a.tmps.getD t undef) | .cell x t => do loadVar t (← asAddr (a.tmps.getD x undef)) : Sem (List Value))).run P w = .ok vs w ∧ VL E vs ts
 | [], ts, h => by injection h with h; subst h; exact ⟨[], by simp, .nil _⟩
 | r :: rs, ts, h => by
  simp only [resL, Option.bind_eq_some_iff, Option.map_eq_some_iff] at h
  obtain ⟨t, ht, ts', hts, rfl⟩ := h
  obtain ⟨vs, h1, h2⟩ := jo_ hR hS hts
  cases r with
  | tmp j =>
   injection ht with ht; subst ht
   refine ⟨a.tmps.getD j undef :: vs, ?_, .cons (hS j) h2⟩
   simp only [List.mapM_cons, Sem.run_bind, Sem.run_pure, Result.andThen_ok, h1]
  | cell x ty =>
   obtain ⟨u, k1, k2⟩ := h8_ (P := P) hR (hS x) ht
   refine ⟨u :: vs, ?_, .cons k2 h2⟩
   have : (do loadVar ty (← asAddr (a.tmps.getD x undef)) : Sem Value).run P w = .ok u w := by
    generalize a.tmps.getD x undef = z at k1
    cases z <;> simp [Instr.loadAt, Instr.sureAddr, stuck, Sem.run] at k1 ⊢
    rename_i p
    cases p <;> simp [Sem.run, asAddr] at k1 ⊢
    exact k1
   simp only [List.mapM_cons, Sem.run_bind, this, Sem.run_pure, Result.andThen_ok, h1]
theorem mE_ {B0 w0 E w} {fr : Fr} {a : Act} (hR : Rel B0 w0 E fr.σ w) (hS : eB_ E a fr.s) {fn : Func} {r : T} (h : resA P fn fr = some r) : ∃ v, (results fn a.tmps).run P w = .ok v w ∧ V E v r := by
 obtain ⟨ts, hts, rfl⟩ := Option.map_eq_some_iff.1 h
 obtain ⟨vs, h1, h2⟩ := jo_ hR hS hts
 refine ⟨if hh : vs.toArray.size = 1 then vs.toArray[0] else .tuple vs.toArray, ?_, ?_⟩
 ·unfold results
  rw [Array.mapM_eq_mapM_toList]
  simp only [Sem.run_bind, Sem.run_map]
  erw [h1]
  rfl
 ·split
  ·rename_i hh
   have hl : vs.length = 1 := by simpa using hh
   obtain ⟨v, rfl⟩ := List.length_eq_one_iff.1 hl
   have : ts.length = 1 := by rw [← h2.1]; rfl
   obtain ⟨t, rfl⟩ := List.length_eq_one_iff.1 this
   exact h2.head
  ·rename_i hh
   have hl : ¬ ts.length = 1 := by rw [← h2.1]; simpa using hh
   have : tupOf ts = T.tup ts := by
    match ts, hl with
    | [], _ => rfl
    | [_], h => exact absurd rfl h
    | _ :: _ :: _, _ => rfl
   rw [this]
   exact V.tup_iff.2 ⟨_, rfl, by simpa using h2⟩
theorem ku_ {E : Env} {vs : List Value} {args : List T} (h : VL E vs args) (n : Nat) : eB_ E { tmps := vs.toArray ++ Array.replicate n undef, defers := [] } (enterS args) := by
 intro j
 unfold enterS
 have hl := h.1
 by_cases hj : j < vs.length
 ·have e1 : (vs.toArray ++ Array.replicate n undef).getD j undef = vs[j] := by
   simp [Array.getElem?_append, hj]
  have e2 : args.getD j (.tup []) = args[j]'(by omega) := by simp [List.getD_eq_getElem?_getD, show j < args.length by omega]
  simp only [e1, e2]
  exact h.2 j hj (by omega)
 ·have e1 : (vs.toArray ++ Array.replicate n undef).getD j undef = undef := by
   simp only [Array.getD_eq_getD_getElem?, Array.getElem?_append, List.size_toArray, if_neg hj, Array.getElem?_replicate]
   split <;> rfl
  have e2 : args.getD j (.tup []) = .tup [] := by simp [List.getD_eq_getElem?_getD, List.getElem?_eq_none (show args.length ≤ j by omega)]
  simp only [e1, e2]
  exact .undef E
theorem pf_ {f : Nat} {fn : Func} {c : Code} {args : List T} {σ : St} {x : aN_} {fr : Fr} {r : T} (h1 : P.funcs[f]? = some fn) (h2 : (fn.name == "runtime.NumGoroutine") = false) (h3 : fn.body = some c) (h4 : dstsOk fn.ntmps c = true) (h5 : args.length ≤ fn.ntmps)
  (h6 : fV_ P c ⟨enterS args, σ⟩ x fr) (h7 : x = .normal ∨ x = .ret) (h8 : resA P fn fr = some r) : gB_ P f args σ r fr.σ := by
 intro B0 w0 E w vs hR hv
 refine .inl ⟨⟨fn, c, h1, h2, h3⟩, ?_⟩
 refine calls_of_wp h1 h3 ?_
 have hl := hv.1
 refine h6 fn.ntmps B0 w0 E w _ _ h4 ?_ rfl hR (ku_ hv _) fun a' w' hA => ?_
 ·simp; omega
 ·obtain ⟨E', m1, m2, m3, m4, m5, m6⟩ := hA
  obtain ⟨v, k1, k2⟩ := mE_ (P := P) m2 m3 h8
  rcases h7 with rfl | rfl
  ·exact ⟨m4, v, k1, v, rfl, E', m1, m2, k2, m6⟩
  ·exact ⟨m4, v, k1, v, rfl, E', m1, m2, k2, m6⟩
theorem ji_ {D1 D2 f : Nat} {args args' : List T} {σ σ2 : St} {S S2 : List Nat} {r r' : T} (h1 : frzL (frz σ D1) args = some (args', S)) (h2 : gB_ P f args' (σ.mark S) r σ2) (h3 : frz σ2 D2 r = some (r', S2)) (h4 : pureT r' = true)
  (h5 : ∀ i, i < σ.next → σ2.blk i = (σ.mark S).blk i) : gB_ P f args σ r' (if leafT r' = true then σ else (σ.mark S).mark (S2.filter fun i => decide (i < σ.next))) := by
 intro B0 w0 E w vs hR hv
 have hR1 := hR.freeze S
 have hv1 : VL (E.freeze S σ w) vs args' := ga_ (fun t t' S' v a b c => gN_ hR S D1 t t' S' v a b c) h1 (fun b hb => hb) hv
 refine (h2 B0 w0 _ w vs hR1 hv1).mono ?_
 rintro v w' ⟨E2, k1, k2, k3, k4⟩
 have hR3 := k2.freeze S2
 have hv3 := gN_ k2 S2 D2 r r' S2 v h3 (fun b hb => hb) k3
 have hle1 := E.freeze_le S σ w
 have hle3 := E2.freeze_le S2 σ2 w'
 have hF : ∀ a u, E.F a = some u → (E2.freeze S2 σ2 w').F a = some u := fun a u h => hle3.f _ _ (k1.f _ _ (hle1.f _ _ h))
 have hheap : ∀ b B e i, σ.blk b = some B → E.J b e = some i → w'.heap[i.g]? = w.heap[i.g]? := fun b B e i hb hi => by
  have hlt := (hR.jlt b e i hi).1
  obtain ⟨B2, q1, q2, q3⟩ := k4.old b (if b ∈ S then { B with st := false } else B) (by simp [St.mark, hb])
  rw [h5 b hlt] at q1
  simp only [St.mark, hb, Option.map_some] at q1
  injection q1 with q1
  exact q3 (by rw [← q1]) e i hi
 have hsz : w.heap.size ≤ w'.heap.size := k4.hs
 have hkeepblk : ∀ (σ' : St), σ'.next = σ.next → (∀ b B, σ.blk b = some B → ∃ B', σ'.blk b = some B' ∧ B'.ver = B.ver) → Keep E σ w σ' w' := fun σ' hn hb => ⟨by omega, hsz, fun b B hB => by
  obtain ⟨B', q1, q2⟩ := hb b B hB
  exact ⟨B', q1, by omega, fun _ e i hi => hheap b B e i hB hi⟩⟩
 split
 ·rename_i hleaf
  have hEE : Env.Le E ⟨E.F, E.J, E2.O, E2.G⟩ := ⟨fun _ _ h => h, fun _ _ _ h => h, fun k p h => k1.o k p h, fun k p h => k1.g k p h⟩
  refine ⟨⟨E.F, E.J, E2.O, E2.G⟩, hEE, ?_, sb_ hv3 hleaf, hkeepblk σ rfl (fun b B hB => ⟨B, hB, rfl⟩)⟩
  exact ⟨k2.bel, k2.hB, fun a u ha => hR3.frz a u (hF a u ha), fun b e i hi => by obtain ⟨a1, a2, a3⟩ := hR.jlt b e i hi; exact ⟨a1, a2, by omega⟩, hR.jb, hR.inj, hR.dom, hR.jep, fun b B e hb hlo hhi => by
   obtain ⟨i, a1, a2, a3, a4⟩ := hR.blk b B e hb hlo hhi
   exact ⟨i, a1, a2, a3, (a4.heap (hheap b B e i hb a1)).mono hEE⟩, fun k p hk => by
   obtain ⟨a1, ⟨o, a2, a3⟩, a4⟩ := k2.oth k p hk
   exact ⟨a1, ⟨o, a2, a3.same rfl⟩, fun b e i hi => a4 b e i (k1.j _ _ _ hi)⟩, fun a u ha => hR3.unf a u (hF a u ha), k2.gd, hR.nof⟩
 ·let E3 : Env := ⟨(E2.freeze S2 σ2 w').F, E.J, E2.O, E2.G⟩
  have hEE3 : Env.Le E E3 := ⟨hF, fun _ _ _ h => h, fun k p h => k1.o k p h, fun k p h => k1.g k p h⟩
  have hmk : ∀ b B', ((σ.mark S).mark (S2.filter fun i => decide (i < σ.next))).blk b = some B' → ∃ B, σ.blk b = some B ∧ B'.cells = B.cells ∧ B'.esz = B.esz ∧ B'.ep = B.ep ∧ B'.low = B.low ∧ B'.ver = B.ver ∧ (B.st = false → B'.st = false) ∧ (σ2.mark S2).blk b = some B' := fun b B' hb => by
   obtain ⟨B1, a1, a2⟩ := f5_ hb
   obtain ⟨B, b1, b2⟩ := f5_ a1
   obtain ⟨c1, c2, c3, c4, c5, c6, _⟩ := eZ_ B' a2
   obtain ⟨d1, d2, d3, d4, d5, d6, _⟩ := eZ_ B1 b2
   refine ⟨B, b1, by rw [c1, d1], by rw [c2, d2], by rw [c3, d3], by rw [c4, d4], by rw [c5, d5], fun hh => c6 (d6 hh), ?_⟩
   have hlt := (hR.dom b B b1).1
   have h6 := h5 b hlt
   have h7 : b ∈ S2.filter (fun i => decide (i < σ.next)) ↔ b ∈ S2 := by simp [hlt]
   simp only [St.mark, h7] at h6 hb ⊢
   rw [h6]; exact hb
  refine ⟨E3, hEE3, ?_, sQ_ (E := E2.freeze S2 σ2 w') (E' := E3) (fun _ _ h => h) hv3 h4, hkeepblk _ rfl (fun b B hB => ?_)⟩
  ·refine ⟨k2.bel, k2.hB, fun a u ha => hR3.frz a u ha, fun b e i hi => by obtain ⟨a1, a2, a3⟩ := hR.jlt b e i hi; exact ⟨a1, a2, by omega⟩, fun b e i hi => by { obtain ⟨B, hB⟩ := hR.jb b e i hi; exact ⟨_, by simp [St.mark, hB]; rfl⟩ }, hR.inj, fun b B' hb => ?_, fun b B' e i hb hi => ?_, fun b B' e hb hlo hhi => ?_, fun k p hk => by { obtain ⟨a1, ⟨o, a2, a3⟩, a4⟩ := k2.oth k p hk; exact ⟨a1, ⟨o, a2, a3.same rfl⟩, fun b e i hi => a4 b e i (k1.j _ _ _ hi)⟩ }, hR3.unf, k2.gd, fun b B' e i a u hb hi ha hg => ?_⟩
   ·obtain ⟨B, q0, q1, q2, q3, q4, q5, q6, q7⟩ := hmk b B' hb
    obtain ⟨a1, a2⟩ := hR.dom b B q0
    exact ⟨a1, by omega⟩
   ·obtain ⟨B, q0, q1, q2, q3, q4, q5, q6, q7⟩ := hmk b B' hb
    obtain ⟨a1, a2⟩ := hR.jep b B e i q0 hi
    exact ⟨by omega, by omega⟩
   ·obtain ⟨B, q0, q1, q2, q3, q4, q5, q6, q7⟩ := hmk b B' hb
    obtain ⟨i, a1, a2, a3, a4⟩ := hR.blk b B e q0 (by omega) (by omega)
    rw [q1]
    exact ⟨i, a1, a2, fun he => a3 (by omega), (a4.heap (hheap b B e i q0 a1)).mono hEE3⟩
   ·obtain ⟨B, q0, q1, q2, q3, q4, q5, q6, q7⟩ := hmk b B' hb
    exact hR3.nof b B' e i a u q7 (k1.j _ _ _ hi) ha hg
  ·exact ⟨_, by simp [St.mark, hB]; rfl, by split <;> split <;> rfl⟩
theorem kw_ {D1 D2 f : Nat} {args args' : List T} {σ σ2 : St} {S K : List Nat} {r v0 : T} (h1 : frzL (frz σ D1) args = some (args', S)) (h2 : gB_ P f args' (σ.mark S) r σ2) (h3 : own σ2 D2 r = some (v0, K)) (h4 : ∀ b ∈ K, σ.next ≤ b)
  (h5 : ∀ i, i < σ.next → σ2.blk i = (σ.mark S).blk i) : gB_ P f args σ r (σ.keep σ2 K) := by
 intro B0 w0 E w vs hR hv
 have hR1 := hR.freeze S
 have hv1 : VL (E.freeze S σ w) vs args' := ga_ (fun t t' S' v a b c => gN_ hR S D1 t t' S' v a b c) h1 (fun b hb => hb) hv
 refine (h2 B0 w0 _ w vs hR1 hv1).mono ?_
 rintro v w' ⟨E2, k1, k2, k3, k4⟩
 have hle1 := E.freeze_le S σ w
 have hEE2 : Env.Le E E2 := hle1.trans k1
 have hnx : σ.next ≤ σ2.next := k4.nx
 have hheap : ∀ b B e i, σ.blk b = some B → E.J b e = some i → w'.heap[i.g]? = w.heap[i.g]? := fun b B e i hb hi => by
  have hlt := (hR.jlt b e i hi).1
  obtain ⟨B2, q1, q2, q3⟩ := k4.old b (if b ∈ S then { B with st := false } else B) (by simp [St.mark, hb])
  rw [h5 b hlt] at q1
  simp only [St.mark, hb, Option.map_some] at q1
  injection q1 with q1
  exact q3 (by rw [← q1]) e i hi
 have hsz : w.heap.size ≤ w'.heap.size := k4.hs
 let E3 : Env := ⟨E.F, fun b e => if b < σ.next then E.J b e else if b ∈ K then E2.J b e else none, E2.O, E2.G⟩
 have hJ3 : ∀ b e i, E3.J b e = some i → E2.J b e = some i ∧ ((b < σ.next ∧ E.J b e = some i) ∨ (σ.next ≤ b ∧ b ∈ K)) := fun b e i h => by
  simp only [E3] at h
  split at h
  ·exact ⟨hEE2.j _ _ _ h, .inl ⟨by assumption, h⟩⟩
  ·split at h
   ·exact ⟨h, .inr ⟨by omega, by assumption⟩⟩
   ·cases h
 have hJK : ∀ b e i, b ∈ K → E2.J b e = some i → E3.J b e = some i := fun b e i hb h => by
  have := h4 b hb
  simp only [E3]
  rw [if_neg (by omega), if_pos hb]; exact h
 have hE3 : Env.Le E E3 := ⟨fun _ _ h => h, fun b e i h => by
  have := (hR.jlt b e i h).1
  simp only [E3]; rw [if_pos this]; exact h, fun k p h => k1.o k p h, fun k p h => k1.g k p h⟩
 have hblk : ∀ b B, (σ.keep σ2 K).blk b = some B → (b < σ.next ∧ σ.blk b = some B) ∨ (σ.next ≤ b ∧ b ∈ K ∧ σ2.blk b = some B) := fun b B h => by
  simp only [St.keep] at h
  split at h
  ·exact .inl ⟨by assumption, h⟩
  ·split at h
   ·exact .inr ⟨by omega, by assumption, h⟩
   ·cases h
 have hbK : ∀ b B, b ∈ K → σ2.blk b = some B → (σ.keep σ2 K).blk b = some B := fun b B hb h => by
  have := h4 b hb
  simp only [St.keep]; rw [if_neg (by omega), if_pos hb]; exact h
 have hbo : ∀ b B, σ.blk b = some B → (σ.keep σ2 K).blk b = some B := fun b B h => by
  have := (hR.dom b B h).1
  simp only [St.keep]; rw [if_pos this]; exact h
 refine ⟨E3, hE3, ?_, qP_ hJK D2 r v0 K v h3 (fun b hb => hb) k3, ⟨hnx, hsz, fun b B hB => ⟨B, hbo b B hB, Nat.le_refl _, fun _ e i hi => hheap b B e i hB hi⟩⟩⟩
 refine ⟨k2.bel, k2.hB, fun a u ha => k2.frz a u (hEE2.f _ _ ha), fun b e i hi => k2.jlt b e i (hJ3 b e i hi).1, fun b e i hi => ?_, fun b e i b' e' i' ha hb hg => k2.inj b e i b' e' i' (hJ3 _ _ _ ha).1 (hJ3 _ _ _ hb).1 hg,
  fun b B hb => ?_, fun b B e i hb hi => ?_, fun b B e hb hlo hhi => ?_, fun k p hk => by { obtain ⟨a1, ⟨o, a2, a3⟩, a4⟩ := k2.oth k p hk; exact ⟨a1, ⟨o, a2, a3.same rfl⟩, fun b e i hi => a4 b e i (hJ3 b e i hi).1⟩ }, fun a u ha => k2.unf a u (hEE2.f _ _ ha), k2.gd, fun b B e i a u hb hi ha hg => ?_⟩
 ·rcases (hJ3 b e i hi).2 with ⟨_, c⟩ | ⟨_, c⟩
  ·obtain ⟨B, hB⟩ := hR.jb b e i c
   exact ⟨B, hbo b B hB⟩
  ·obtain ⟨B, hB⟩ := k2.jb b e i (hJ3 b e i hi).1
   exact ⟨B, hbK b B c hB⟩
 ·rcases hblk b B hb with ⟨c1, c2⟩ | ⟨c1, c2, c3⟩
  ·obtain ⟨a1, a2⟩ := hR.dom b B c2
   exact ⟨by show b < σ2.next; omega, a2⟩
  ·exact k2.dom b B c3
 ·rcases hblk b B hb with ⟨c1, c2⟩ | ⟨c1, c2, c3⟩
  ·rcases (hJ3 b e i hi).2 with ⟨_, c⟩ | ⟨c, _⟩
   ·exact hR.jep b B e i c2 c
   ·omega
  ·exact k2.jep b B e i c3 (hJ3 b e i hi).1
 ·rcases hblk b B hb with ⟨c1, c2⟩ | ⟨c1, c2, c3⟩
  ·obtain ⟨i, a1, a2, a3, a4⟩ := hR.blk b B e c2 hlo hhi
   exact ⟨i, hE3.j _ _ _ a1, a2, a3, (a4.heap (hheap b B e i c2 a1)).mono hE3⟩
  ·obtain ⟨i, a1, a2, a3, arr, ty, fr, b1, b2, b3, b4, b5⟩ := k2.blk b B e c3 hlo hhi
   refine ⟨i, hJK b e i c2 a1, a2, a3, arr, ty, fr, b1, b2, b3, b4, b5.1, fun j p q => ?_⟩
   obtain ⟨B', v', K', d', m1, m2, m3⟩ := kR_ D2 r v0 K h3 b c2
   rw [c3] at m1; injection m1 with m1; subst m1
   have hmem : (B.cells.take i.len)[j] ∈ B.cells := List.mem_of_mem_take (List.getElem_mem _)
   obtain ⟨x, S', n1, n2⟩ := jz_ m2 _ hmem
   exact qP_ hJK d' _ _ _ _ n1 (fun b hb => m3 b (n2 b hb)) (b5.2 j p q)
 ·rcases hblk b B hb with ⟨c1, c2⟩ | ⟨c1, c2, c3⟩
  ·rcases (hJ3 b e i hi).2 with ⟨_, c⟩ | ⟨c, _⟩
   ·exact hR.nof b B e i a u c2 c ha hg
   ·omega
  ·exact k2.nof b B e i a u c3 (hJ3 b e i hi).1 (hEE2.f _ _ ha) hg
theorem sound (hmix : P.follows .mixedOrders = true) {vm : Nat → Md} {X : Ext} (hX : ∀ f g args σ r σ', X f = some g → g args σ = some (r, σ') → gB_ P f args σ r σ') :
  ∀ {f args σ r σ'}, EvCall P vm X f args σ r σ' → gB_ P f args σ r σ' := by
 intro f args σ r σ' h
 refine EvCall.rec (P := P) (vm := vm) (X := X) (motive_1 := fun f args σ r σ' _ => gB_ P f args σ r σ') (motive_2 := fun f args σ r σ' _ => gB_ P f args σ r σ') (motive_3 := fun ops k o fr fr' _ => SOp P ops o fr fr')
  (motive_4 := fun ops b l fr fr' _ => SOps P ops l fr fr') (motive_5 := fun c fr x fr' _ => fV_ P c fr x fr') (motive_6 := fun c n fr x fr' _ => SRnd P c n fr x fr')
  ?_ ?_ ?_ ?_ ?_ ?_ ?_ ?_ ?_ ?_ ?_ ?_ ?_ ?_ ?_ ?_ ?_ ?_ ?_ ?_ ?_ ?_ ?_ ?_ h
 ·intro f fn c args σ x fr r _ h1 h2 h3 h4 h5 _ h7 h8 ih; exact pf_ h1 h2 h3 h4 h5 ih h7 h8
 ·intro f g args σ r σ' h1 h2; exact hX _ _ _ _ _ _ h1 h2
 ·intro f args σ r σ' _ _ ih; exact ih
 ·intro D1 D2 f args σ args' S r σ2 r' S2 _ h1 _ h3 h4 h5 ih; exact ji_ h1 ih h3 h4 h5
 ·intro D1 D2 f args σ args' S r σ2 v K _ h1 _ h3 h4 h5 ih; exact kw_ h1 ih h3 h4 h5
 ·intro ops k o fr h; exact oL_ h
 ·intro ops k o fr v σ h1 h2; exact qd_ h1 h2
 ·intro ops k o fr σ h1 h2; exact nG_ h1 h2
 ·intro ops k o fr f args r σ h1 h2 _ ih; exact o4_ h1 h2 ih
 ·intro ops b fr; exact po_
 ·intro ops b i l o fr fr1 fr2 h1 _ _ ih1 ih2; exact nB_ h1 ih1 ih2
 ·intro fr; exact g6_ fun Q a w h => wp_skip h
 ·intro id ops fr fr' _ ih; exact kp_ ih
 ·intro id ops fr fr' _ ih; exact mU_ hmix ih
 ·intro a b fr fr1 x fr2 _ _ ih1 ih2; exact nd_ ih1 ih2
 ·intro a b fr x fr1 _ hx ih; exact mQ_ ih hx
 ·intro c a b fr x fr' hc _ ih; exact iX_ (b := true) hc ih
 ·intro c a b fr x fr' hc _ ih; exact iX_ (b := false) hc ih
 ·intro id c fr x fr' _ ih; exact lD_ ih
 ·intro c n fr x fr' _ ih; exact mI_ ih
 ·intro id fr; exact g6_ fun Q a w h => wp_exit h
 ·intro fr; exact g6_ fun Q a w h => wp_ret h
 ·intro c n fr fr1 x fr2 _ _ ih1 ih2; exact qO_ ih1 ih2
 ·intro c n fr x fr1 _ hx ih; exact oc_ ih hx
end
end Go.Am
end
