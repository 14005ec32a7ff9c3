/- The abstract machine. -/
import Derived.Test.YtkgmfmcpbgffpaaAm0
import Derived.Laws.StructEq
import Derived.Laws.BytesString
import Derived.Lib.ConvBytes
import Derived.WalkSpells
import Derived.LaidEql
import Derived.LoopN
section
set_option linter.unusedVariables false
set_option linter.unusedSimpArgs false
namespace Go.Am
open Go.RowKit
section
variable {P : Program}
def eN_ (P : Program) (E : Env) (w : World) (s : Sem Value) (v : T) : Prop := ∃ u, s.run P w = .ok u w ∧ V E u v
theorem V.int_inv {E : Env} {v : Value} {k n} (h : V E v (.int k n)) : v = .int k n := by cases h; rfl
theorem V.bool_inv {E : Env} {v : Value} {b} (h : V E v (.bool b)) : v = .bool b := by cases h; rfl
theorem V.str_inv {E : Env} {v : Value} {s} (h : V E v (.str s)) : v = .string s := by cases h; rfl
theorem lx_ (a b : ByteArray) : (a.toList == b.toList) = decide (a = b) := by
 rw [ByteArray.toList_eq, ByteArray.toList_eq, Bool.eq_iff_iff]
 obtain ⟨⟨x⟩⟩ := a
 obtain ⟨⟨y⟩⟩ := b
 simp
theorem hQ_ {E : Env} {w : World} {op : BinOp} {k : IntKind} {a b : Int} {r : T} (h : ds_ op k a b = some r) (t : TypeId) : eN_ P E w (binOp op t (.int k a) (.int k b)) r := by
 by_cases hs : op = .shr
 ·subst hs
  simp only [ds_] at h
  split at h
  ·rename_i hb
   injection h with h; subst h
   refine ⟨_, ?_, .int _ _⟩
   have e : ¬ b < 0 := by omega
   simp [binOp, Op.shift, e]
  ·cases h
 by_cases ha : op = .and
 ·subst ha
  simp only [ds_] at h
  injection h with h; subst h
  refine ⟨_, ?_, .int _ _⟩
  simp [binOp, Op.intBits, andI]
 cases op <;> simp only [ds_] at h <;> (try cases h) <;> (try (split at h)) <;> (try cases h) <;> (try (exact absurd rfl hs)) <;> (try (exact absurd rfl ha)) <;>
  simp_all [eN_, binOp, Op.intArith, Op.intDiv, Op.intCmp] <;> first | exact .int _ _ | (constructor; done) | skip
 all_goals (first | (refine .bool _) | skip)
theorem lb_ {E : Env} {w : World} {op : BinOp} {a b : ByteArray} {r : T} (h : fX_ op a b = some r) (t : TypeId) : eN_ P E w (binOp op t (.string a) (.string b)) r := by
 cases op <;> simp only [fX_] at h <;> (try cases h) <;> (try (split at h)) <;> (try cases h) <;>
  simp_all [eN_, binOp, Op.stringOp, lx_]
 all_goals first | exact .bool _ | skip
 ·rename_i hle
  rw [if_neg (by simp [IntKind.max, IntKind.bits, IntKind.signed]; omega)]
  exact ⟨_, rfl, .str _⟩
theorem pq_ {E : Env} {w : World} {op : UnOp} {x r : T} {v : Value} (hx : V E v x) (h : unA op x = some r) : eN_ P E w (Op.unary op v) r := by
 cases x <;> simp only [unA] at h <;> (try cases h)
 ·cases op <;> simp at h
  subst h
  cases hx
  exact ⟨_, by simp [Op.unary, Op.intArith], .int _ _⟩
 ·cases op <;> simp at h
  subst h
  cases hx
  exact ⟨_, by simp [Op.unary], .bool _⟩
theorem k7_ {E : Env} {w : World} : ∀ (d : Nat) (t : TypeId) {x y : T} {v u : Value} {r : Bool}, V E v x → V E u y → eqT P d t x y = some r → ∀ D, (Op.equalIn (D + d) t v u).run P w = .ok r w
 | 0, t, x, y, v, u, r, hx, hy, h, D => by simp [eqT] at h
 | d + 1, t, x, y, v, u, r, hx, hy, h, D => by
  unfold eqT at h
  split at h
  ·split at h
   ·rename_i hc
    injection h with h; subst h
    obtain ⟨k', hk⟩ := hG_ hc.1
    obtain ⟨_, rfl⟩ := hc
    cases hx; cases hy
    rw [show D + (d + 1) = (D + d) + 1 by omega, run_equalIn_int w _ t _ k' _ _ hk]
    congr 1
   ·cases h
  ·split at h
   ·rename_i hc
    injection h with h; subst h
    cases hx; cases hy
    rw [show D + (d + 1) = (D + d) + 1 by omega, run_equalIn_bool' w _ t _ _ (jx_ hc)]
   ·cases h
  ·split at h
   ·rename_i hc
    injection h with h; subst h
    cases hx; cases hy
    rw [show D + (d + 1) = (D + d) + 1 by omega, run_equalIn_string w _ t _ _ (cf_ hc), lx_]
   ·cases h
  ·split at h
   ·rename_i xs ys hc
    obtain ⟨fs, hfs⟩ := hN_ hc.1
    obtain ⟨vs, rfl, hvs⟩ := V.agg_iff.1 hx
    obtain ⟨us, rfl, hus⟩ := V.agg_iff.1 hy
    have hfo : P.fieldsOf t = fs := by unfold Program.fieldsOf; rw [hfs]
    rw [show D + (d + 1) = (D + d) + 1 by omega, run_equalIn_struct w _ t vs us (by rw [hfo]; exact hfs) hc.2, hfo]
    have hft : ck_ P t = fs.toList := by unfold ck_; rw [hfs]
    rw [hft] at h
    generalize fs.toList = l at h
    clear hfs hfo hft
    induction l with
    | nil => simp [eqFs] at h; subst h; simp [Op.eqFields]
    | cons f l ih =>
     simp only [eqFs] at h
     unfold Op.eqFields
     split at h
     ·rename_i hf
      rw [if_pos hf]
      obtain ⟨a, ha, h1⟩ := Option.bind_eq_some_iff.1 h
      obtain ⟨b, hb, h2⟩ := Option.bind_eq_some_iff.1 h1
      obtain ⟨q, hq, h3⟩ := Option.bind_eq_some_iff.1 h2
      obtain ⟨a', ra, va⟩ := hv_ (P := P) (w := w) hvs ha
      obtain ⟨b', rb, vb⟩ := hv_ (P := P) (w := w) hus hb
      have := k7_ (w := w) d f.type va vb hq D
      simp only [Sem.run_bind, ra, rb, Result.andThen_ok, this]
      cases q with
      | true => simp only [if_true] at h3; simpa using ih h3
      | false => simp at h3; subst h3; simp
     ·rename_i hf
      rw [if_neg hf]
      exact ih h
   ·cases h
  ·cases h
set_option maxHeartbeats 1000000 in
theorem kX_ {E : Env} {w : World} {t : TypeId} {x y : T} {v u : Value} {r : Bool} (hx : V E v x) (hy : V E u y) (h : eqA P t x y = some r) : (Op.equal t v u).run P w = .ok r w := by
 suffices hd : ∀ d, (Op.equalIn (d + 8) t v u).run P w = .ok r w from hd 9992
 intro d
 have agg_case : ∀ xs ys, x = .agg xs → y = .agg ys → eqT P 8 t (.agg xs) (.agg ys) = some r → (Op.equalIn (d + 8) t v u).run P w = .ok r w := fun xs ys ex ey h' => by
  subst ex; subst ey
  exact k7_ (P := P) (w := w) 8 t hx hy h' d
 unfold eqA at h
 split at h
 all_goals (first | (cases h; done) | (split at h <;> first | (cases h; done) | skip))
 case h_1.isTrue => rename_i hc; injection h with h; subst h; cases hx; cases hy; exact run_equalIn_bool' w _ t _ _ (jx_ hc)
 case h_2.isTrue => rename_i hc; injection h with h; subst h; cases hx; cases hy; obtain ⟨e, he⟩ := dc_ hc; exact (show ∀ d, (Op.equalIn (d + 1) t _ _).run P w = .ok _ w from fun d => by simp [Op.equalIn, run_underlying he]) (d + 7)
 case h_3.isTrue => rename_i hc; injection h with h; subst h; cases hx; cases hy; obtain ⟨e, he⟩ := dc_ hc; exact (show ∀ d, (Op.equalIn (d + 1) t _ _).run P w = .ok _ w from fun d => by simp [Op.equalIn, run_underlying he]) (d + 7)
 case h_4.isTrue => rename_i hc; injection h with h; subst h; cases hx; cases hy; obtain ⟨e, he⟩ := dc_ hc; exact (show ∀ d, (Op.equalIn (d + 1) t _ _).run P w = .ok _ w from fun d => by simp [Op.equalIn, run_underlying he]) (d + 7)
 case h_5.isTrue => rename_i hc; injection h with h; subst h; cases hx; cases hy; obtain ⟨e, he⟩ := dc_ hc; exact (show ∀ d, (Op.equalIn (d + 1) t _ _).run P w = .ok _ w from fun d => by simp [Op.equalIn, run_underlying he]) (d + 7)
 case h_6.isTrue => rename_i hc; injection h with h; subst h; cases hx; cases hy; obtain ⟨e, he⟩ := dc_ hc; exact (show ∀ d, (Op.equalIn (d + 1) t _ _).run P w = .ok _ w from fun d => by simp [Op.equalIn, run_underlying he]) (d + 7)
 case h_7.isTrue => rename_i hc; injection h with h; subst h; cases hx; cases hy; obtain ⟨_, _, _, he⟩ := ht_ hc; exact (show ∀ d, (Op.equalIn (d + 1) t _ _).run P w = .ok _ w from fun d => by simp [Op.equalIn, run_underlying he]) (d + 7)
 case h_8.isTrue => rename_i hc; injection h with h; subst h; cases hx; cases hy; obtain ⟨_, _, _, he⟩ := ht_ hc; exact (show ∀ d, (Op.equalIn (d + 1) t _ _).run P w = .ok _ w from fun d => by simp [Op.equalIn, run_underlying he]) (d + 7)
 case h_9.isTrue => rename_i hc; injection h with h; subst h; cases hx; cases hy; obtain ⟨_, _, _, he⟩ := ht_ hc; exact (show ∀ d, (Op.equalIn (d + 1) t _ _).run P w = .ok _ w from fun d => by simp [Op.equalIn, run_underlying he]) (d + 7)
 case h_10.isTrue =>
  rename_i hc; injection h with h; subst h
  obtain ⟨e, he⟩ := cg_ hc
  cases hy <;> cases hx <;> exact (show ∀ d, (Op.equalIn (d + 1) t _ _).run P w = .ok _ w from fun d => by simp [Op.equalIn, run_underlying he]) (d + 7)
 case h_11.isTrue => rename_i hc; injection h with h; subst h; obtain ⟨e, he⟩ := cg_ hc; cases hy; cases hx; exact (show ∀ d, (Op.equalIn (d + 1) t _ _).run P w = .ok _ w from fun d => by simp [Op.equalIn, run_underlying he]) (d + 7)
 case h_12.isTrue => rename_i hc; injection h with h; subst h; obtain ⟨e, he⟩ := cg_ hc; cases hy; cases hx; exact (show ∀ d, (Op.equalIn (d + 1) t _ _).run P w = .ok _ w from fun d => by simp [Op.equalIn, run_underlying he]) (d + 7)
 case h_13.isTrue => rename_i hc; cases hy; cases hx <;> (first | (cases h; done) | skip) <;> (injection h with h; subst h); all_goals obtain ⟨_, _, he⟩ := pi_ hc; exact (show ∀ d, (Op.equalIn (d + 1) t _ _).run P w = .ok _ w from fun d => by simp [Op.equalIn, run_underlying he]) (d + 7)
 case h_14.isTrue => exact agg_case _ _ rfl rfl h
end
end Go.Am
end
section
set_option linter.unusedVariables false
set_option linter.unusedSimpArgs false
namespace Go.Am
open Go.RowKit
section
variable {P : Program}
theorem nh_ {E : Env} {w : World} {op : BinOp} {t : TypeId} {x y r : T} {v u : Value} (hx : V E v x) (hy : V E u y) (h : binA P op t x y = some r) (X Y : Operand) :
  eN_ P E w (do eqGuard op t X Y v u; binOp op t v u) r := by
 unfold binA at h
 split at h
 ·split at h
  ·rename_i hk
   subst hk
   obtain rfl := hx.int_inv
   obtain rfl := hy.int_inv
   obtain ⟨z, h1, h2⟩ := hQ_ (P := P) (E := E) (w := w) h t
   refine ⟨z, ?_, h2⟩
   rw [← h1]
   cases op <;> simp [eqGuard]
  ·cases h
 ·obtain rfl := hx.str_inv
  obtain rfl := hy.str_inv
  obtain ⟨z, h1, h2⟩ := lb_ (P := P) (E := E) (w := w) h t
  refine ⟨z, ?_, h2⟩
  rw [← h1]
  cases op <;> simp [eqGuard]
 ·rename_i n
  split at h
  ·injection h with h; subst h
   cases hx with
   | anyi m =>
    obtain rfl := hy.int_inv
    obtain ⟨z, h1, h2⟩ := hQ_ (P := P) (E := E) (w := w) (show ds_ .add .i64 m n = some _ from rfl) t
    cases h2
    refine ⟨.int .i64 (w4 (m + n)), ?_, .anyi _⟩
    rw [← h1]
    simp [eqGuard]
  ·cases h
 ·rename_i hni hns _
  have guard : ∀ b, eqA P t x y = some b → (eqGuard op t X Y v u).run P w = .ok () w := fun b hb => by
   unfold eqA at hb
   split at hb
   case h_14 =>
    split at hb
    ·rename_i hg
     obtain ⟨_, rfl, _⟩ := V.agg_iff.1 hx
     obtain ⟨_, rfl, _⟩ := V.agg_iff.1 hy
     exact run_eqGuard_agg w op t X Y _ _ hg
    ·cases hb
   case h_15 => cases hb
   all_goals (cases hx <;> cases hy <;> cases op <;> simp [eqGuard])
  cases op <;> simp only [reduceCtorEq] at h
  case eql =>
   obtain ⟨b, hb, rfl⟩ := Option.map_eq_some_iff.1 h
   have h1 := kX_ (P := P) (w := w) hx hy hb
   refine ⟨.bool b, ?_, .bool b⟩
   simp only [Sem.run_bind, guard b hb, Result.andThen_ok]
   cases hx <;> cases hy <;> first | (exact absurd rfl (hni _ _ _ _ rfl)) | (exact absurd rfl (hns _ _ rfl)) | (simp [binOp, h1]; done) | (simp [eqA] at hb; done) | skip
  case neq =>
   obtain ⟨b, hb, rfl⟩ := Option.map_eq_some_iff.1 h
   have h1 := kX_ (P := P) (w := w) hx hy hb
   refine ⟨.bool (!b), ?_, .bool (!b)⟩
   simp only [Sem.run_bind, guard b hb, Result.andThen_ok]
   cases hx <;> cases hy <;> first | (exact absurd rfl (hni _ _ _ _ rfl)) | (exact absurd rfl (hns _ _ rfl)) | (simp [binOp, h1]; done) | (simp [eqA] at hb; done) | skip
end
end Go.Am
end
section
set_option linter.unusedVariables false
set_option linter.unusedSimpArgs false
namespace Go.Am
open Go.RowKit
section
variable {P : Program}
theorem oU_ (a : Addr) (i j : Nat) : (a.add i).add j = a.add (i + j) := by
 unfold Addr.add
 by_cases hi : i = 0 <;> by_cases hj : j = 0 <;> simp [hi, hj, Nat.add_assoc]
theorem V.vw_drop {E : Env} {a : Addr} {us : List Value} {cs : List T} (h1 : VL E us cs) (h2 : ∀ j u, us[j]? = some u → E.F (a.add j) = some u) (k : Nat) : V E (.pointer (some (a.add k))) (.vw (cs.drop k)) := by
 refine V.vw_iff.2 ⟨_, us.drop k, rfl, h1.drop k, fun j u hu => ?_⟩
 rw [List.getElem?_drop] at hu
 rw [oU_]; exact h2 _ _ hu
theorem gc_ {t : TypeId} {f off n : Nat} {ft : TypeId} (h : bJ_ P t f = some (off, ft, n)) :
  ∃ fs x, P.underlying t = some (.struct fs) ∧ fs[f]? = some x ∧ x.offset = off ∧ x.type = ft ∧ szOf P ft = some n := by
 unfold bJ_ at h
 split at h
 ·rename_i fs hfs
  obtain ⟨x, hx, h1⟩ := Option.bind_eq_some_iff.1 h
  obtain ⟨m, hm, h2⟩ := Option.map_eq_some_iff.1 h1
  injection h2 with h2 h3; injection h3 with h3 h4
  subst h2; subst h3; subst h4
  exact ⟨fs, x, hfs, hx, rfl, rfl, hm⟩
 ·cases h
theorem iX_ {w : World} {t : TypeId} {f off n : Nat} {ft : TypeId} (h : bJ_ P t f = some (off, ft, n)) (hn : n ≠ 0) (a : Addr) : (Instr.fieldAt t (.pointer (some a)) f).run P w = .ok (.pointer (some (a.add off))) w := by
 obtain ⟨fs, x, h1, h2, h3, h4, h5⟩ := gc_ h
 subst h3; subst h4
 simp [Instr.fieldAt, run_underlying h1, h2, Instr.sureAddr, fieldPlace, ci_ h5, hn]
theorem i8_ {B0 w0 E σ w} (hR : Rel B0 w0 E σ w) {t : TypeId} {x i r : T} {v u : Value} (hx : V E v x) (hi : V E u i) (h : eH_ P σ t x i = some r) : eN_ P E w (Instr.indexAt t v u) r := by
 unfold eH_ at h
 split at h
 ·rename_i k j
  obtain rfl := hi.int_inv
  obtain ⟨e, he, q1⟩ := Option.bind_eq_some_iff.1 h
  obtain ⟨sz, hsz, q2⟩ := Option.bind_eq_some_iff.1 q1
  clear h q1
  have ht := bq_ he
  split at q2
  ·rename_i z n cs
   split at q2
   ·rename_i hc
    injection q2 with q2; subst q2
    rcases V.row_iff.1 hx with ⟨_, rfl, _⟩ | ⟨_, a, c, us, rfl, _, h1, h2⟩
    ·omega
    ·have hlt : j < (n : Int) := hc.2.1
     refine ⟨.pointer (some (a.add (j.toNat * sz))), ?_, V.vw_drop h1 h2 _⟩
     simp [Instr.indexAt, asIntOf, run_underlying ht, hc.1, hlt, ci_ hsz]
   ·cases q2
  ·rename_i b ep off n
   obtain ⟨B, hb, q3⟩ := Option.bind_eq_some_iff.1 q2
   clear q2
   split at q3
   ·rename_i hc
    injection q3 with q3; subst q3
    obtain ⟨h0, h1, h2⟩ := hc
    cases hx with
    | ref hJ hlen ha =>
     rename_i c inc a
     obtain ⟨_, hesz⟩ := hR.jep _ _ _ _ hb hJ
     rcases ha with ⟨rfl, _⟩ | ⟨rfl, _⟩
     ·refine ⟨.pointer (some (Addr.add ⟨inc.g, off, none⟩ (j.toNat * sz))), by simp [Instr.indexAt, asIntOf, run_underlying ht, h0, h1, ci_ hsz], ?_⟩
      rw [jt_]
      refine V.ptr hJ ?_
      rw [hesz, h2] at hlen
      have : (j.toNat + 1) * sz ≤ n * sz := Nat.mul_le_mul_right _ (by omega)
      rw [Nat.add_mul] at this
      omega
     ·omega
   ·cases q3
  ·cases q2
 ·cases h
theorem nv_ {E : Env} {w : World} {t ty : TypeId} {x r : T} {v : Value} (hx : V E v x) (h : capA P t x = some r) : eN_ P E w (Builtin.cap_ #[t] ty #[v]) r := by
 unfold capA at h
 split at h
 ·split at h
  ·rename_i hc; injection h with h; subst h
   obtain ⟨e, he⟩ := cg_ hc
   cases hx; exact ⟨_, by simp [Builtin.cap_, run_underlying he, goInt], .int _ _⟩
  ·cases h
 ·split at h
  ·rename_i hc; injection h with h; subst h
   obtain ⟨e, he⟩ := cg_ hc
   cases hx; exact ⟨_, by simp [Builtin.cap_, run_underlying he, goInt], .int _ _⟩
  ·cases h
 ·cases h
theorem nq_ {E : Env} {σ : St} {w : World} {t ty : TypeId} {x r : T} {v : Value} (hx : V E v x) (h : lenA P σ t x = some r) : eN_ P E w (Builtin.len_ #[t] ty #[v]) r := by
 unfold lenA at h
 split at h
 ·split at h
  ·rename_i hc; injection h with h; subst h; cases hx
   exact ⟨_, by simp [Builtin.len_, run_underlying (cf_ hc), goInt], .int _ _⟩
  ·cases h
 ·split at h
  ·rename_i hc; injection h with h; subst h
   obtain ⟨e, he⟩ := cg_ hc
   cases hx <;> exact ⟨_, by simp [Builtin.len_, run_underlying he, goInt], .int _ _⟩
  ·cases h
 ·split at h
  ·rename_i hc; injection h with h; subst h
   obtain ⟨e, he⟩ := cg_ hc
   cases hx; exact ⟨_, by simp [Builtin.len_, run_underlying he, goInt], .int _ _⟩
  ·cases h
 ·split at h
  ·rename_i hc; injection h with h; subst h
   obtain ⟨e, he⟩ := cg_ hc
   cases hx; exact ⟨_, by simp [Builtin.len_, run_underlying he, goInt], .int _ _⟩
  ·cases h
 ·cases h
theorem la_ {E : Env} {w : World} {t : TypeId} {x i r : T} {v u : Value} (hx : V E v x) (hi : V E u i) (h : jj_ P t x i = some r) : eN_ P E w (Instr.index t v u) r := by
 unfold jj_ at h
 split at h
 ·split at h
  ·rename_i hc
   split at h
   ·rename_i hj
    injection h with h; subst h
    cases hx; cases hi
    refine ⟨_, ?_, .int _ _⟩
    simp [Instr.index, asIntOf, run_underlying (cf_ hc), hj.1, hj.2]
   ·cases h
  ·cases h
 ·cases h
def optV : Option T → Option Value → Prop
 | none, none => True
 | some (.int k n), some v => v = .int k n
 | _, _ => False
theorem jC_ {w : World} {x : Option T} {v : Option Value} {d m : Nat} {code : BoundsCode} {y : Nat} (hxv : optV x v) (h : boundA x d = some m) (hm : m ≤ y) :
  (x = none → v = none ∧ m = d) ∧ (∀ z, v = some z → (Instr.sliceBound z y code).run P w = .ok m w) := by
 unfold boundA at h
 split at h
 ·injection h with h; subst h
  refine ⟨fun _ => ⟨by cases v <;> simp_all [optV], rfl⟩, fun z hz => by subst hz; simp [optV] at hxv⟩
 ·rename_i k i
  split at h
  ·rename_i hi
   injection h with h; subst h
   refine ⟨fun hh => (by cases hh), fun z hz => ?_⟩
   subst hz
   simp only [optV] at hxv
   subst hxv
   have hle : i ≤ (y : Int) := by omega
   simp [Instr.sliceBound, asIntOf, hi, hle]
  ·cases h
 ·cases h
theorem dj_ {w : World} {isS : Bool} {len cap l h : Nat} {lo hi : Option T} {vlo vhi : Option Value} (hlo : optV lo vlo) (hhi : optV hi vhi)
  (eh : boundA hi len = some h) (el : boundA lo 0 = some l) (h1 : l ≤ h) (h2 : h ≤ cap) : (Instr.sliceBounds isS len cap vlo vhi none).run P w = .ok (l, h, cap) w := by
 obtain ⟨c1, c2⟩ := jC_ (P := P) (w := w) (code := if isS then .sliceAcap else .sliceAlen) hhi eh h2
 obtain ⟨d1, d2⟩ := jC_ (P := P) (w := w) (code := .sliceB) hlo el h1
 have none_of : ∀ (x : Option T), optV x none → x = none := fun x hx => by
  cases x with
  | none => rfl
  | some x => cases x <;> simp [optV] at hx
 cases vhi with
 | none =>
  obtain ⟨_, rfl⟩ := c1 (none_of _ hhi)
  cases vlo with
  | none =>
   obtain ⟨_, rfl⟩ := d1 (none_of _ hlo)
   simp [Instr.sliceBounds]
  | some z =>
   have := d2 z rfl
   simp [Instr.sliceBounds, this]
 | some y =>
  have hy := c2 y rfl
  cases vlo with
  | none =>
   obtain ⟨_, rfl⟩ := d1 (none_of _ hlo)
   simp [Instr.sliceBounds, hy]
  | some z =>
   have := d2 z rfl
   simp [Instr.sliceBounds, hy, this]
theorem kV_ {B0 w0 E σ w} (hR : Rel B0 w0 E σ w) {t : TypeId} {x r : T} {lo hi : Option T} {v : Value} {vlo vhi : Option Value} (hx : V E v x) (hlo : optV lo vlo) (hhi : optV hi vhi) (h : fV_ P σ t x lo hi none = some r) :
  eN_ P E w (Instr.sliceAt t v vlo vhi none) r := by
 unfold fV_ at h
 split at h
 ·rename_i s
  split at h
  ·rename_i hc
   obtain ⟨hh, eh, q1⟩ := Option.bind_eq_some_iff.1 h
   obtain ⟨l, el, q2⟩ := Option.bind_eq_some_iff.1 q1
   split at q2
   ·rename_i hb
    injection q2 with q2; subst q2
    cases hx
    refine ⟨_, ?_, .str _⟩
    simp [Instr.sliceAt, Instr.slice, run_underlying (cf_ hc), dj_ hlo hhi eh el hb.1 hb.2]
   ·cases q2
  ·cases h
 ·rename_i z n cs
  obtain ⟨e, he, q1⟩ := Option.bind_eq_some_iff.1 h
  obtain ⟨sz, hsz, q2⟩ := Option.bind_eq_some_iff.1 q1
  obtain ⟨hh, eh, q3⟩ := Option.bind_eq_some_iff.1 q2
  obtain ⟨l, el, q4⟩ := Option.bind_eq_some_iff.1 q3
  clear h q1 q2 q3
  have ht := bq_ he
  split at q4
  ·rename_i hb
   injection q4 with q4; subst q4
   obtain ⟨b1, b2, b3⟩ := hb
   rcases V.row_iff.1 hx with ⟨rfl, rfl, rfl, rfl⟩ | ⟨rfl, a, c, us, rfl, h0, h1, h2⟩
   ·have hl0 : l = 0 := by omega
    have hh0 : hh = 0 := by omega
    subst hl0; subst hh0
    refine ⟨.slice none 0 0, ?_, ?_⟩
    ·simp [Instr.sliceAt, Instr.slice, run_underlying ht, dj_ hlo hhi eh el b1 (Nat.le_refl 0), ci_ hsz]
    ·simpa using V.rown
   ·refine ⟨.slice (some (if c = l then a else a.add (l * sz))) (hh - l) (c - l), ?_, ?_⟩
    ·simp only [Instr.sliceAt, Instr.slice, Sem.run_bind, run_underlying ht, Result.andThen_ok, dj_ hlo hhi eh el b1 (show hh ≤ c by omega), ci_ hsz, Sem.run_pure]
     split <;> rfl
    ·refine V.row_iff.2 (.inr ⟨rfl, _, _, (us.drop (l * sz)).take ((hh - l) * sz), rfl, by omega, (h1.drop _).take _, fun j u hu => ?_⟩)
     split
     ·have : hh - l = 0 := by omega
      rw [this] at hu; simp at hu
     ·rw [List.getElem?_take] at hu
      split at hu
      ·rw [List.getElem?_drop] at hu; rw [oU_]; exact h2 _ _ hu
      ·cases hu
  ·cases q4
 ·rename_i b ep off n
  obtain ⟨e, he, q1⟩ := Option.bind_eq_some_iff.1 h
  obtain ⟨sz, hsz, q2⟩ := Option.bind_eq_some_iff.1 q1
  obtain ⟨B, hb, q5⟩ := Option.bind_eq_some_iff.1 q2
  obtain ⟨hh, eh, q3⟩ := Option.bind_eq_some_iff.1 q5
  obtain ⟨l, el, q4⟩ := Option.bind_eq_some_iff.1 q3
  clear h q1 q2 q3 q5
  have ht := bq_ he
  split at q4
  ·rename_i hbb
   injection q4 with q4; subst q4
   obtain ⟨b1, b2, b3, b4, b5⟩ := hbb
   cases hx with
   | ref hJ hlen ha =>
    rename_i c i a
    obtain ⟨_, hesz⟩ := hR.jep _ _ _ _ hb hJ
    have hszi : i.esz = sz := by rw [hesz, b3]
    obtain ⟨arr, aty, fr, f1, f2, f3, f4, f5, f6, f7⟩ := hR.form hb hJ b4
    rw [hszi] at hlen ha
    have hnc : n ≤ c := by
     rcases ha with ⟨_, hcap⟩ | ⟨h0, _⟩
     ·have h3 : n * sz ≤ c * sz := by omega
      exact Nat.le_of_mul_le_mul_right h3 (by omega)
     ·omega
    refine ⟨.slice (some (if c = l then a else a.add (l * sz))) (hh - l) (c - l), ?_, ?_⟩
    ·simp only [Instr.sliceAt, Instr.slice, Sem.run_bind, run_underlying ht, Result.andThen_ok, dj_ hlo hhi eh el b1 (show hh ≤ c by omega), ci_ hsz, Sem.run_pure]
     split <;> rfl
    ·have e1 : l * sz + (hh - l) * sz = hh * sz := by rw [← Nat.add_mul, show l + (hh - l) = hh by omega]
     have e2 : hh * sz ≤ n * sz := Nat.mul_le_mul_right _ b2
     refine V.ref hJ (by rw [hszi]; omega) ?_
     rw [hszi]
     split
     ·exact .inr ⟨by omega, by omega⟩
     ·rcases ha with ⟨rfl, hcap⟩ | ⟨h0, h1⟩
      ·refine .inl ⟨by rw [jt_], ?_⟩
       have : l * sz + (c - l) * sz = c * sz := by rw [← Nat.add_mul, show l + (c - l) = c by omega]
       omega
      ·exact .inr ⟨by omega, by omega⟩
  ·cases q4
 ·cases h
end
end Go.Am
end
section
set_option linter.unusedVariables false
set_option linter.unusedSimpArgs false
namespace Go.Am
open Go.RowKit
section
variable {P : Program}
theorem foldl_set : ∀ (vs : List Value) (k off : Nat) (arr : Array Value), off + k + vs.length ≤ arr.size →
  ((vs.zipIdx k).foldl (fun (cs : Array Value) (x : Value × Nat) => cs.setIfInBounds (off + x.2) x.1) arr).toList = arr.toList.take (off + k) ++ vs ++ arr.toList.drop (off + k + vs.length)
 | [], k, off, arr, _ => by simp
 | v :: r, k, off, arr, h => by
  simp only [List.length_cons] at h
  rw [List.zipIdx_cons, List.foldl_cons]
  have hsz : (arr.setIfInBounds (off + k) v).size = arr.size := by simp
  rw [foldl_set r (k + 1) off _ (by rw [hsz]; omega)]
  rw [Array.toList_setIfInBounds, show off + (k + 1) = off + k + 1 by omega]
  exact iE_ arr.toList (off + k) v r (by simp; omega)
theorem ki_ (vs arr : Array Value) (off : Nat) (h : off + vs.size ≤ arr.size) :
  (vs.zipIdx.foldl (fun (cs : Array Value) (x : Value × Nat) => cs.setIfInBounds (off + x.2) x.1) arr).toList = arr.toList.take off ++ vs.toList ++ arr.toList.drop (off + vs.toList.length) := by
 rw [← Array.foldl_toList, Array.toList_zipIdx]
 have := foldl_set vs.toList 0 off arr (by simpa using h)
 simpa using this
def VPs (E : Env) : List (Nat × Value) → List (Nat × T) → Prop
 | [], [] => True
 | (i, v) :: vs, (j, t) :: ts => i = j ∧ V E v t ∧ VPs E vs ts
 | _, _ => False
theorem hR_ {E : Env} {a : Act} {s : Nat → T} (hS : b6_ E a s) : ∀ {xs : List (Nat × Operand)} {ts : List (Nat × T)}, dr_ s xs = some ts → VPs E (xs.map fun (i, x) => (i, a.eval x)) ts
 | [], ts, h => by injection h with h; subst h; trivial
 | (i, x) :: xs, ts, h => by
  simp only [dr_, Option.bind_eq_some_iff, Option.map_eq_some_iff] at h
  obtain ⟨t, ht, ts', hts, rfl⟩ := h
  exact ⟨rfl, ak_ hS ht, hR_ hS hts⟩
theorem hA_ {E : Env} {place : Nat → Option (Nat × Nat)} {placeV : Nat → Option (Nat × Nat)} (hp : ∀ i o n, place i = some (o, n) → placeV i = some (o, n)) :
  ∀ {ps : List (Nat × T)} {vs : List (Nat × Value)} {cells r : List T} {arr : Array Value}, VPs E vs ps → VL E arr.toList cells → ez_ place cells ps = some r →
   ∃ arr', Instr.fill placeV arr vs = some arr' ∧ VL E arr'.toList r ∧ arr'.size = arr.size
 | [], [], cells, r, arr, hv, hc, h => by
  injection h with h; subst h
  exact ⟨arr, rfl, hc, rfl⟩
 | [], _ :: _, cells, r, arr, hv, hc, h => hv.elim
 | (i, t) :: ps, [], cells, r, arr, hv, hc, h => hv.elim
 | (i, t) :: ps, (i', v) :: vs, cells, r, arr, hv, hc, h => by
  obtain ⟨rfl, hvt, hvs⟩ := hv
  simp only [ez_] at h
  obtain ⟨⟨off, size⟩, hpl, h1⟩ := Option.bind_eq_some_iff.1 h
  simp only at h1
  split at h1
  ·rename_i hcd
   obtain ⟨d1, d2, d3⟩ := hcd
   have hvc := hvt.cells
   have hvl := hvc.1
   have hcl := hc.1
   simp at hvl hcl
   have hz : v.cells.size = size := by omega
   have hfs := ki_ v.cells arr off (by omega)
   obtain ⟨arr', e1, e2, e3⟩ := hA_ (E := E) hp (vs := vs) (ps := ps) (cells := splice cells off t.cells) (r := r) (arr := v.cells.zipIdx.foldl (fun (cs : Array Value) (x : Value × Nat) => cs.setIfInBounds (off + x.2) x.1) arr)
    hvs (by rw [hfs]; exact hc.splice hvc off) h1
   refine ⟨arr', ?_, e2, ?_⟩
   ·simp only [Instr.fill, hp _ _ _ hpl]
    rw [if_neg (by simp [hz]; omega)]
    exact e1
   ·rw [e3, ← Array.length_toList, hfs]; simp; omega
  ·cases h1
theorem mh_ {E : Env} {w : World} {t : TypeId} {z r : List T} {ps : List (Nat × T)} {vs : Array (Nat × Value)} (hz : aT_ P t = some z) (hps : VPs E vs.toList ps) (hk : aD_ P t = 7)
  (h : ez_ (fun i => (bJ_ P t i).map fun (o, _, n) => (o, n)) z ps = some r) (hall : ∀ fs, P.underlying t = some (.struct fs) → ∀ f ∈ fs, ∃ n, szOf P f.type = some n) : eN_ P E w (Instr.build t vs) (.agg r) := by
 obtain ⟨i, v, hi, hv, hvl⟩ := dE_ hz E
 obtain ⟨fs, hfs⟩ := hN_ hk
 have hpl : ∀ (l : List Field), (∀ f ∈ l, ∃ n, szOf P f.type = some n) → (l.mapM fun f => do pure (f.offset, ← sizeOf f.type) : Sem (List (Nat × Nat))).run P w = .ok (l.map fun f => (f.offset, (szOf P f.type).getD 0)) w := fun l => by
  induction l with
  | nil => intro _; simp
  | cons f l ih =>
   intro hl
   obtain ⟨n, hn⟩ := hl f (by simp)
   have := ih (fun f hf => hl f (by simp [hf]))
   simp only [List.mapM_cons, Sem.run_bind, ci_ hn, Result.andThen_ok, Sem.run_pure, this, List.map_cons, hn, Option.getD_some]
 have hpl' : (fs.mapM fun f => (do pure (f.offset, ← sizeOf f.type) : Sem (Nat × Nat))).run P w = .ok (fs.map fun f => (f.offset, (szOf P f.type).getD 0)) w := by
  have h1 := hpl fs.toList (fun f hf => hall fs hfs f (by simpa using hf))
  rw [Array.mapM_eq_mapM_toList]
  simp at h1
  simp [h1]
  apply Array.ext'
  simp
 obtain ⟨arr', e1, e2, e3⟩ := hA_ (E := E) (placeV := fun i => (fs.map fun f => (f.offset, (szOf P f.type).getD 0))[i]?) (place := fun i => (bJ_ P t i).map fun (o, _, n) => (o, n)) (fun i o n hh => by
  obtain ⟨⟨o', ft, n'⟩, hf, he⟩ := Option.map_eq_some_iff.1 hh
  obtain ⟨fs', x, q1, q2, q3, q4, q5⟩ := gc_ hf
  rw [hfs] at q1; injection q1 with q1; injection q1 with q1; subst q1
  simp at he
  obtain ⟨rfl, rfl⟩ := he
  subst q4
  simp [q2, q3, q5]) hps hvl h
 refine ⟨.agg arr', ?_, V.agg_iff.2 ⟨_, rfl, e2⟩⟩
 have hz' : (zeroValue t).run P w = .ok v w := by simp [zeroValue, typeInfo, hi, hv]
 simp only [Instr.build, Sem.run_bind, hz', run_underlying hfs, Result.andThen_ok, hpl', e1, Sem.run_pure]
theorem V.emp_or {E : Env} {a : Addr} {b n c : Nat} (h : V E (.slice (some a) n c) (.ref b 0 0 n)) (p : Prop) [Decidable p] (hp : p → n = 0 ∧ c = 0) : V E (.slice (some a) n c) (if p then .emp else .ref b 0 0 n) := by
 split
 ·rename_i h0
  obtain ⟨rfl, rfl⟩ := hp h0
  exact .emp
 ·exact h
theorem h2_ {B0 w0 E σ w} (hR : Rel B0 w0 E σ w) {k : Option Nat} (hk : σ.okK k = true) {t e : TypeId} {sz len : Nat} {z cs : List T} {ps : List (Nat × T)} {vs : Array (Nat × Value)} (he : ao_ P t = some e) (hsz : szOf P e = some sz) (hz : aT_ P e = some z)
  (hps : VPs E vs.toList ps) (hl : z.length = sz) (hlen : len * sz ≤ 2 ^ 24) (hsz0 : sz ≠ 0) (h : ez_ (fun i => some (i * sz, sz)) ((List.replicate len z).flatten) ps = some cs) :
  dQ_ P B0 w0 E σ w (Instr.buildSlice t len vs) (if len = 0 then .emp else .ref (σ.nid k) 0 0 len) (σ.pushK k (aH_ cs sz)) := by
 obtain ⟨i, v, hi, hv, hvl⟩ := dE_ hz E
 have hvz : v.cells.size = sz := by have := hvl.1; simp at this; omega
 have ht := bq_ he
 have hz' : (zeroValue e).run P w = .ok v w := by simp [zeroValue, typeInfo, hi, hv]
 have fill0 : ∀ (arr0 : Array Value), VL E arr0.toList ((List.replicate len z).flatten) → arr0.size = len * sz → ∃ arr', Instr.fill (fun i => some (i * sz, sz)) arr0 vs.toList = some arr' ∧ dQ_ P B0 w0 E σ w (do pure (.slice (some (← newRow e arr')) len len) : Sem Value) (if len = 0 then .emp else .ref (σ.nid k) 0 0 len) (σ.pushK k (aH_ cs sz)) := fun arr0 h0 hs0 => by
  obtain ⟨arr', e1, e2, e3⟩ := hA_ (E := E) (placeV := fun i => some (i * sz, sz)) (fun _ _ _ h => h) hps h0 h
  have hcl := e2.1
  simp at hcl
  obtain ⟨E', h1, h2, h3, _, h5⟩ := fa_ hR hk (arr := arr') e (cells := cs) sz (by omega) (by rw [← hcl, ← Array.length_toList, List.take_length]; exact e2)
  exact ⟨arr', e1, E', _, _, h1, by simp [newRow], h2, V.emp_or (h5 len len (by omega) (by omega)) (len = 0) (fun h => ⟨h, h⟩), h3⟩
 have hle : ¬ (len * sz > 2 ^ 24) := by omega
 by_cases hn : len * sz = 0
 ·obtain ⟨arr', e1, e2⟩ := fill0 #[] (by
   have : len = 0 := by rcases Nat.mul_eq_zero.1 hn with h | h <;> omega
   subst this; simpa using VL.nil E) (by simp [hn])
  have : (Instr.buildSlice t len vs).run P w = (do pure (.slice (some (← newRow e arr')) len len) : Sem Value).run P w := by
   simp only [Instr.buildSlice, Sem.run_bind, run_underlying ht, ci_ hsz, Result.andThen_ok]
   rw [if_neg hle]
   simp only [hn, if_true, Sem.run_bind, Sem.run_pure, Result.andThen_ok]
   have : ((Array.range 0).map ((#[] : Array Value)[· % (#[] : Array Value).size]!)) = #[] := by simp
   rw [this, e1]
   simp
  unfold dQ_ at e2 ⊢
  rw [this]; exact e2
 ·obtain ⟨arr', e1, e2⟩ := fill0 ((Array.range (len * sz)).map (v.cells[· % v.cells.size]!)) (by
   have := fC_ hvl len
   rw [hvz] at this ⊢
   exact this) (by simp)
  have : (Instr.buildSlice t len vs).run P w = (do pure (.slice (some (← newRow e arr')) len len) : Sem Value).run P w := by
   simp only [Instr.buildSlice, Sem.run_bind, run_underlying ht, ci_ hsz, Result.andThen_ok]
   rw [if_neg hle]
   simp only [hn, if_false, Sem.run_bind, hz', Sem.run_pure, Result.andThen_ok]
   rw [e1]
   simp
  unfold dQ_ at e2 ⊢
  rw [this]; exact e2
theorem ix_ {B0 w0 E σ w} (hR : Rel B0 w0 E σ w) {k : Option Nat} (hk : σ.okK k = true) {t e : TypeId} {sz by_ : Nat} {ka kb : IntKind} {l c : Int} {z : List T} (he : ao_ P t = some e) (hsz : szOf P e = some sz) (hby : cu_ P e = some by_) (hz : aT_ P e = some z)
  (hl : z.length = sz) (hsz0 : sz ≠ 0) (h0 : 0 ≤ l) (h1 : l ≤ c) (h2 : c * by_ ≤ 2 ^ 40) (h3 : c ≤ 2 ^ 40) :
  dQ_ P B0 w0 E σ w (Instr.makeSlice t (.int ka l) (.int kb c)) (if l = 0 ∧ c = 0 then .emp else .ref (σ.nid k) 0 0 l.toNat) (σ.pushK k (aH_ ((List.replicate l.toNat z).flatten) sz)) := by
 obtain ⟨i, v, hi, hv, hvl⟩ := dE_ hz E
 have hvz : v.cells.size = sz := by have := hvl.1; simp at this; omega
 have ht := bq_ he
 have hz' : (zeroValue e).run P w = .ok v w := by simp [zeroValue, typeInfo, hi, hv]
 obtain ⟨i', hi', hbyi⟩ := Option.map_eq_some_iff.1 hby
 rw [hi] at hi'; injection hi' with hi'; subst hi'
 have wr : ∀ x : Int, 0 ≤ x → x ≤ 2 ^ 40 → w4 x = x := fun x a b => by
  simp [w4, IntKind.wrap, IntKind.bits, IntKind.signed]; omega
 have hlen : ((List.replicate l.toNat z).flatten).length = l.toNat * sz := by simp [hl]
 have hszR : ((Array.range (c.toNat * sz)).map (v.cells[· % v.cells.size]!)).size = c.toNat * sz := by simp
 have hlc : l.toNat * sz ≤ c.toNat * sz := Nat.mul_le_mul_right _ (by omega)
 have hpre : VL E (((Array.range (c.toNat * sz)).map (v.cells[· % v.cells.size]!)).toList.take (l.toNat * sz)) ((List.replicate l.toNat z).flatten) := by
  have := fC_ hvl l.toNat
  rw [hvz] at this ⊢
  have e : ((Array.range (c.toNat * sz)).map (v.cells[· % sz]!)).toList.take (l.toNat * sz) = ((Array.range (l.toNat * sz)).map (v.cells[· % sz]!)).toList := by
   simp only [Array.toList_map, Array.toList_range, ← List.map_take, List.take_range, Nat.min_eq_left hlc]
  rw [e]; exact this
 obtain ⟨E', k1, k2, k3, _, k5⟩ := fa_ hR hk (arr := (Array.range (c.toNat * sz)).map (v.cells[· % v.cells.size]!)) e (cells := (List.replicate l.toNat z).flatten) sz (by rw [hlen, hszR]; exact hlc) (by rw [hlen]; exact hpre)
 refine ⟨E', _, _, k1, ?_, k2, V.emp_or (k5 l.toNat c.toNat (by rw [hlen]) (by rw [hszR])) (l = 0 ∧ c = 0) (fun h => ⟨by omega, by omega⟩), k3⟩
 have hask : ∀ n, (askRoom n).run P w = .ok () w := fun n => by unfold askRoom; split <;> simp [mark, Sem.run]
 have hti : (typeInfo e).run P w = .ok i w := by simp [typeInfo, hi]
 have wl := wr l h0 (by omega)
 have wc := wr c (by omega) h3
 have n1 : ¬ c < 0 := by omega
 have n2 : ¬ l < 0 := by omega
 have n3 : ¬ l > c := by omega
 have n4 : ¬ ((i.bytes : Int) * c > 2 ^ 48) := by rw [hbyi, Int.mul_comm]; omega
 have n5 : c.toNat * sz = 0 → False ∨ c = 0 := fun h => by rcases Nat.mul_eq_zero.1 h with h | h <;> omega
 simp only [Instr.makeSlice, Sem.run_bind, run_underlying ht, asInt, asIntOf, Sem.run_pure, Result.andThen_ok, hti, wl, wc]
 rw [if_neg (by simp [n1, n2, n4]; omega)]
 by_cases hc0 : c.toNat * sz = 0
 ·simp [hask, ci_ hsz, hc0, newRow]
  rw [show Array.range 0 = #[] from rfl, Array.map_empty, Array.map_empty]
 ·simp [hask, ci_ hsz, hc0, newRow, hz']
theorem lg_ {E : Env} {w : World} {t e : TypeId} {x r : T} {v : Value} {k k' : IntKind} {sz : Nat} (hx : V E v x) (he : ao_ P t = some e) (hsz : szOf P e = some sz)
  (h : (∃ z n cs, x = .row z n cs ∧ r = if z then .row true 0 [] else .emp) ∨ (∃ b ep off n, x = .ref b ep off n ∧ r = .emp)) :
  eN_ P E w (Instr.sliceAt t v none (some (.int k 0)) (some (.int k' 0))) r := by
 have ht := bq_ he
 have key : ∀ (a : Option Addr) (n c : Nat), (Instr.sliceAt t (.slice a n c) none (some (.int k 0)) (some (.int k' 0))).run P w = .ok (.slice a 0 0) w := fun a n c => by
  have hc : (0 : Int) ≤ (c : Int) := by omega
  simp [Instr.sliceAt, Instr.slice, run_underlying ht, Instr.sliceBounds, Instr.sliceBound, asIntOf, hc, ci_ hsz]
 rcases h with ⟨z, n, cs, rfl, rfl⟩ | ⟨b, ep, off, n, rfl, rfl⟩
 ·rcases V.row_iff.1 hx with ⟨rfl, rfl, rfl, rfl⟩ | ⟨rfl, a, c, us, rfl, _⟩
  ·exact ⟨_, key none 0 0, .rown⟩
  ·exact ⟨_, key (some a) n c, .emp⟩
 ·cases hx
  exact ⟨_, key _ _ _, .emp⟩
theorem gX_ {E : Env} : ∀ {cs : List T} {l : List UInt8} {us : List Value}, ofBytes cs = some l → VL E us cs → us = (l.map fun b => Value.int .u8 (b.toNat : Int))
 | [], l, us, h, hv => by
  injection h with h; subst h
  have := hv.1; simpa using this
 | c :: cs, l, [], h, hv => by have := hv.1; simp at this
 | c :: cs, l, u :: us, h, hv => by
  unfold ofBytes at h
  split at h
  ·rename_i heq; cases heq
  ·rename_i n cs' heq
   injection heq with h1 h2; subst h1; subst h2
   split at h
   ·rename_i hn
    obtain ⟨l', hl', rfl⟩ := Option.map_eq_some_iff.1 h
    have h1 := hv.head
    obtain rfl := h1.int_inv
    rw [gX_ hl' hv.tail]
    simp
    omega
   ·cases h
  ·cases h
theorem mc_ {B0 w0 E σ w} (hR : Rel B0 w0 E σ w) {k : Option Nat} {src dst : TypeId} {x r : T} {v : Value} {σ' : St} (hx : V E v x) (h : je_ P k σ src dst x = some (r, σ')) : dQ_ P B0 w0 E σ w (convert src dst v) r σ' := by
 unfold je_ at h
 split at h
 ·split at h
  ·rename_i hs
   split at h
   ·rename_i kd hd
    injection h with h; injection h with h1 h2; subst h1; subst h2
    obtain ⟨k', hk'⟩ := hG_ hs
    obtain rfl := hx.int_inv
    exact dQ_.pure hR (by simp [convert, run_underlying hk', run_underlying hd, Conv.intToInt]) (.int _ _)
   ·cases h
  ·cases h
 ·split at h
  ·rename_i hs
   have hs := cf_ hs
   split at h
   ·rename_i hd
    have hd := cf_ hd
    injection h with h; injection h with h1 h2; subst h1; subst h2
    obtain rfl := hx.str_inv
    exact dQ_.pure hR (by simp [convert, run_underlying hs, run_underlying hd]) (.str _)
   ·obtain ⟨e, he, h⟩ := Option.bind_eq_some_iff.1 h
    split at h
    ·rename_i hc
     injection h with h; injection h with h1 h2; subst h1; subst h2
     obtain rfl := hx.str_inv
     rename_i s _ _ 
     have hrun := Lib.run_convert_string_bytes (P := P) w src dst e s hs (bq_ he) (j1_ hc.1)
     have hsz : (Lib.bytesCells w e s).size = grownCap w s.size 0 e := by
      have := ek_ w s.size 0 e
      simp [Lib.bytesCells]; omega
     obtain ⟨r1, r2, r3⟩ := hR.drew.push hc.2.2 (arr := Lib.bytesCells w e s) (ty := e) (cells := dN_ s) (esz := 1) ((Lib.bytesCells w e s).size, (Lib.bytesCells w e s).size + 1)
      (by rw [hsz]; simpa [dN_] using ek_ w s.size 0 e) (by
       have : (Lib.bytesCells w e s).toList.take (dN_ s).length = byteCells s := by
        simp [Lib.bytesCells, dN_, byteCells]
       rw [this]
       refine ⟨by simp [byteCells, dN_], fun j h1 h2 => ?_⟩
       simp only [byteCells, dN_, List.getElem_map]
       constructor) (fun o ho => by omega)
     have hw : Lib.bytesWorld w e s = { w.drew with heap := w.drew.heap.push (.cells (Lib.bytesCells w e s) e ((Lib.bytesCells w e s).size, (Lib.bytesCells w e s).size + 1)) } := by
      have e1 := Lib.bytesWorld_at_new w e s
      have e2 := Lib.bytesWorld_size w e s
      have e3 := fun j hj => Lib.bytesWorld_at_old w e s j hj
      have eh : (Lib.bytesWorld w e s).heap = w.drew.heap.push (.cells (Lib.bytesCells w e s) e ((Lib.bytesCells w e s).size, (Lib.bytesCells w e s).size + 1)) := by
       apply Array.ext_getElem?
       intro j
       rcases Nat.lt_trichotomy j w.heap.size with hj | hj | hj
       ·rw [e3 j hj]
        show _ = (w.heap.push _)[j]?
        rw [Array.getElem?_push, if_neg (by omega)]
       ·subst hj
        rw [e1]
        show _ = (w.heap.push _)[w.heap.size]?
        simp
       ·rw [Array.getElem?_eq_none (by omega)]
        show _ = (w.heap.push _)[j]?
        rw [Array.getElem?_eq_none (by simp; omega)]
      have : ∀ (a b : World), a.heap = b.heap → a.tape = b.tape → a.drawn = b.drawn → a.os = b.os → a.output = b.output → a = b := fun a b h1 h2 h3 h4 h5 => by
       cases a; cases b; simp_all
      exact this _ _ eh rfl rfl rfl rfl
     rw [hw] at hrun
     refine ⟨_, _, _, r1, hrun, r2, ?_, r3.drew'⟩
     exact V.ref (i := ⟨w.heap.size, (dN_ s).length, (Lib.bytesCells w e s).size, 1⟩) (by simp [Env.bind]) (by simp [dN_]) (.inl ⟨rfl, by simp [hsz]⟩)
    ·cases h
  ·cases h
 ·rename_i hni hns
  split at h
  ·rename_i hd
   have hd := cf_ hd
   obtain ⟨e, he, h1⟩ := Option.bind_eq_some_iff.1 h
   split at h1
   ·rename_i hu
    obtain ⟨⟨n, cs⟩, hc, h2⟩ := Option.bind_eq_some_iff.1 h1
    simp only at h2
    split at h2
    case isFalse => cases h2
    rename_i hcn
    obtain ⟨l, hl, h3⟩ := Option.map_eq_some_iff.1 h2
    injection h3 with h3 h4; subst h3; subst h4
    obtain ⟨a, c, us, rfl, k1, k2, k3⟩ := ha_ hR hx hc
    have hus := gX_ hl k1
    have hss := bq_ he
    cases a with
    | none =>
     obtain ⟨rfl, rfl, rfl⟩ := k3 rfl
     have : l = [] := by simpa using hus
     subst this
     exact dQ_.pure hR (by simp [convert, run_underlying hss, run_underlying hd, run_underlying (j1_ hu), Conv.bytesToString]; rfl) (.str _)
    | some a =>
     have hn : us.length = n := by rw [k1.1, hcn]
     have hlc := run_loadCells_list (P := P) w a us (k2 a rfl)
     rw [hn] at hlc
     have hus' : us = (l.map fun b => (b.toNat : Int)).map (Value.int .u8) := by rw [hus, List.map_map]; rfl
     rw [hus'] at hlc
     have := run_bytesToString (P := P) w a n c (l.map fun b => (b.toNat : Int)) hlc
     have ef : ∀ (l : List UInt8) (acc : ByteArray), (l.map fun b => (b.toNat : Int)).foldl (fun r n => r.push (UInt8.ofNat n.toNat)) acc = ⟨acc.data ++ l.toArray⟩ := fun l => by
      induction l with
      | nil => intro acc; simp
      | cons b l ih =>
       intro acc
       simp only [List.map_cons, List.foldl_cons]
       rw [ih]
       simp [ByteArray.push]
     rw [ef] at this
     refine dQ_.pure hR (u := .string ⟨l.toArray⟩) ?_ (.str _)
     simp only [convert, Sem.run_bind, run_underlying hss, run_underlying hd, Result.andThen_ok, run_underlying (j1_ hu), this]
     rw [show ByteArray.empty.data = #[] from rfl, Array.empty_append]
   ·cases h1
  ·cases h
end
end Go.Am
end
section
set_option linter.unusedVariables false
set_option linter.unusedSimpArgs false
namespace Go.Am
open Go.RowKit
inductive Drws (w : World) : World → Prop
 | refl : Drws w w
 | step {w'} : Drws w w' → Drws w w'.drew
theorem Drws.heap {w w' : World} (h : Drws w w') : w'.heap = w.heap := by
 induction h with
 | refl => rfl
 | step _ ih => exact ih
theorem Drws.rel {B0 w0 E σ w w'} (h : Drws w w') (hR : Rel B0 w0 E σ w) : Rel B0 w0 E σ w' ∧ Keep E σ w σ w' := by
 induction h with
 | refl => exact ⟨hR, .refl _ _ _⟩
 | step _ ih => exact ⟨ih.1.drew, ih.2.trans (.refl E) .drew⟩
section
variable {P : Program}
def GdOk (E : Env) (w : World) : Prop := ∀ k fr, E.G k = some fr → ∃ c t, w.heap[k]? = some (.cells c t fr)
theorem q2_ {E : Env} {w : World} (hg : GdOk E w) {a : Addr} (h : e6_ E (.pointer (some a))) : w.frozen? a = false ∧ ∃ c t fr, w.heap[a.block]? = some (.cells c t fr) := by
 obtain ⟨fr, h1, h2⟩ := h
 obtain ⟨c, t, h3⟩ := hg _ _ h1
 refine ⟨?_, c, t, fr, h3⟩
 unfold World.frozen?
 rw [h3]
 obtain ⟨lo, hi⟩ := fr
 simp at h2 ⊢
 omega
theorem kL_ (q : Question) (w : World) : ∃ m w', (choose q).run P w = .ok m w' ∧ Drws w w' := by
 by_cases h : q.forced = true
 ·exact ⟨0, w, by simp [h], .refl⟩
 ·exact ⟨_, w.drew, by simp only [run_choose_drew, h]; rfl, .step .refl⟩
theorem pc_ (w : World) (r : Nat) : (shape r).run P w = .ok (w.shape? r) w := rfl
theorem o6_ {E : Env} {w : World} (hg : GdOk E w) {a b : Addr} (ha : e6_ E (.pointer (some a))) (hb : e6_ E (.pointer (some b))) : ∃ r w', (sameAddr a b).run P w = .ok r w' ∧ Drws w w' := by
 obtain ⟨fa, ca, ta, ra, h1⟩ := q2_ hg ha
 obtain ⟨fb, cb, tb, rb, h2⟩ := q2_ hg hb
 by_cases hbl : a.block = b.block
 ·exact ⟨a == b, w, by simp [sameAddr, hbl], .refl⟩
 ·have sa : w.shape? a.block = some (ta, ca.size) := by simp [World.shape?, h1]
  have sb : w.shape? b.block = some (tb, cb.size) := by simp [World.shape?, h2]
  by_cases hm : ∃ m : Bool, (mayBeOne a b).run P w = .ok m w
  ·obtain ⟨m, hm⟩ := hm
   have hm' := hm
   cases m with
   | false => exact ⟨false, w, by simp [sameAddr, hbl, fa, noView, viewAt, sa, sb, hm], .refl⟩
   | true =>
    obtain ⟨m, w', c1, c2⟩ := kL_ (P := P) (.extern "sameAddr.stringBytes" 2) w
    refine ⟨m == 1, w', ?_, c2⟩
    have e : (sameAddr a b).run P w = (do pure ((← choose (.extern "sameAddr.stringBytes" 2)) == 1) : Sem Bool).run P w := by
     unfold sameAddr
     rw [if_neg (by simp [hbl])]
     simp only [Sem.run_bind, run_frozen, fa, Result.andThen_ok, Bool.false_and, Bool.false_eq_true, if_false, noView, viewAt, pc_, sa, sb, Option.isSome_some, if_true, Sem.run_pure, Option.isSome_none, hm]
    rw [e, Sem.run_bind, c1]
    simp
  ·exfalso
   apply hm
   simp [mayBeOne, stringish, fa, fb, sa, sb]
theorem q8_ {E : Env} {w : World} (hg : GdOk E w) {kt pe : TypeId} {n : Nat} (hk : P.underlying kt = some (.pointer pe)) (hs : szOf P pe = some n) (hz : n ≠ 0) {x y : Value} (hx : e6_ E x) (hy : e6_ E y) : ∃ r w', (Op.equal kt x y).run P w = .ok r w' ∧ Drws w w' := by
 suffices hd : ∀ d, ∃ r w', (Op.equalIn (d + 1) kt x y).run P w = .ok r w' ∧ Drws w w' from hd 9999
 intro d
 obtain ⟨i, hi, rfl⟩ := Option.map_eq_some_iff.1 hs
 match x, y, hx, hy with
 | .pointer none, .pointer b, _, _ => exact ⟨b.isNone, w, by simp [Op.equalIn, run_underlying hk], .refl⟩
 | .pointer (some a), .pointer none, _, _ => exact ⟨false, w, by simp [Op.equalIn, run_underlying hk], .refl⟩
 | .pointer (some a), .pointer (some b), ha, hb =>
  obtain ⟨r, w', h1, h2⟩ := o6_ (P := P) hg ha hb
  exact ⟨r, w', by simp [Op.equalIn, run_underlying hk, sizeOf, typeInfo, hi, hz, h1], h2⟩
def t5_ (E : Env) (es : List MapEntry) : Prop := ∀ e ∈ es, e6_ E e.key ∧ ∃ n, e.val = .int .i64 n
theorem lT_ {E : Env} {kt pe : TypeId} {n : Nat} (hk : P.underlying kt = some (.pointer pe)) (hs : szOf P pe = some n) (hz : n ≠ 0) {x : Value} (hx : e6_ E x) : ∀ (es : List MapEntry) (i : Nat) (w : World), GdOk E w → t5_ E es →
  ∃ r w', (Instr.findAsking kt x es i).run P w = .ok r w' ∧ Drws w w' ∧ ∀ j v, r = some (j, v) → ∃ e ∈ es, v = e.val
 | [], i, w, _, _ => ⟨none, w, by simp [Instr.findAsking], .refl, fun j v h => by cases h⟩
 | e :: es, i, w, hg, he => by
  obtain ⟨r, w1, h1, h2⟩ := q8_ (P := P) hg hk hs hz hx (he e (by simp)).1
  cases r with
  | true => exact ⟨some (i, e.val), w1, by simp [Instr.findAsking, Sem.run_bind, h1], h2, fun j v h => by injection h with h; injection h with _ h; exact ⟨e, by simp, h.symm⟩⟩
  | false =>
   obtain ⟨r, w2, k1, k2, k3⟩ := lT_ hk hs hz hx es (i + 1) w1 (fun k fr hf => by rw [h2.heap]; exact hg k fr hf) (fun e' h' => he e' (by simp [h']))
   refine ⟨r, w2, by simp [Instr.findAsking, Sem.run_bind, h1, k1], ?_, fun j v h => by obtain ⟨e', a, b⟩ := k3 j v h; exact ⟨e', by simp [a], b⟩⟩
   clear k1 k3
   induction k2 with
   | refl => exact h2
   | step _ ih => exact .step ih
theorem qY_ {B0 w0 E σ w} (hR : Rel B0 w0 E σ w) {x : T} {v : Value} (hv : V E v x) (hk : keyA σ x = true) : ∃ E', Env.Le E E' ∧ Rel B0 w0 E' σ w ∧ e6_ E' v := by
 have more : ∀ (a : Addr) (c : Array Value) (t : TypeId) (fr : Nat × Nat), w.heap[a.block]? = some (.cells c t fr) → ¬(fr.1 ≤ a.off ∧ a.off < fr.2) → ∃ E', Env.Le E E' ∧ Rel B0 w0 E' σ w ∧ e6_ E' (.pointer (some a)) := fun a c t fr h1 h2 => by
  have hG : ∀ k p, E.G k = some p → (if k = a.block then some fr else E.G k) = some p := fun k p hp => by
   split
   ·rename_i hk; subst hk
    obtain ⟨c', t', h3⟩ := hR.gd _ _ hp
    rw [h1] at h3; injection h3 with h3; injection h3 with _ _ h3; rw [h3]
   ·exact hp
  obtain ⟨k1, k2⟩ := hR.more (O := E.O) (G := fun k => if k = a.block then some fr else E.G k) (fun _ _ h => h) hG (fun _ _ h => .inl h) (fun k f hf => by
   split at hf
   ·rename_i hk; subst hk; injection hf with hf; subst hf; exact ⟨c, t, h1⟩
   ·exact hR.gd k f hf)
  exact ⟨_, k1, k2, fr, by simp, h2⟩
 unfold keyA at hk
 split at hk
 ·cases hv; exact ⟨E, .refl E, hR, trivial⟩
 ·cases hv with
  | @vw a _ us h1 _ =>
   have h2 := h1 0 (by simp)
   have ha : a.add 0 = a := by simp [Addr.add]
   rw [ha] at h2
   have h3 := hR.frz _ _ h2
   have h4 := hR.unf _ _ h2
   unfold World.cell? at h3
   unfold World.frozen? at h4
   cases hb : w.heap[a.block]? with
   | none => rw [hb] at h3; cases h3
   | some o =>
    rw [hb] at h3 h4
    cases o with
    | cells c t fr => exact more a c t fr hb (by obtain ⟨lo, hi⟩ := fr; simp at h4 ⊢; exact h4)
    | _ => cases h3
 ·rename_i b e off m
  split at hk
  ·rename_i B hB
   simp only [Bool.and_eq_true, decide_eq_true_eq] at hk
   cases hv with
   | ptr h1 h2 =>
    rename_i i
    obtain ⟨arr, ty, fr, f1, f2, f3, f4, f5⟩ := hR.form hB h1 hk.1
    exact more ⟨i.g, off, none⟩ arr ty fr f1 (f4 off (by omega))
  ·cases hk
 ·cases hk
theorem gf_ {w : World} {r : Nat} {es : Array MapEntry} {c : Nat} (h : w.heap[r]? = some (.map es c)) : (getObj r).run P w = .ok (.map es c) w := by simp [getObj, Sem.run, h]
theorem mO_ {w : World} {r : Nat} {es : Array MapEntry} {c : Nat} {o' : Obj} (h : w.heap[r]? = some (.map es c)) : (setObj r o').run P w = .ok () (setO w r o') := by
 simp only [setObj, Sem.run, h, setO]
theorem ln_ {t : TypeId} (h : iH_ P t = true) : ∃ k e pe n, P.underlying t = some (.map k e) ∧ P.underlying k = some (.pointer pe) ∧ szOf P pe = some n ∧ n ≠ 0 ∧ (P.info? e).bind (·.zero) = some (.int .i64 0) := by
 unfold iH_ at h
 split at h
 ·rename_i k e hu
  simp only [Bool.and_eq_true] at h
  obtain ⟨⟨h1, h2⟩, h3⟩ := h
  split at h1
  ·rename_i pe hp
   split at h1
   ·rename_i n hn
    split at h3
    ·rename_i hz; exact ⟨k, e, pe, n, hu, hp, hn, by simpa using h1, hz⟩
    ·cases h3
   ·cases h1
  ·cases h1
 ·cases h
theorem iT_ {kt pe : TypeId} (hk : P.underlying kt = some (.pointer pe)) (x : Value) (es : List MapEntry) (w : World) : (Instr.findKey kt x es).run P w = .ok none w ∧ es = [] ∨ (Instr.findKey kt x es).run P w = (Instr.findAsking kt x es).run P w := by
 cases es with
 | nil => left; simp [Instr.findKey, Sem.run_bind, run_underlying hk, Instr.findNow]
 | cons e es =>
  right
  have : Instr.findNow (.pointer pe) x (e :: es) 0 = none := by simp [Instr.findNow, Instr.sameNow]
  simp [Instr.findKey, Sem.run_bind, run_underlying hk, this]
theorem hS_ {kt pe : TypeId} (hk : P.underlying kt = some (.pointer pe)) (b : Bool) (x : Value) (w : World) : (Instr.checkKey b 10000 kt x).run P w = .ok () w := by
 suffices hd : ∀ d, (Instr.checkKey b (d + 1) kt x).run P w = .ok () w from hd 9999
 intro d
 simp [Instr.checkKey, Sem.run_bind, run_underlying hk]
theorem kY_ {B0 w0 E σ w} (hR : Rel B0 w0 E σ w) {t : TypeId} {m x : T} {vm vx : Value} (hm : V E vm m) (hx : V E vx x) (h1 : isMpx m = true) (h2 : iH_ P t = true) (h3 : keyA σ x = true) :
  ∃ E' n w', Env.Le E E' ∧ (Instr.lookup t vm vx false).run P w = .ok (.int .i64 n) w' ∧ Rel B0 w0 E' σ w' ∧ Keep E σ w σ w' := by
 obtain ⟨E', e1, e2, e3⟩ := qY_ hR hx h3
 obtain ⟨kt, et, pe, n, u1, u2, u3, u4, u5⟩ := ln_ h2
 obtain rfl : m = .mp true := by cases m <;> simp [isMpx] at h1; rw [h1]
 cases hm with
 | mpx hO =>
  rename_i r
  obtain ⟨_, ⟨o, ho, es, c, rfl, hes⟩, _⟩ := e2.oth r none (e1.o _ _ hO)
  obtain ⟨q, w', q1, q2, q3⟩ := lT_ (P := P) u2 u3 u4 e3 es.toList 0 w e2.gd hes
  have hz : (zeroValue et).run P w' = .ok (.int .i64 0) w' := by
   obtain ⟨i, hi, h6⟩ := Option.bind_eq_some_iff.1 u5
   simp [zeroValue, typeInfo, Sem.run_bind, hi, h6]
  have hz0 : (zeroValue et).run P w = .ok (.int .i64 0) w := by
   obtain ⟨i, hi, h6⟩ := Option.bind_eq_some_iff.1 u5
   simp [zeroValue, typeInfo, Sem.run_bind, hi, h6]
  obtain ⟨k1, k2⟩ := q2.rel e2
  have k3 : Keep E σ w σ w' := (Keep.refl E σ w).trans e1 k2
  have ck := hS_ (P := P) u2 es.isEmpty vx w
  rcases iT_ (P := P) u2 vx es.toList w with ⟨f1, f2⟩ | f1
  ·refine ⟨E', 0, w, e1, ?_, e2, .refl _ _ _⟩
   simp [Instr.lookup, Sem.run_bind, run_underlying u1, gf_ ho, ck, f1, hz0]
  ·rw [q1] at f1
   cases q with
   | none =>
    refine ⟨E', 0, w', e1, ?_, k1, k3⟩
    simp [Instr.lookup, Sem.run_bind, run_underlying u1, gf_ ho, ck, f1, hz]
   | some p =>
    obtain ⟨j, v⟩ := p
    obtain ⟨e, he, rfl⟩ := q3 j v rfl
    obtain ⟨n, hn⟩ := (hes e he).2
    refine ⟨E', n, w', e1, ?_, k1, k3⟩
    simp [Instr.lookup, Sem.run_bind, run_underlying u1, gf_ ho, ck, f1, hn]
theorem ne_ {B0 w0 E σ w} (hR : Rel B0 w0 E σ w) {x y : Value} (hx : e6_ E x) (hy : e6_ E y) : ∃ z w', (Instr.keyThatStays x y).run P w = .ok z w' ∧ Drws w w' ∧ e6_ E z := by
 unfold Instr.keyThatStays
 split
 ·exact ⟨y, w, by simp, .refl, hy⟩
 ·obtain ⟨m, w', h1, h2⟩ := kL_ (P := P) (.extern "map.whichKeyStays" 2) w
  refine ⟨if m = 0 then y else x, w', by rw [Sem.run_bind, h1]; simp, h2, by split <;> assumption⟩
theorem i6_ {B0 w0 E σ w} (hR : Rel B0 w0 E σ w) {t : TypeId} {m x y : T} {vm vx vy : Value} (hm : V E vm m) (hx : V E vx x) (hy : V E vy y) (h1 : isMpx m = true) (h2 : iH_ P t = true) (h3 : keyA σ x = true) (h4 : isAnyi y = true) :
  ∃ E' w', Env.Le E E' ∧ (Instr.mapUpdate t vm vx vy).run P w = .ok () w' ∧ Rel B0 w0 E' σ w' ∧ Keep E σ w σ w' := by
 obtain ⟨E', e1, e2, e3⟩ := qY_ hR hx h3
 obtain ⟨kt, et, pe, n, u1, u2, u3, u4, u5⟩ := ln_ h2
 obtain ⟨vn, rfl⟩ : ∃ n, vy = .int .i64 n := by
  cases y <;> simp [isAnyi] at h4
  cases hy; exact ⟨_, rfl⟩
 obtain rfl : m = .mp true := by cases m <;> simp [isMpx] at h1; rw [h1]
 cases hm with
 | mpx hO =>
  rename_i r
  obtain ⟨_, ⟨o, ho, es, c, rfl, hes⟩, _⟩ := e2.oth r none (e1.o _ _ hO)
  have hOr := e1.o _ _ hO
  obtain ⟨q, w1, q1, q2, q3⟩ := lT_ (P := P) u2 u3 u4 e3 es.toList 0 w e2.gd hes
  have ck := hS_ (P := P) u2 false vx w
  have push : ∀ w1, Drws w w1 → ∃ w', (setObj r (.map (es.push { key := vx, val := .int .i64 vn, born := c }) (c + 1))).run P w1 = .ok () w' ∧ Rel B0 w0 E' σ w' ∧ Keep E σ w σ w' := fun w1 hd => by
   obtain ⟨k1, k2⟩ := hd.rel e2
   obtain ⟨p1, p2⟩ := k1.putO (o := .map (es.push { key := vx, val := .int .i64 vn, born := c }) (c + 1)) hOr ⟨_, _, rfl, fun e he => by
    rcases List.mem_append.1 (by simpa using he : e ∈ es.toList ++ [_]) with he | he
    ·exact hes e he
    ·obtain rfl := List.mem_singleton.1 he; exact ⟨e3, vn, rfl⟩⟩
   exact ⟨_, mO_ (es := es) (c := c) (by rw [hd.heap]; exact ho), p1, (Keep.refl E σ w).trans e1 (k2.trans (.refl E') p2)⟩
  rcases iT_ (P := P) u2 vx es.toList w with ⟨f1, f2⟩ | f1
  ·obtain ⟨w', s1, s2, s3⟩ := push w .refl
   exact ⟨E', w', e1, by simp [Instr.mapUpdate, Sem.run_bind, run_underlying u1, gf_ ho, ck, f1, s1], s2, s3⟩
  ·rw [q1] at f1
   cases q with
   | none =>
    obtain ⟨w', s1, s2, s3⟩ := push w1 q2
    exact ⟨E', w', e1, by simp [Instr.mapUpdate, Sem.run_bind, run_underlying u1, gf_ ho, ck, f1, s1], s2, s3⟩
   | some p =>
    obtain ⟨j, v⟩ := p
    have hko : e6_ E' (((es[j]?).map (·.key)).getD vx) := by
     cases hj : es[j]? with
     | none => exact e3
     | some e => exact (hes e (by have := Array.mem_of_getElem? hj; simpa using this)).1
    obtain ⟨k1, k2⟩ := q2.rel e2
    obtain ⟨z, w2, z1, z2, z3⟩ := ne_ (P := P) k1 hko e3
    obtain ⟨k3, k4⟩ := z2.rel k1
    obtain ⟨p1, p2⟩ := k3.putO (o := .map (es.modify j fun e => { e with key := z, val := .int .i64 vn }) c) hOr ⟨_, _, rfl, fun e he => by
     have he := List.mem_iff_getElem.1 he
     obtain ⟨i, hi, rfl⟩ := he
     simp only [Array.getElem_toList, Array.getElem_modify]
     split
     ·exact ⟨z3, vn, rfl⟩
     ·exact hes _ (by simp)⟩
    refine ⟨E', _, e1, ?_, p1, (Keep.refl E σ w).trans e1 (k2.trans (.refl E') (k4.trans (.refl E') p2))⟩
    simp only [Instr.mapUpdate, Sem.run_bind, run_underlying u1, Result.andThen_ok, gf_ ho, ck, f1, z1]
    exact mO_ (es := es) (c := c) (by rw [z2.heap, q2.heap]; exact ho)
end
end Go.Am
end
section
set_option linter.unusedVariables false
set_option linter.unusedSimpArgs false
namespace Go.Am
open Go.RowKit
section
variable {P : Program}
def OpOk (P : Program) (B0 : Nat) (w0 : World) (E : Env) (σ : St) (w : World) (s : Sem Next) : ARes → Prop
 | .val v σ' => ∃ E' u w', Env.Le E E' ∧ s.run P w = .ok (.value u) w' ∧ Rel B0 w0 E' σ' w' ∧ V E' u v ∧ Keep E σ w σ' w'
 | .skip σ' => ∃ E' w', Env.Le E E' ∧ s.run P w = .ok .skip w' ∧ Rel B0 w0 E' σ' w' ∧ Keep E σ w σ' w'
 | .call f args => ∃ vs : List Value, s.run P w = (callFunc f vs.toArray).run P w ∧ VL E vs args
theorem l0_ {α : Type} {l : List α} (h : l.length = 2) : ∃ a b, l = [a, b] := by
 match l, h with
 | [a, b], _ => exact ⟨a, b, rfl⟩
theorem OpOk.of_val {B0 w0 E σ w} {s : Sem Value} {v : T} {σ' : St} (h : dQ_ P B0 w0 E σ w s v σ') : OpOk P B0 w0 E σ w (do pure (.value (← s))) (.val v σ') := by
 obtain ⟨E', u, w', h1, h2, h3⟩ := h
 exact ⟨E', u, w', h1, by simp [Sem.run_bind, h2], h3⟩
theorem OpOk.of_pure {B0 w0 E σ w} (hR : Rel B0 w0 E σ w) {s : Sem Value} {v : T} (h : eN_ P E w s v) : OpOk P B0 w0 E σ w (do pure (.value (← s))) (.val v σ) := by
 obtain ⟨u, h1, h2⟩ := h
 exact OpOk.of_val (dQ_.pure hR h1 h2)
theorem OpOk.of_value {B0 w0 E σ w} (hR : Rel B0 w0 E σ w) {u : Value} {v : T} (h : V E u v) : OpOk P B0 w0 E σ w (pure (.value u)) (.val v σ) :=
 ⟨E, u, w, .refl E, by simp, hR, h, .refl _ _ _⟩
theorem fq_ {E : Env} {a : Act} {s : Nat → T} (hS : b6_ E a s) {x : Option Operand} {t : Option T} (h : d1_ s x = some t) (hok : okO t = true) : optV t (x.map a.eval) := by
 cases x with
 | none => injection h with h; subst h; trivial
 | some x =>
  obtain ⟨t', ht, rfl⟩ := Option.map_eq_some_iff.1 h
  have := ak_ hS ht
  cases t' <;> simp [okO] at hok
  exact this.int_inv
theorem jp_ {E : Env} {a : Act} {s : Nat → T} (hS : b6_ E a s) {xs : Array (Nat × Operand)} {ts : List (Nat × T)} (h : dr_ s xs.toList = some ts) : VPs E (xs.map fun (i, x) => (i, a.eval x)).toList ts := by
 have := hR_ hS h
 simpa using this
theorem iS_ {B0 w0 E w} {fr : Fr} {a : Act} (hR : Rel B0 w0 E fr.σ w) (hS : b6_ E a fr.s) {kk : Option Nat} {o : Oper} {r : ARes} (h : aOp P kk fr o = some r) : OpOk P B0 w0 E fr.σ w (execOp a.eval o) r := by
 unfold aOp at h
 unfold execOp
 dsimp only at h
 split at h
 case h_1 x ho =>
  obtain ⟨t, ht, rfl⟩ := Option.map_eq_some_iff.1 h
  rw [ho]; exact OpOk.of_value hR (ak_ hS ht)
 case h_2 x ho =>
  obtain ⟨t, ht, rfl⟩ := Option.map_eq_some_iff.1 h
  rw [ho]; exact OpOk.of_value hR (ak_ hS ht)
 case h_3 c x y ho =>
  obtain ⟨tc, htc, h1⟩ := Option.bind_eq_some_iff.1 h
  rw [ho]
  split at h1
  ·obtain ⟨t, ht, rfl⟩ := Option.map_eq_some_iff.1 h1
   have := (ak_ hS htc).bool_inv
   simp only [this, asBool]
   exact OpOk.of_value hR (ak_ hS ht)
  ·obtain ⟨t, ht, rfl⟩ := Option.map_eq_some_iff.1 h1
   have := (ak_ hS htc).bool_inv
   simp only [this, asBool]
   exact OpOk.of_value hR (ak_ hS ht)
  ·cases h1
 case h_4 t ho =>
  obtain ⟨z, hz, h1⟩ := Option.bind_eq_some_iff.1 h
  split at h1
  ·rename_i hkk
   injection h1 with h1; subst h1
   rw [ho]; exact OpOk.of_val (lO_ hR hkk hz)
  ·cases h1
 case h_5 t x ho =>
  obtain ⟨v, hv, h1⟩ := Option.bind_eq_some_iff.1 h
  split at h1
  ·rename_i hkk
   injection h1 with h1; subst h1
   rw [ho]; exact OpOk.of_val (pt_ hR hkk.2 (ak_ hS hv))
  ·cases h1
 case h_6 t parts ho =>
  obtain ⟨z, hz, h1⟩ := Option.bind_eq_some_iff.1 h
  obtain ⟨ps, hps, h2⟩ := Option.bind_eq_some_iff.1 h1
  split at h2
  ·rename_i hc
   obtain ⟨r', hr', rfl⟩ := Option.map_eq_some_iff.1 h2
   obtain ⟨cs, hcs, rfl⟩ := Option.map_eq_some_iff.1 hr'
   rw [ho]
   refine OpOk.of_pure hR (mh_ hz (jp_ hS hps) hc.1 hcs (fun fs hfs f hf => ?_))
   have h3 := hc.2
   unfold ck_ at h3
   rw [hfs] at h3
   have := List.all_eq_true.1 h3 f (by simpa using hf)
   exact Option.isSome_iff_exists.1 this
  ·cases h2
 case h_7 t len parts ho =>
  obtain ⟨e, he, h1⟩ := Option.bind_eq_some_iff.1 h
  obtain ⟨sz, hsz, h2⟩ := Option.bind_eq_some_iff.1 h1
  obtain ⟨z, hz, h3⟩ := Option.bind_eq_some_iff.1 h2
  obtain ⟨ps, hps, h4⟩ := Option.bind_eq_some_iff.1 h3
  split at h4
  ·rename_i hc
   obtain ⟨cs, hcs, rfl⟩ := Option.map_eq_some_iff.1 h4
   rw [ho]
   exact OpOk.of_val (h2_ hR hc.2.2.2 he hsz hz (jp_ hS hps) hc.1 hc.2.1 hc.2.2.1 hcs)
  ·cases h4
 case h_8 t x ho =>
  obtain ⟨p, hp, h1⟩ := Option.bind_eq_some_iff.1 h
  obtain ⟨r', hr', rfl⟩ := Option.map_eq_some_iff.1 h1
  rw [ho]
  exact OpOk.of_pure hR (iz_ hR (ak_ hS hp) hr')
 case h_9 t x y ho =>
  obtain ⟨p, hp, h1⟩ := Option.bind_eq_some_iff.1 h
  obtain ⟨q, hq, h2⟩ := Option.bind_eq_some_iff.1 h1
  obtain ⟨σ', hs, rfl⟩ := Option.map_eq_some_iff.1 h2
  obtain ⟨w', k1, k2, k3⟩ := lv_ (P := P) hR (ak_ hS hp) (ak_ hS hq) hs
  rw [ho]
  exact ⟨E, w', .refl E, by simp [Sem.run_bind, k1], k2, k3⟩
 case h_10 x ho =>
  obtain ⟨p, hp, h1⟩ := Option.bind_eq_some_iff.1 h
  have hv := ak_ hS hp
  rw [ho]
  split at h1
  ·injection h1 with h1; subst h1
   dsimp only
   generalize a.eval x = v at hv
   have hv' := hv
   cases hv
   exact OpOk.of_value hR hv'
  ·injection h1 with h1; subst h1
   dsimp only
   generalize a.eval x = v at hv
   have hv' := hv
   cases hv
   exact OpOk.of_value hR hv'
  ·injection h1 with h1; subst h1
   dsimp only
   generalize a.eval x = v at hv
   have hv' := hv
   cases hv
   exact OpOk.of_value hR hv'
  ·cases h1
 case h_11 op t x y u ho =>
  obtain ⟨p, hp, h1⟩ := Option.bind_eq_some_iff.1 h
  obtain ⟨q, hq, h2⟩ := Option.bind_eq_some_iff.1 h1
  obtain ⟨r', hr', rfl⟩ := Option.map_eq_some_iff.1 h2
  rw [ho]
  exact OpOk.of_pure hR (nh_ (ak_ hS hp) (ak_ hS hq) hr' x y)
 case h_12 op t x ho =>
  obtain ⟨p, hp, h1⟩ := Option.bind_eq_some_iff.1 h
  obtain ⟨r', hr', rfl⟩ := Option.map_eq_some_iff.1 h1
  rw [ho]
  exact OpOk.of_pure hR (pq_ (ak_ hS hp) hr')
 case h_13 s d x ho =>
  obtain ⟨p, hp, h1⟩ := Option.bind_eq_some_iff.1 h
  obtain ⟨⟨r', σ'⟩, hr', rfl⟩ := Option.map_eq_some_iff.1 h1
  rw [ho]
  exact OpOk.of_val (mc_ hR (ak_ hS hp) hr')
 case h_14 t ho =>
  split at h
  ·injection h with h; subst h
   rw [ho]
   obtain ⟨E', k1, k2, k3, k4⟩ := hR.pushO (o := .map #[] 0) (p := none) ⟨#[], 0, rfl, by simp⟩
   exact ⟨E', _, _, k1, by simp [Instr.makeMap, newObj, Sem.run_bind, Sem.run], k3, .mpx k2, k4⟩
  ·cases h
 case h_15 t m x ho =>
  obtain ⟨p, hp, h1⟩ := Option.bind_eq_some_iff.1 h
  obtain ⟨q, hq, h2⟩ := Option.bind_eq_some_iff.1 h1
  split at h2
  ·rename_i hc
   injection h2 with h2; subst h2
   rw [ho]
   obtain ⟨E', n, w', k1, k2, k3, k4⟩ := kY_ (P := P) hR (ak_ hS hp) (ak_ hS hq) hc.1 hc.2.1 hc.2.2
   exact ⟨E', _, w', k1, by simp [Sem.run_bind, k2], k3, .anyi n, k4⟩
  ·cases h2
 case h_16 t m x y ho =>
  obtain ⟨p, hp, h1⟩ := Option.bind_eq_some_iff.1 h
  obtain ⟨q, hq, h2⟩ := Option.bind_eq_some_iff.1 h1
  obtain ⟨z, hz, h3⟩ := Option.bind_eq_some_iff.1 h2
  split at h3
  ·rename_i hc
   injection h3 with h3; subst h3
   rw [ho]
   obtain ⟨E', w', k1, k2, k3, k4⟩ := i6_ (P := P) hR (ak_ hS hp) (ak_ hS hq) (ak_ hS hz) hc.1 hc.2.1 hc.2.2.1 hc.2.2.2
   exact ⟨E', w', k1, by simp [Sem.run_bind, k2], k3, k4⟩
  ·cases h3
 case h_17 f first caps ho =>
  obtain ⟨p, hp, h1⟩ := Option.bind_eq_some_iff.1 h
  obtain ⟨q, hq, h2⟩ := Option.bind_eq_some_iff.1 h1
  injection h2 with h2; subst h2
  rw [ho]
  have e1 := ei_ hS hp
  have e2 := ei_ hS hq
  exact OpOk.of_pure hR ⟨.func (.func f) (first.map a.eval) (caps.map a.eval), by simp [Instr.makeFunc], V.fn_iff.2 ⟨_, _, rfl, by simpa using e1, by simpa using e2⟩⟩
 case h_18 t l c ho =>
  obtain ⟨p, hp, h1⟩ := Option.bind_eq_some_iff.1 h
  obtain ⟨q, hq, h2⟩ := Option.bind_eq_some_iff.1 h1
  rw [ho]
  split at h2
  ·obtain ⟨e, he, h3⟩ := Option.bind_eq_some_iff.1 h2
   obtain ⟨sz, hsz, h4⟩ := Option.bind_eq_some_iff.1 h3
   obtain ⟨by_, hby, h5⟩ := Option.bind_eq_some_iff.1 h4
   obtain ⟨z, hz, h6⟩ := Option.bind_eq_some_iff.1 h5
   split at h6
   ·rename_i hc
    obtain ⟨c1, c2, c3, c4, c5, c6, c7⟩ := hc
    injection h6 with h6; subst h6
    have e1 := (ak_ hS hp).int_inv
    have e2 := (ak_ hS hq).int_inv
    simp only [e1, e2]
    exact OpOk.of_val (ix_ hR c7 he hsz hby hz c5 c6 c1 c2 c3 c4)
   ·cases h6
  ·cases h2
 case h_19 t x lo hi mx ho =>
  obtain ⟨p, hp, h1⟩ := Option.bind_eq_some_iff.1 h
  obtain ⟨l, hl, h2⟩ := Option.bind_eq_some_iff.1 h1
  obtain ⟨hh, hhh, h3⟩ := Option.bind_eq_some_iff.1 h2
  obtain ⟨m, hm, h4⟩ := Option.bind_eq_some_iff.1 h3
  split at h4
  ·rename_i hok
   simp only [Bool.and_eq_true] at hok
   obtain ⟨⟨o1, o2⟩, o3⟩ := hok
   obtain ⟨r', hr', rfl⟩ := Option.map_eq_some_iff.1 h4
   have e0 := ak_ hS hp
   have e1 := fq_ hS hl o1
   have e2 := fq_ hS hhh o2
   have e3 := fq_ hS hm o3
   rw [ho]
   cases m with
   | none =>
    have : mx.map a.eval = none := by
     cases hmx : mx with
     | none => rfl
     | some z => rw [hmx] at e3; simp [optV] at e3
    simp only [this]
    exact OpOk.of_pure hR (kV_ hR e0 e1 e2 hr')
   | some m =>
    have hz : ∃ k, m = .int k 0 ∧ (∃ k', hh = some (.int k' 0)) ∧ l = none ∧ (∃ e sz, ao_ P t = some e ∧ szOf P e = some sz) ∧ ((∃ z n cs, p = .row z n cs ∧ r' = if z then .row true 0 [] else .emp) ∨ (∃ b ep off n, p = .ref b ep off n ∧ r' = .emp)) := by
     unfold fV_ at hr'
     split at hr'
     ·split at hr' <;> cases hr'
     ·obtain ⟨e, he, q1⟩ := Option.bind_eq_some_iff.1 hr'
      obtain ⟨sz, hsz, q2⟩ := Option.bind_eq_some_iff.1 q1
      dsimp only at q2
      split at q2
      ·injection q2 with q2; subst q2
       exact ⟨_, rfl, ⟨_, rfl⟩, rfl, ⟨e, sz, he, hsz⟩, .inl ⟨_, _, _, rfl, rfl⟩⟩
      ·cases q2
     ·obtain ⟨e, he, q1⟩ := Option.bind_eq_some_iff.1 hr'
      obtain ⟨sz, hsz, q2⟩ := Option.bind_eq_some_iff.1 q1
      obtain ⟨B, hB, q3⟩ := Option.bind_eq_some_iff.1 q2
      dsimp only at q3
      split at q3
      ·injection q3 with q3; subst q3
       exact ⟨_, rfl, ⟨_, rfl⟩, rfl, ⟨e, sz, he, hsz⟩, .inr ⟨_, _, _, _, rfl, rfl⟩⟩
      ·cases q3
     ·cases hr'
    obtain ⟨k, rfl, ⟨k', rfl⟩, rfl, ⟨e, sz, he, hsz⟩, hcase⟩ := hz
    have f1 : lo.map a.eval = none := by
     cases hlo : lo.map a.eval with
     | none => rfl
     | some z => rw [hlo] at e1; simp [optV] at e1
    obtain ⟨z2, f2, f2'⟩ : ∃ z, hi.map a.eval = some z ∧ z = .int k' 0 := by
     cases hhi : hi.map a.eval with
     | none => rw [hhi] at e2; simp [optV] at e2
     | some z => rw [hhi] at e2; exact ⟨z, rfl, e2⟩
    obtain ⟨z3, f3, f3'⟩ : ∃ z, mx.map a.eval = some z ∧ z = .int k 0 := by
     cases hmx : mx.map a.eval with
     | none => rw [hmx] at e3; simp [optV] at e3
     | some z => rw [hmx] at e3; exact ⟨z, rfl, e3⟩
    subst f2'; subst f3'
    simp only [f1, f2, f3]
    exact OpOk.of_pure hR (lg_ e0 he hsz hcase)
  ·cases h4
 case h_20 t x f ho =>
  obtain ⟨p, hp, h1⟩ := Option.bind_eq_some_iff.1 h
  obtain ⟨⟨off, ft, n⟩, hf, h2⟩ := Option.bind_eq_some_iff.1 h1
  rw [ho]
  have e0 := ak_ hS hp
  dsimp only at h2 ⊢
  generalize a.eval x = v at e0
  split at h2
  ·cases h2
  ·rename_i hn
   split at h2
   ·split at h2
    ·rename_i hc
     injection h2 with h2; subst h2
     cases e0 with
     | ptr hJ hm =>
      refine OpOk.of_pure hR ⟨_, iX_ hf hn _, ?_⟩
      rw [jt_]
      exact V.ptr hJ (by omega)
    ·cases h2
   ·split at h2
    ·rename_i hc
     injection h2 with h2; subst h2
     obtain ⟨ad, us, rfl, k1, k2⟩ := V.vw_iff.1 e0
     exact OpOk.of_pure hR ⟨_, iX_ hf hn _, V.vw_drop k1 k2 off⟩
    ·cases h2
   ·cases h2
 case h_21 t x f ho =>
  obtain ⟨p, hp, h1⟩ := Option.bind_eq_some_iff.1 h
  obtain ⟨⟨off, ft, n⟩, hf, h2⟩ := Option.bind_eq_some_iff.1 h1
  rw [ho]
  have e0 := ak_ hS hp
  dsimp only at h2 ⊢
  split at h2
  ·obtain ⟨r', hr', rfl⟩ := Option.map_eq_some_iff.1 h2
   obtain ⟨fs, xf, q1, q2, q3, q4, q5⟩ := gc_ hf
   obtain ⟨us, hus, k1⟩ := V.agg_iff.1 e0
   subst q3; subst q4
   obtain ⟨u, g1, g2⟩ := hv_ (P := P) (w := w) k1 hr'
   exact OpOk.of_pure hR ⟨u, by simp [Instr.field, run_underlying q1, q2, hus, asAgg, g1], g2⟩
  ·cases h2
 case h_22 t x i ho =>
  obtain ⟨p, hp, h1⟩ := Option.bind_eq_some_iff.1 h
  obtain ⟨q, hq, h2⟩ := Option.bind_eq_some_iff.1 h1
  obtain ⟨r', hr', rfl⟩ := Option.map_eq_some_iff.1 h2
  rw [ho]
  exact OpOk.of_pure hR (i8_ hR (ak_ hS hp) (ak_ hS hq) hr')
 case h_23 t x i ho =>
  obtain ⟨p, hp, h1⟩ := Option.bind_eq_some_iff.1 h
  obtain ⟨q, hq, h2⟩ := Option.bind_eq_some_iff.1 h1
  obtain ⟨r', hr', rfl⟩ := Option.map_eq_some_iff.1 h2
  rw [ho]
  exact OpOk.of_pure hR (la_ (ak_ hS hp) (ak_ hS hq) hr')
 case h_24 x i ho =>
  obtain ⟨p, hp, h1⟩ := Option.bind_eq_some_iff.1 h
  rw [ho]
  have e0 := ak_ hS hp
  split at h1
  ·obtain ⟨r', hr', rfl⟩ := Option.map_eq_some_iff.1 h1
   obtain ⟨us, hus, k1⟩ := V.tup_iff.1 e0
   obtain ⟨u, g1, g2⟩ := k1.get? hr'
   rw [Array.getElem?_toList] at g1
   exact OpOk.of_pure hR ⟨u, by simp [Instr.extract, hus, g1], g2⟩
  ·cases h1
 case h_25 c ho =>
  obtain ⟨args, hargs, h1⟩ := Option.bind_eq_some_iff.1 h
  have ea := ei_ hS hargs
  have emap : c.args.map a.eval = (c.args.toList.map a.eval).toArray := by apply Array.ext'; simp
  rw [ho]
  split at h1
  ·rename_i f hc
   obtain ⟨g, hg, h2⟩ := Option.bind_eq_some_iff.1 h1
   have eg := ak_ hS hg
   split at h2
   ·injection h2 with h2; subst h2
    obtain ⟨xs, ys, hv, k1, k2⟩ := V.fn_iff.1 eg
    refine ⟨xs.toList ++ c.args.toList.map a.eval ++ ys.toList, ?_, (k1.append ea).append k2⟩
    simp only [resolve, hc, hv, Deferred.ofValue, Sem.run_bind, Sem.run_pure, Result.andThen_ok, invoke, emap]
    congr 2
    apply Array.ext'
    simp
   ·cases h2
  ·rename_i hc
   split at h1
   ·rename_i x t hat
    obtain ⟨r', hr', rfl⟩ := Option.map_eq_some_iff.1 h1
    have hat' : c.argTypes = #[t] := by apply Array.ext'; simpa using hat
    obtain ⟨v, hv⟩ : ∃ v, c.args.toList.map a.eval = [v] := by
     have := ea.1
     simp only [List.length_cons, List.length_nil] at this
     exact List.length_eq_one_iff.1 this
    rw [hv] at ea
    simp only [resolve, hc, Sem.run_pure, emap, hv, hat']
    exact OpOk.of_pure hR (nq_ ea.head hr')
   ·cases h1
  ·rename_i hc
   split at h1
   ·rename_i x t hat
    obtain ⟨r', hr', rfl⟩ := Option.map_eq_some_iff.1 h1
    have hat' : c.argTypes = #[t] := by apply Array.ext'; simpa using hat
    obtain ⟨v, hv⟩ : ∃ v, c.args.toList.map a.eval = [v] := by
     have := ea.1
     simp only [List.length_cons, List.length_nil] at this
     exact List.length_eq_one_iff.1 this
    rw [hv] at ea
    simp only [resolve, hc, Sem.run_pure, emap, hv, hat']
    exact OpOk.of_pure hR (nv_ ea.head hr')
   ·cases h1
  ·rename_i hc
   split at h1
   ·rename_i x y t t2 hat
    obtain ⟨⟨r', σ'⟩, hr', rfl⟩ := Option.map_eq_some_iff.1 h1
    have hat' : c.argTypes = #[t, t2] := by apply Array.ext'; simpa using hat
    obtain ⟨v, u, hv⟩ : ∃ v u, c.args.toList.map a.eval = [v, u] := by
     have := ea.1
     simp only [List.length_cons, List.length_nil] at this
     exact l0_ this
    rw [hv] at ea
    simp only [resolve, hc, Sem.run_pure, emap, hv, hat']
    exact OpOk.of_val (j9_ hR ea.head ea.tail.head hr')
   ·cases h1
  ·rename_i hc
   split at h1
   ·rename_i k x k' y
    injection h1 with h1; subst h1
    obtain ⟨v, u, hv⟩ : ∃ v u, c.args.toList.map a.eval = [v, u] := by
     have := ea.1
     simp only [List.length_cons, List.length_nil] at this
     exact l0_ this
    rw [hv] at ea
    obtain rfl := ea.head.int_inv
    obtain rfl := ea.tail.head.int_inv
    simp only [resolve, hc, Sem.run_pure, emap, hv]
    exact OpOk.of_pure hR ⟨_, by simp [Builtin.min_, Builtin.min2], .int _ _⟩
   ·cases h1
  ·rename_i hc
   split at h1
   ·rename_i k x k' y
    injection h1 with h1; subst h1
    obtain ⟨v, u, hv⟩ : ∃ v u, c.args.toList.map a.eval = [v, u] := by
     have := ea.1
     simp only [List.length_cons, List.length_nil] at this
     exact l0_ this
    rw [hv] at ea
    obtain rfl := ea.head.int_inv
    obtain rfl := ea.tail.head.int_inv
    simp only [resolve, hc, Sem.run_pure, emap, hv]
    exact OpOk.of_pure hR ⟨_, by simp [Builtin.max_, Builtin.max2], .int _ _⟩
   ·cases h1
  ·cases h1
 case h_26 => cases h
end
end Go.Am
end
section
set_option linter.unusedVariables false
set_option linter.unusedSimpArgs false
namespace Go.Am
open Go.RowKit
def frzL (f : T → Option (T × List Nat)) : List T → Option (List T × List Nat)
 | [] => some ([], [])
 | t :: ts => (f t).bind fun p => (frzL f ts).map fun q => (p.1 :: q.1, p.2 ++ q.2)
def frz (σ : St) : Nat → T → Option (T × List Nat)
 | d + 1, .ref b e off n => (σ.blk b).bind fun B => if B.low ≤ e ∧ B.esz ≠ 0 then (frzL (frz σ d) ((B.cells.drop off).take (n * B.esz))).map fun q => (.row false n q.1, b :: q.2) else none
 | d + 1, .agg cs => (frzL (frz σ d) cs).map fun q => (.agg q.1, q.2)
 | d + 1, .tup cs => (frzL (frz σ d) cs).map fun q => (.tup q.1, q.2)
 | 0, .ref .. | 0, .agg _ | 0, .tup _ => none
 | _, .emp => some (.row false 0 [], [])
 | _, t => some (t, [])
def own (σ : St) : Nat → T → Option (T × List Nat)
 | d + 1, .ref b e off n => (σ.blk b).bind fun B => if B.st = true ∧ e = B.ep ∧ off = 0 ∧ B.cells.length = n * B.esz ∧ B.esz ≠ 0 then (frzL (own σ d) B.cells).map fun q => (.row false n q.1, b :: q.2) else none
 | d + 1, .agg cs => (frzL (own σ d) cs).map fun q => (.agg q.1, q.2)
 | d + 1, .tup cs => (frzL (own σ d) cs).map fun q => (.tup q.1, q.2)
 | _, .emp => some (.row false 0 [], [])
 | _, .row true 0 [] => some (.row true 0 [], [])
 | _, .int k n => some (.int k n, [])
 | _, .bool b => some (.bool b, [])
 | _, .str s => some (.str s, [])
 | _, .nilp => some (.nilp, [])
 | _, .nilf => some (.nilf, [])
 | _, .nili => some (.nili, [])
 | _, .nilm => some (.nilm, [])
 | _, _ => none
def St.keep (σ σ2 : St) (K : List Nat) : St := ⟨σ2.next, fun i => if i < σ.next then σ.blk i else if i ∈ K then σ2.blk i else none⟩
inductive Md where
 | raw | view | own
 deriving DecidableEq
mutual
def pureT : T → Bool
 | .ptr .. | .ref .. | .mp _ | .anyi | .yld _ => false
 | .vw cs => pureL cs
 | .row _ _ cs => pureL cs
 | .fn _ a b => pureL a && pureL b
 | .agg cs => pureL cs
 | .tup cs => pureL cs
 | _ => true
def pureL : List T → Bool
 | [] => true
 | t :: ts => pureT t && pureL ts
end
mutual
def leafT : T → Bool
 | .ptr .. | .ref .. | .vw _ | .row .. | .fn .. | .emp | .mp _ | .anyi | .yld _ => false
 | .agg cs => leafL cs
 | .tup cs => leafL cs
 | _ => true
def leafL : List T → Bool
 | [] => true
 | t :: ts => leafT t && leafL ts
end
def St.mark (σ : St) (S : List Nat) : St := ⟨σ.next, fun i => (σ.blk i).map fun B => if i ∈ S then { B with st := false } else B⟩
def Ok (P : Program) (f : Nat) (c : Code) (n : Nat) (rs : List ResultVar) : Prop :=
 ∃ fn, P.funcs[f]? = some fn ∧ (fn.name == "runtime.NumGoroutine") = false ∧ fn.body = some c ∧ dstsOk fn.ntmps c = true ∧ fn.ntmps = n ∧ fn.results.toList = rs
def resV (P : Program) (fr : Fr) : ResultVar → Option T
 | .tmp t => some (fr.s t)
 | .cell a t => iN_ P fr.σ t (fr.s a)
def resL (P : Program) (fr : Fr) : List ResultVar → Option (List T)
 | [] => some []
 | r :: rs => (resV P fr r).bind fun v => (resL P fr rs).map (v :: ·)
def tupOf : List T → T
 | [v] => v
 | l => .tup l
def resA (P : Program) (fn : Func) (fr : Fr) : Option T :=
 (resL P fr fn.results.toList).map tupOf
abbrev Ext := Nat → Option (List T → St → Option (T × St))
mutual
inductive EvCall (P : Program) (vm : Nat → Md) (X : Ext) : Nat → List T → St → T → St → Prop
 | mk {f fn c args σ x fr r} : X f = none → P.funcs[f]? = some fn → (fn.name == "runtime.NumGoroutine") = false → fn.body = some c → dstsOk fn.ntmps c = true → args.length ≤ fn.ntmps →
   EvC P vm X c ⟨enterS args, σ⟩ x fr → (x = .normal ∨ x = .ret) → resA P fn fr = some r → EvCall P vm X f args σ r fr.σ
 | ext {f g args σ r σ'} : X f = some g → g args σ = some (r, σ') → EvCall P vm X f args σ r σ'
inductive EvP (P : Program) (vm : Nat → Md) (X : Ext) : Nat → List T → St → T → St → Prop
 | raw {f args σ r σ'} : vm f = .raw → EvCall P vm X f args σ r σ' → EvP P vm X f args σ r σ'
 | view {D1 D2 f args σ args' S r σ2 r' S2} : vm f = .view → frzL (frz σ D1) args = some (args', S) → EvCall P vm X f args' (σ.mark S) r σ2 → frz σ2 D2 r = some (r', S2) → pureT r' = true →
   (∀ i, i < σ.next → σ2.blk i = (σ.mark S).blk i) → EvP P vm X f args σ r' (if leafT r' = true then σ else (σ.mark S).mark (S2.filter fun i => decide (i < σ.next)))
 | own {D1 D2 f args σ args' S r σ2 v K} : vm f = .own → frzL (frz σ D1) args = some (args', S) → EvCall P vm X f args' (σ.mark S) r σ2 → own σ2 D2 r = some (v, K) → (∀ b ∈ K, σ.next ≤ b) →
   (∀ i, i < σ.next → σ2.blk i = (σ.mark S).blk i) → EvP P vm X f args σ r (σ.keep σ2 K)
inductive EvO (P : Program) (vm : Nat → Md) (X : Ext) : Array Oper → Option Nat → Oper → Fr → Fr → Prop
 | skip {ops k o fr} : wantedA ops o fr.s = false → EvO P vm X ops k o fr (fr.put o.dst (.tup []) fr.σ)
 | val {ops k o fr v σ} : wantedA ops o fr.s = true → aOp P k fr o = some (.val v σ) → EvO P vm X ops k o fr (fr.put o.dst v σ)
 | nores {ops k o fr σ} : wantedA ops o fr.s = true → aOp P k fr o = some (.skip σ) → EvO P vm X ops k o fr (fr.put o.dst (.tup []) σ)
 | call {ops k o fr f args r σ} : wantedA ops o fr.s = true → aOp P k fr o = some (.call f args) → EvP P vm X f args fr.σ r σ → EvO P vm X ops k o fr (fr.put o.dst r σ)
inductive EvI (P : Program) (vm : Nat → Md) (X : Ext) : Array Oper → Option Nat → List Nat → Fr → Fr → Prop
 | nil {ops b fr} : EvI P vm X ops b [] fr fr
 | cons {ops b i l o fr fr1 fr2} : ops[i]? = some o → EvO P vm X ops (b.map (· + i)) o fr fr1 → EvI P vm X ops b l fr1 fr2 → EvI P vm X ops b (i :: l) fr fr2
inductive EvC (P : Program) (vm : Nat → Md) (X : Ext) : Code → Fr → aA_ → Fr → Prop
 | skip {fr} : EvC P vm X .skip fr .normal fr
 | region {id ops fr fr'} : EvI P vm X ops none (List.range ops.size) fr fr' → EvC P vm X (.region id ops false) fr .normal fr'
 | draw {id ops fr fr'} : (∀ t, EvI P vm X ops (some fr.σ.next) (Region.linearise .any ops t) ⟨fr.s, fr.σ.bump ops.size⟩ fr') → EvC P vm X (.region id ops true) fr .normal fr'
 | seq {a b fr fr1 x fr2} : EvC P vm X a fr .normal fr1 → EvC P vm X b fr1 x fr2 → EvC P vm X (.seq a b) fr x fr2
 | seqX {a b fr x fr1} : EvC P vm X a fr x fr1 → x ≠ .normal → EvC P vm X (.seq a b) fr x fr1
 | condT {c a b fr x fr'} : evalO fr.s c = some (.bool true) → EvC P vm X a fr x fr' → EvC P vm X (.cond c a b) fr x fr'
 | condF {c a b fr x fr'} : evalO fr.s c = some (.bool false) → EvC P vm X b fr x fr' → EvC P vm X (.cond c a b) fr x fr'
 | block {id c fr x fr'} : EvC P vm X c fr x fr' → EvC P vm X (.block id c) fr (x.blk id) fr'
 | loop {c n fr x fr'} : EvR P vm X c n fr x fr' → EvC P vm X (.loop c) fr x fr'
 | exit {id fr} : EvC P vm X (.exit id) fr (.exit id) fr
 | ret {fr} : EvC P vm X .ret fr .ret fr
 | range {g ps assign body fr f us fn I σ1} {it0 it1 : Nat → Fr} : evalO fr.s g = some (.fn f [] us) → P.funcs[f]? = some fn → (fn.name == "runtime.NumGoroutine") = false → fn.body = some (It.code I) → fn.results.toList = [] → dstsOk fn.ntmps (It.code I) = true → us.length + 1 ≤ fn.ntmps →
   (∀ l, EvI P vm X I.R0 none (List.range I.R0.size) ⟨enterS (.yld l :: us), fr.σ⟩ (it0 l)) → (∀ l, EvY P vm X l I ps assign body fr.s (it0 l) (it1 l)) → (∀ l, (it1 l).σ = σ1) → EvC P vm X (.rangeFunc g ps assign body) fr .normal ⟨fr.s, σ1⟩
inductive EvR (P : Program) (vm : Nat → Md) (X : Ext) : Code → Nat → Fr → aA_ → Fr → Prop
 | go {c n fr fr1 x fr2} : EvC P vm X c fr .normal fr1 → EvR P vm X c n fr1 x fr2 → EvR P vm X c (n + 1) fr x fr2
 | stop {c n fr x fr1} : EvC P vm X c fr x fr1 → x ≠ .normal → EvR P vm X c (n + 1) fr x fr1
inductive EvY (P : Program) (vm : Nat → Md) (X : Ext) : Nat → It → Array Nat → Code → Code → (Nat → T) → Fr → Fr → Prop
 | stop {l I ps assign body s it it1} : EvI P vm X I.R1 none (List.range I.R1.size) it it1 → evalO it1.s I.c1 = some (.bool false) → EvY P vm X l I ps assign body s it it1
 | go {l I ps assign body s it it1 it2 it3 it4 it5 o ts b1 b2} : EvI P vm X I.R1 none (List.range I.R1.size) it it1 → evalO it1.s I.c1 = some (.bool true) → EvI P vm X I.R3 none (List.range (kY I.R3)) it1 it2 → I.R3[kY I.R3]? = some o → yOp l it2.s o = some ts → ts.length = ps.size →
   EvC P vm X assign ⟨putPs s (ps.toList.zip ts), it2.σ⟩ .normal b1 → EvC P vm X body b1 .normal b2 → EvI P vm X I.R3 none (List.range' (kY I.R3 + 1) (I.R3.size - (kY I.R3 + 1))) (it2.put o.dst (.bool true) b2.σ) it3 → evalO it3.s I.c2 = some (.bool false) →
   EvI P vm X I.R2 none (List.range I.R2.size) it3 it4 → EvY P vm X l I ps assign body s it4 it5 → EvY P vm X l I ps assign body s it it5
end
end Go.Am
end
