/- Functions of the program. -/
import Derived.Test.YtfnjieagnkmceaaAd0
set_option maxRecDepth 100000
set_option maxHeartbeats 4000000
set_option linter.unusedVariables false
set_option linter.unusedSimpArgs false
namespace Go.Am
open Go.Proofs
noncomputable def c0_ (a0 : (Sl (Iv .u8))) (a1 : T) : Option Bool := (if flat1 a1 = true then ((aM_ (S := Int) (R := (Unit ⊕ Bool)) (fun st1 => (if (decide (st1 < (a0.l.length : Int))) = true then ((elt a0 st1).bind fun y2 => ((i4_ Try.prog md ext E_bool a1 [.int .u8 y2.v]).bind fun y3 => (if (!y3) = true then (some (.inr (.inr false))) else (some (.inl (w4 (st1 + 1))))))) else (some (.inr (.inl ()))))) 0).bind fun y1 => (Sum.elim (fun y1 => (some true)) (fun y1 => (some y1)) y1)) else none)
theorem g4_ (a0 : (Sl (Iv .u8))) (a1 : T) (r : Bool) (h : c0_ a0 a1 = some r) : eI_ a0 a1 = some r := by
 unfold c0_ at h
 obtain ⟨hf_a1, h⟩ := jL_ h
 refine ax_ E_bool_inj rfl rfl ok_154 rfl (all_cons (by kernel_rfl) (all_cons (l6_ hf_a1) all_nil)) ?_
 intro σ0 s hS hH
 have hS := am_ (L' := [(0, a0.t), (1, a1)]) hS (by kernel_rfl)
 refine ad_ (ab_ ?_)
 refine qs 1 [(0, a0.t), (1, a1)] hS ?_; intro s hS
 refine ae_ (sq_n (ad_ (ad_ (ab_ ?_))))
 refine qs 3 [(1, a1), (7, a0.t), (8, i4 (a0.l.length : Int)), (9, i4 0)] hS ?_; intro s hS
 refine ae_ (sq_n (aw_ ?_))
 obtain ⟨y1, hy1, h⟩ := bind_some h
 refine bd_ (fun (st1 : Int) (fr : Fr) => Sub [(1, a1), (7, a0.t), (8, i4 (a0.l.length : Int)), (9, i4 st1)] fr.s ∧ Heap σ0 fr.σ []) (fun (y1 : (Unit ⊕ Bool)) (e : aC_) (fr : Fr) => (Sum.elim (fun y => e = (.exit 0) ∧ Sub [] fr.s ∧ Heap σ0 fr.σ []) (fun y => e = .ret ∧ endW Try.prog (Try.f154.results.toList) σ0 (E_bool y) .ret fr)) y1) hy1 (And.intro (am_ hS (by kernel_rfl)) hH) ?_ ?_
 ·clear h hy1 hS hH; clear y1; intro st1 x fr h HI; obtain ⟨s, σ⟩ := fr; obtain ⟨hS, hH⟩ := HI
  refine ad_ (ab_ ?_)
  refine qs 1 [(1, a1), (7, a0.t), (8, i4 (a0.l.length : Int)), (9, i4 st1), (10, .bool (decide (st1 < (a0.l.length : Int))))] hS ?_; intro s hS
  refine ae_ (sq_n (ad_ ?_))
  by_cases hc1 : (decide (st1 < (a0.l.length : Int))) = true
  ·have h := ak_ hc1 h
   refine af_ hS rfl (fun _ => ?_) (fun hf => ah_ hc1 hf)
   refine as_ (sq_n (ad_ (aw_ (ad_ (ab_ ?_)))))
   obtain ⟨y2, hy2, h⟩ := bind_some h
   refine bh_ (sl := a0) (e := 5) [.int .u8 y2.v] rfl hS rfl rfl (by kernel_rfl) (by kernel_rfl) hy2 rfl ?_; intro rest1 s hS
   refine qs 2 [(1, a1), (6, .int .u8 y2.v), (7, a0.t), (8, i4 (a0.l.length : Int)), (9, i4 st1)] hS ?_; intro s hS
   refine ae_ (sq_n (ad_ (ab_ ?_)))
   refine qs 2 [(1, a1), (7, a0.t), (8, i4 (a0.l.length : Int)), (9, i4 st1), (13, a1), (14, .int .u8 y2.v)] hS ?_; intro s hS
   obtain ⟨y3, hy3, h⟩ := bind_some h
   refine nY_ (p := a1) (xs := [.int .u8 y2.v]) rfl hS rfl rfl hy3 ?_; intro s hS
   refine qs 1 [(1, a1), (7, a0.t), (8, i4 (a0.l.length : Int)), (9, i4 st1), (16, .bool (!y3))] hS ?_; intro s hS
   refine ae_ (sq_n ?_)
   by_cases hc2 : (!y3) = true
   ·have h := ak_ hc2 h
    refine af_ hS rfl (fun _ => ?_) (fun hf => ah_ hc2 hf)
    refine ad_ (ab_ ?_)
    refine qs 1 [(4, .bool false)] hS ?_; intro s hS
    refine ae_ (sq_n (ao_ (bk_r (sq_r ?_))))
    injection h with h; subst h
    exact And.intro rfl (aq_ hH (an_ (v := .bool false) hS rfl r_nil) rfl (by kernel_rfl) (by simp [pureT, pureL, E_bool]))
   ·have h := al_ hc2 h
    refine af_ hS rfl (fun hf => ag_ hc2 hf) (fun _ => ?_)
    refine as_ (bk_n (sq_n (ab_ ?_)))
    refine qs 2 [(1, a1), (7, a0.t), (8, i4 (a0.l.length : Int)), (9, i4 (w4 (st1 + 1)))] hS ?_; intro s hS
    refine ae_ ?_
    injection h with h; subst h
    exact And.intro (am_ hS (by kernel_rfl)) hH
  ·have h := al_ hc1 h
   refine af_ hS rfl (fun hf => ag_ hc1 hf) (fun _ => ?_)
   refine ba_ (sq_x ?_)
   injection h with h; subst h
   exact And.intro rfl (And.intro (am_ hS (by kernel_rfl)) hH)
 ·clear hS hH; intro e fr HF; obtain ⟨s, σ⟩ := fr
  rcases y1 with y1 | y1
  ·obtain ⟨rfl, hS, hH⟩ := HF
   refine bk_e (sq_n (ad_ (ab_ ?_)))
   refine qs 1 [(4, .bool true)] hS ?_; intro s hS
   refine ae_ (sq_n (ao_ ?_))
   injection h with h; subst h
   exact aq_ hH (an_ (v := .bool true) hS rfl r_nil) rfl (by kernel_rfl) (by simp [pureT, pureL, E_bool])
  ·obtain ⟨rfl, HE⟩ := HF
   refine bk_r (sq_r ?_)
   injection h with h; subst h; exact HE
noncomputable def ds_ (a0 : Int) : Option Bool := ((c8_ a0).bind fun y1 => (if y1 = true then (some true) else ((eV_ a0).bind fun y2 => (if y2 = true then (some true) else (some (decide (a0 = 95)))))))
theorem hO_ (a0 : Int) (r : Bool) (h : ds_ a0 = some r) : dp_ a0 = some r := by
 unfold ds_ at h
 refine ax_ E_bool_inj rfl rfl ok_155 rfl (all_cons (by kernel_rfl) all_nil) ?_
 intro σ0 s hS hH
 have hS := am_ (L' := [(0, .int .u8 a0)]) hS (by kernel_rfl)
 refine ad_ (ab_ ?_)
 refine qs 1 [(0, .int .u8 a0)] hS ?_; intro s hS
 refine ae_ (sq_n (ad_ (ab_ ?_)))
 refine qs 1 [(0, .int .u8 a0), (3, .int .u8 a0)] hS ?_; intro s hS
 obtain ⟨y1, hy1, h⟩ := bind_some h
 refine ar_ (a := []) (b := []) (xs := [.int .u8 a0]) rfl hS rfl rfl hy1 ?_; intro s hS
 refine qs 1 [(5, .bool y1), (0, .int .u8 a0)] hS ?_; intro s hS
 by_cases hc1 : y1 = true
 ·have h := ak_ hc1 h
  have hS := ap_ hS hc1
  refine qs 8 [(2, .bool true)] hS ?_; intro s hS
  refine ae_ (sq_n (ao_ ?_))
  injection h with h; subst h
  exact aq_ hH (an_ (v := .bool true) hS rfl r_nil) rfl (by kernel_rfl) (by simp [pureT, pureL, E_bool])
 ·have h := al_ hc1 h
  have hS := ap_ hS (aB_ hc1)
  refine qs 1 [(0, .int .u8 a0), (5, .bool false), (6, .int .u8 a0)] hS ?_; intro s hS
  obtain ⟨y2, hy2, h⟩ := bind_some h
  refine ar_ (a := []) (b := []) (xs := [.int .u8 a0]) rfl hS rfl rfl hy2 ?_; intro s hS
  refine qs 2 [(9, .bool y2), (0, .int .u8 a0)] hS ?_; intro s hS
  by_cases hc2 : y2 = true
  ·have h := ak_ hc2 h
   have hS := ap_ hS hc2
   refine qs 4 [(2, .bool true)] hS ?_; intro s hS
   refine ae_ (sq_n (ao_ ?_))
   injection h with h; subst h
   exact aq_ hH (an_ (v := .bool true) hS rfl r_nil) rfl (by kernel_rfl) (by simp [pureT, pureL, E_bool])
  ·have h := al_ hc2 h
   have hS := ap_ hS (aB_ hc2)
   refine qs 4 [(2, .bool (decide (a0 = 95)))] hS ?_; intro s hS
   refine ae_ (sq_n (ao_ ?_))
   injection h with h; subst h
   exact aq_ hH (an_ (v := .bool (decide (a0 = 95))) hS rfl r_nil) rfl (by kernel_rfl) (by simp [pureT, pureL, E_bool])
noncomputable def fF_ (a0 : Int) : Option Bool := (if (decide (65 ≤ a0)) = true then (if (decide (a0 ≤ 90)) = true then (some true) else (if (decide (97 ≤ a0)) = true then (some (decide (a0 ≤ 122))) else (some false))) else (if (decide (97 ≤ a0)) = true then (some (decide (a0 ≤ 122))) else (some false)))
theorem h9_ (a0 : Int) (r : Bool) (h : fF_ a0 = some r) : b3_ a0 = some r := by
 unfold fF_ at h
 refine ax_ E_bool_inj rfl rfl ok_171 rfl (all_cons (by kernel_rfl) all_nil) ?_
 intro σ0 s hS hH
 have hS := am_ (L' := [(0, .int .u8 a0)]) hS (by kernel_rfl)
 refine ad_ (ab_ ?_)
 refine qs 1 [(0, .int .u8 a0)] hS ?_; intro s hS
 refine ae_ (sq_n (ad_ (ab_ ?_)))
 refine qs 3 [(5, .bool (decide (65 ≤ a0))), (0, .int .u8 a0)] hS ?_; intro s hS
 by_cases hc1 : (decide (65 ≤ a0)) = true
 ·have h := ak_ hc1 h
  have hS := ap_ hS hc1
  refine qs 4 [(9, .bool (decide (a0 ≤ 90))), (0, .int .u8 a0)] hS ?_; intro s hS
  by_cases hc2 : (decide (a0 ≤ 90)) = true
  ·have h := ak_ hc2 h
   have hS := ap_ hS hc2
   refine qs 8 [(2, .bool true)] hS ?_; intro s hS
   refine ae_ (sq_n (ao_ ?_))
   injection h with h; subst h
   exact aq_ hH (an_ (v := .bool true) hS rfl r_nil) rfl (by kernel_rfl) (by simp [pureT, pureL, E_bool])
  ·have h := al_ hc2 h
   have hS := ap_ hS (aB_ hc2)
   refine qs 3 [(12, .bool (decide (97 ≤ a0))), (0, .int .u8 a0), (9, .bool false)] hS ?_; intro s hS
   by_cases hc3 : (decide (97 ≤ a0)) = true
   ·have h := ak_ hc3 h
    have hS := ap_ hS hc3
    refine qs 5 [(2, .bool (decide (a0 ≤ 122)))] hS ?_; intro s hS
    refine ae_ (sq_n (ao_ ?_))
    injection h with h; subst h
    exact aq_ hH (an_ (v := .bool (decide (a0 ≤ 122))) hS rfl r_nil) rfl (by kernel_rfl) (by simp [pureT, pureL, E_bool])
   ·have h := al_ hc3 h
    have hS := ap_ hS (aB_ hc3)
    refine qs 5 [(2, .bool false)] hS ?_; intro s hS
    refine ae_ (sq_n (ao_ ?_))
    injection h with h; subst h
    exact aq_ hH (an_ (v := .bool false) hS rfl r_nil) rfl (by kernel_rfl) (by simp [pureT, pureL, E_bool])
 ·have h := al_ hc1 h
  have hS := ap_ hS (aB_ hc1)
  refine qs 7 [(12, .bool (decide (97 ≤ a0))), (0, .int .u8 a0), (9, .bool false)] hS ?_; intro s hS
  by_cases hc4 : (decide (97 ≤ a0)) = true
  ·have h := ak_ hc4 h
   have hS := ap_ hS hc4
   refine qs 5 [(2, .bool (decide (a0 ≤ 122)))] hS ?_; intro s hS
   refine ae_ (sq_n (ao_ ?_))
   injection h with h; subst h
   exact aq_ hH (an_ (v := .bool (decide (a0 ≤ 122))) hS rfl r_nil) rfl (by kernel_rfl) (by simp [pureT, pureL, E_bool])
  ·have h := al_ hc4 h
   have hS := ap_ hS (aB_ hc4)
   refine qs 5 [(2, .bool false)] hS ?_; intro s hS
   refine ae_ (sq_n (ao_ ?_))
   injection h with h; subst h
   exact aq_ hH (an_ (v := .bool false) hS rfl r_nil) rfl (by kernel_rfl) (by simp [pureT, pureL, E_bool])
noncomputable def fJ_ (a0 : Int) : Option Bool := (if (decide (48 ≤ a0)) = true then (some (decide (a0 ≤ 57))) else (some false))
theorem iT_ (a0 : Int) (r : Bool) (h : fJ_ a0 = some r) : dj_ a0 = some r := by
 unfold fJ_ at h
 refine ax_ E_bool_inj rfl rfl ok_172 rfl (all_cons (by kernel_rfl) all_nil) ?_
 intro σ0 s hS hH
 have hS := am_ (L' := [(0, .int .u8 a0)]) hS (by kernel_rfl)
 refine ad_ (ab_ ?_)
 refine qs 1 [(0, .int .u8 a0)] hS ?_; intro s hS
 refine ae_ (sq_n (ad_ (ab_ ?_)))
 refine qs 3 [(5, .bool (decide (48 ≤ a0))), (0, .int .u8 a0)] hS ?_; intro s hS
 by_cases hc1 : (decide (48 ≤ a0)) = true
 ·have h := ak_ hc1 h
  have hS := ap_ hS hc1
  refine qs 4 [(2, .bool (decide (a0 ≤ 57)))] hS ?_; intro s hS
  refine ae_ (sq_n (ao_ ?_))
  injection h with h; subst h
  exact aq_ hH (an_ (v := .bool (decide (a0 ≤ 57))) hS rfl r_nil) rfl (by kernel_rfl) (by simp [pureT, pureL, E_bool])
 ·have h := al_ hc1 h
  have hS := ap_ hS (aB_ hc1)
  refine qs 4 [(2, .bool false)] hS ?_; intro s hS
  refine ae_ (sq_n (ao_ ?_))
  injection h with h; subst h
  exact aq_ hH (an_ (v := .bool false) hS rfl r_nil) rfl (by kernel_rfl) (by simp [pureT, pureL, E_bool])
noncomputable def gl_ (a0 : Int) : Option Bool := (if (decide (48 ≤ a0)) = true then (some (decide (a0 ≤ 57))) else (some false))
theorem iZ_ (a0 : Int) (r : Bool) (h : gl_ a0 = some r) : eV_ a0 = some r := by
 unfold gl_ at h
 refine ax_ E_bool_inj rfl rfl ok_173 rfl (all_cons (by kernel_rfl) all_nil) ?_
 intro σ0 s hS hH
 have hS := am_ (L' := [(0, .int .u8 a0)]) hS (by kernel_rfl)
 refine ad_ (ab_ ?_)
 refine qs 1 [(0, .int .u8 a0)] hS ?_; intro s hS
 refine ae_ (sq_n (ad_ (ab_ ?_)))
 refine qs 3 [(5, .bool (decide (48 ≤ a0))), (0, .int .u8 a0)] hS ?_; intro s hS
 by_cases hc1 : (decide (48 ≤ a0)) = true
 ·have h := ak_ hc1 h
  have hS := ap_ hS hc1
  refine qs 4 [(2, .bool (decide (a0 ≤ 57)))] hS ?_; intro s hS
  refine ae_ (sq_n (ao_ ?_))
  injection h with h; subst h
  exact aq_ hH (an_ (v := .bool (decide (a0 ≤ 57))) hS rfl r_nil) rfl (by kernel_rfl) (by simp [pureT, pureL, E_bool])
 ·have h := al_ hc1 h
  have hS := ap_ hS (aB_ hc1)
  refine qs 4 [(2, .bool false)] hS ?_; intro s hS
  refine ae_ (sq_n (ao_ ?_))
  injection h with h; subst h
  exact aq_ hH (an_ (v := .bool false) hS rfl r_nil) rfl (by kernel_rfl) (by simp [pureT, pureL, E_bool])
end Go.Am
