/- Functions of the program. -/
import Derived.Test.YthpmndnnpnojjaaAd0
set_option maxRecDepth 100000
set_option maxHeartbeats 4000000
set_option linter.unusedVariables false
set_option linter.unusedSimpArgs false
namespace Go.Am
open Go.Proofs
noncomputable def dm_ (a0 : DPattern) : Option Bool := ((c9_ a0.Kind 1 24).bind fun y1 => (if (!y1) = true then (some false) else ((cu_ a0.Kind).bind fun y2 => (if (!decide ((a0.Kids.l.length : Int) = y2.1)) = true then (some false) else (if (decide (y2.2 = (⟨#[115]⟩ : ByteArray))) = true then (if (decide (a0.Num = 0)) = true then (if (decide ((a0.Text.size : Int) ≤ 200)) = true then (if (decide (a0.Kind = 1)) = true then (some true) else (some (!decide (a0.Text = (⟨#[]⟩ : ByteArray))))) else (some false)) else (some false)) else (if (decide (y2.2 = (⟨#[110]⟩ : ByteArray))) = true then (if (decide (a0.Text = (⟨#[]⟩ : ByteArray))) = true then ((c9_ a0.Num 0 200).bind fun y3 => (some y3)) else (some false)) else (if (decide (y2.2 = (⟨#[120]⟩ : ByteArray))) = true then (if (decide (a0.Num = 0)) = true then ((cK_ a0.Text).bind fun y4 => (some y4)) else (some false)) else (if (decide (a0.Num = 0)) = true then (some (decide (a0.Text = (⟨#[]⟩ : ByteArray)))) else (some false)))))))))
theorem gq_ (a0 : DPattern) (r : Bool) (h : dm_ a0 = some r) : dr_ a0 = some r := by
 unfold dm_ at h
 refine aF_ E_bool_inj rfl rfl ok_133 rfl (all_cons (by kernel_rfl) all_nil) ?_
 intro σ0 s hS hH
 have hS := aj_ (L' := [(0, .agg [i4 a0.Kind, i4 a0.Num, .str a0.Text, a0.Kids.t])]) hS (by kernel_rfl)
 refine ab_ (aa_ ?_)
 refine dy_ (v := .agg [i4 a0.Kind, i4 a0.Num, .str a0.Text, a0.Kids.t]) (cs := [i4 a0.Kind, i4 a0.Num, .str a0.Text, a0.Kids.t]) rfl hS hH rfl rfl (by kernel_rfl) ?_; intro b1 σ s hH hS
 refine qs 1 [(1, .ptr b1 0 0 4)] hS ?_; intro s hS
 refine ac_ (sq_n (ab_ (ab_ (aa_ ?_))))
 refine qs 1 [(1, .ptr b1 0 0 4), (5, .ptr b1 0 0 1)] hS ?_; intro s hS
 refine as_ (v := i4 a0.Kind) 0 trivial rfl hS hH rfl rfl (by kernel_rfl) ?_; intro s hS
 obtain ⟨y1, hy1, h⟩ := bind_some h
 refine aw_ (a := []) (b := []) (xs := [i4 a0.Kind, i4 1, i4 24]) rfl hS rfl rfl hy1 ?_; intro s hS
 refine qs 1 [(1, .ptr b1 0 0 4), (8, .bool (!y1))] hS ?_; intro s hS
 refine ac_ (sq_n ?_)
 by_cases hc1 : (!y1) = true
 ·have h := ai_ hc1 h
  refine ae_ hS rfl (fun _ => ?_) (fun hf => ag_ hc1 hf)
  refine ab_ (aa_ ?_)
  refine qs 1 [(2, .bool false)] hS ?_; intro s hS
  refine ac_ (sq_n (al_ (sq_r ?_)))
  injection h with h; subst h
  exact am_ hH (ak_ (v := .bool false) hS rfl r_nil) rfl (by kernel_rfl) (by simp [pureT, pureL, E_bool])
 ·have h := ah_ hc1 h
  refine ae_ hS rfl (fun hf => af_ hc1 hf) (fun _ => ?_)
  refine aq_ (sq_n (ab_ (aa_ ?_)))
  refine qs 1 [(1, .ptr b1 0 0 4), (10, .ptr b1 0 0 1)] hS ?_; intro s hS
  refine as_ (v := i4 a0.Kind) 0 trivial rfl hS hH rfl rfl (by kernel_rfl) ?_; intro s hS
  obtain ⟨y2, hy2, h⟩ := bind_some h
  refine aw_ (a := []) (b := []) (xs := [i4 a0.Kind]) rfl hS rfl rfl hy2 ?_; intro s hS
  refine qs 5 [(1, .ptr b1 0 0 4), (3, i4 y2.1), (4, .str y2.2)] hS ?_; intro s hS
  refine ac_ (sq_n (ab_ (ab_ (aa_ ?_))))
  refine qs 1 [(1, .ptr b1 0 0 4), (3, i4 y2.1), (4, .str y2.2), (15, .ptr b1 0 3 1)] hS ?_; intro s hS
  refine as_ (v := a0.Kids.t) 0 trivial rfl hS hH rfl rfl (by kernel_rfl) ?_; intro s hS
  refine qs 3 [(1, .ptr b1 0 0 4), (4, .str y2.2), (19, .bool (!decide ((a0.Kids.l.length : Int) = y2.1)))] hS ?_; intro s hS
  refine ac_ (sq_n ?_)
  by_cases hc2 : (!decide ((a0.Kids.l.length : Int) = y2.1)) = true
  ·have h := ai_ hc2 h
   refine ae_ hS rfl (fun _ => ?_) (fun hf => ag_ hc2 hf)
   refine ab_ (aa_ ?_)
   refine qs 1 [(2, .bool false)] hS ?_; intro s hS
   refine ac_ (sq_n (al_ (sq_r ?_)))
   injection h with h; subst h
   exact am_ hH (ak_ (v := .bool false) hS rfl r_nil) rfl (by kernel_rfl) (by simp [pureT, pureL, E_bool])
  ·have h := ah_ hc2 h
   refine ae_ hS rfl (fun hf => af_ hc2 hf) (fun _ => ?_)
   refine aq_ (sq_n (ab_ (ab_ (aa_ ?_))))
   refine qs 1 [(1, .ptr b1 0 0 4), (20, .str y2.2)] hS ?_; intro s hS
   refine ac_ (sq_n (ax_ (ab_ (aa_ ?_))))
   refine qs 2 [(1, .ptr b1 0 0 4), (20, .str y2.2), (21, .bool (decide (y2.2 = (⟨#[115]⟩ : ByteArray))))] hS ?_; intro s hS
   refine ac_ (sq_n ?_)
   by_cases hc3 : (decide (y2.2 = (⟨#[115]⟩ : ByteArray))) = true
   ·have h := ai_ hc3 h
    refine ae_ hS rfl (fun _ => ?_) (fun hf => ag_ hc3 hf)
    refine ab_ (aa_ ?_)
    refine qs 1 [(1, .ptr b1 0 0 4), (23, .ptr b1 0 1 1)] hS ?_; intro s hS
    refine as_ (v := i4 a0.Num) 0 trivial rfl hS hH rfl rfl (by kernel_rfl) ?_; intro s hS
    refine qs 2 [(26, .bool (decide (a0.Num = 0))), (1, .ptr b1 0 0 4)] hS ?_; intro s hS
    by_cases hc4 : (decide (a0.Num = 0)) = true
    ·have h := ai_ hc4 h
     have hS := ao_ hS hc4
     refine qs 1 [(1, .ptr b1 0 0 4), (26, .bool true), (27, .ptr b1 0 2 1)] hS ?_; intro s hS
     refine as_ (v := .str a0.Text) 0 trivial rfl hS hH rfl rfl (by kernel_rfl) ?_; intro s hS
     refine qs 4 [(32, .bool (decide ((a0.Text.size : Int) ≤ 200))), (1, .ptr b1 0 0 4)] hS ?_; intro s hS
     by_cases hc5 : (decide ((a0.Text.size : Int) ≤ 200)) = true
     ·have h := ai_ hc5 h
      have hS := ao_ hS hc5
      refine qs 1 [(1, .ptr b1 0 0 4), (32, .bool true), (33, .ptr b1 0 0 1)] hS ?_; intro s hS
      refine as_ (v := i4 a0.Kind) 0 trivial rfl hS hH rfl rfl (by kernel_rfl) ?_; intro s hS
      refine qs 2 [(36, .bool (decide (a0.Kind = 1))), (1, .ptr b1 0 0 4), (32, .bool true)] hS ?_; intro s hS
      by_cases hc6 : (decide (a0.Kind = 1)) = true
      ·have h := ai_ hc6 h
       have hS := ao_ hS hc6
       refine qs 6 [(2, .bool true)] hS ?_; intro s hS
       refine ac_ (sq_n (al_ (bk_r (sq_r ?_))))
       injection h with h; subst h
       exact am_ hH (ak_ (v := .bool true) hS rfl r_nil) rfl (by kernel_rfl) (by simp [pureT, pureL, E_bool])
      ·have h := ah_ hc6 h
       have hS := ao_ hS (aY_ hc6)
       refine qs 1 [(32, .bool true), (36, .bool false), (37, .ptr b1 0 2 1)] hS ?_; intro s hS
       refine as_ (v := .str a0.Text) 0 trivial rfl hS hH rfl rfl (by kernel_rfl) ?_; intro s hS
       refine qs 4 [(2, .bool (!decide (a0.Text = (⟨#[]⟩ : ByteArray))))] hS ?_; intro s hS
       refine ac_ (sq_n (al_ (bk_r (sq_r ?_))))
       injection h with h; subst h
       exact am_ hH (ak_ (v := .bool (!decide (a0.Text = (⟨#[]⟩ : ByteArray)))) hS rfl r_nil) rfl (by kernel_rfl) (by simp [pureT, pureL, E_bool])
     ·have h := ah_ hc5 h
      have hS := ao_ hS (aY_ hc5)
      refine qs 10 [(2, .bool false)] hS ?_; intro s hS
      refine ac_ (sq_n (al_ (bk_r (sq_r ?_))))
      injection h with h; subst h
      exact am_ hH (ak_ (v := .bool false) hS rfl r_nil) rfl (by kernel_rfl) (by simp [pureT, pureL, E_bool])
    ·have h := ah_ hc4 h
     have hS := ao_ hS (aY_ hc4)
     refine qs 16 [(2, .bool false)] hS ?_; intro s hS
     refine ac_ (sq_n (al_ (bk_r (sq_r ?_))))
     injection h with h; subst h
     exact am_ hH (ak_ (v := .bool false) hS rfl r_nil) rfl (by kernel_rfl) (by simp [pureT, pureL, E_bool])
   ·have h := ah_ hc3 h
    refine ae_ hS rfl (fun hf => af_ hc3 hf) (fun _ => ?_)
    refine ab_ (aa_ ?_)
    refine qs 2 [(1, .ptr b1 0 0 4), (20, .str y2.2), (42, .bool (decide (y2.2 = (⟨#[110]⟩ : ByteArray))))] hS ?_; intro s hS
    refine ac_ (sq_n ?_)
    by_cases hc7 : (decide (y2.2 = (⟨#[110]⟩ : ByteArray))) = true
    ·have h := ai_ hc7 h
     refine ae_ hS rfl (fun _ => ?_) (fun hf => ag_ hc7 hf)
     refine ab_ (aa_ ?_)
     refine qs 1 [(1, .ptr b1 0 0 4), (44, .ptr b1 0 2 1)] hS ?_; intro s hS
     refine as_ (v := .str a0.Text) 0 trivial rfl hS hH rfl rfl (by kernel_rfl) ?_; intro s hS
     refine qs 2 [(47, .bool (decide (a0.Text = (⟨#[]⟩ : ByteArray)))), (1, .ptr b1 0 0 4)] hS ?_; intro s hS
     by_cases hc8 : (decide (a0.Text = (⟨#[]⟩ : ByteArray))) = true
     ·have h := ai_ hc8 h
      have hS := ao_ hS hc8
      refine qs 1 [(47, .bool true), (48, .ptr b1 0 1 1)] hS ?_; intro s hS
      refine as_ (v := i4 a0.Num) 0 trivial rfl hS hH rfl rfl (by kernel_rfl) ?_; intro s hS
      obtain ⟨y3, hy3, h⟩ := bind_some h
      refine aw_ (a := []) (b := []) (xs := [i4 a0.Num, i4 0, i4 200]) rfl hS rfl rfl hy3 ?_; intro s hS
      refine qs 2 [(2, .bool y3)] hS ?_; intro s hS
      refine ac_ (sq_n (al_ (bk_r (sq_r ?_))))
      injection h with h; subst h
      exact am_ hH (ak_ (v := .bool y3) hS rfl r_nil) rfl (by kernel_rfl) (by simp [pureT, pureL, E_bool])
     ·have h := ah_ hc8 h
      have hS := ao_ hS (aY_ hc8)
      refine qs 5 [(2, .bool false)] hS ?_; intro s hS
      refine ac_ (sq_n (al_ (bk_r (sq_r ?_))))
      injection h with h; subst h
      exact am_ hH (ak_ (v := .bool false) hS rfl r_nil) rfl (by kernel_rfl) (by simp [pureT, pureL, E_bool])
    ·have h := ah_ hc7 h
     refine ae_ hS rfl (fun hf => af_ hc7 hf) (fun _ => ?_)
     refine ab_ (aa_ ?_)
     refine qs 2 [(1, .ptr b1 0 0 4), (52, .bool (decide (y2.2 = (⟨#[120]⟩ : ByteArray))))] hS ?_; intro s hS
     refine ac_ (sq_n ?_)
     by_cases hc9 : (decide (y2.2 = (⟨#[120]⟩ : ByteArray))) = true
     ·have h := ai_ hc9 h
      refine ae_ hS rfl (fun _ => ?_) (fun hf => ag_ hc9 hf)
      refine ab_ (aa_ ?_)
      refine qs 1 [(1, .ptr b1 0 0 4), (54, .ptr b1 0 1 1)] hS ?_; intro s hS
      refine as_ (v := i4 a0.Num) 0 trivial rfl hS hH rfl rfl (by kernel_rfl) ?_; intro s hS
      refine qs 2 [(57, .bool (decide (a0.Num = 0))), (1, .ptr b1 0 0 4)] hS ?_; intro s hS
      by_cases hc10 : (decide (a0.Num = 0)) = true
      ·have h := ai_ hc10 h
       have hS := ao_ hS hc10
       refine qs 1 [(57, .bool true), (58, .ptr b1 0 2 1)] hS ?_; intro s hS
       refine as_ (v := .str a0.Text) 0 trivial rfl hS hH rfl rfl (by kernel_rfl) ?_; intro s hS
       obtain ⟨y4, hy4, h⟩ := bind_some h
       refine aw_ (a := []) (b := []) (xs := [.str a0.Text]) rfl hS rfl rfl hy4 ?_; intro s hS
       refine qs 2 [(2, .bool y4)] hS ?_; intro s hS
       refine ac_ (sq_n (al_ (bk_r (sq_r ?_))))
       injection h with h; subst h
       exact am_ hH (ak_ (v := .bool y4) hS rfl r_nil) rfl (by kernel_rfl) (by simp [pureT, pureL, E_bool])
      ·have h := ah_ hc10 h
       have hS := ao_ hS (aY_ hc10)
       refine qs 5 [(2, .bool false)] hS ?_; intro s hS
       refine ac_ (sq_n (al_ (bk_r (sq_r ?_))))
       injection h with h; subst h
       exact am_ hH (ak_ (v := .bool false) hS rfl r_nil) rfl (by kernel_rfl) (by simp [pureT, pureL, E_bool])
     ·have h := ah_ hc9 h
      refine ae_ hS rfl (fun hf => af_ hc9 hf) (fun _ => ?_)
      refine aq_ (bk_n (sq_n (ab_ (aa_ ?_))))
      refine qs 1 [(1, .ptr b1 0 0 4), (62, .ptr b1 0 1 1)] hS ?_; intro s hS
      refine as_ (v := i4 a0.Num) 0 trivial rfl hS hH rfl rfl (by kernel_rfl) ?_; intro s hS
      refine qs 2 [(65, .bool (decide (a0.Num = 0))), (1, .ptr b1 0 0 4)] hS ?_; intro s hS
      by_cases hc11 : (decide (a0.Num = 0)) = true
      ·have h := ai_ hc11 h
       have hS := ao_ hS hc11
       refine qs 1 [(65, .bool true), (66, .ptr b1 0 2 1)] hS ?_; intro s hS
       refine as_ (v := .str a0.Text) 0 trivial rfl hS hH rfl rfl (by kernel_rfl) ?_; intro s hS
       refine qs 3 [(2, .bool (decide (a0.Text = (⟨#[]⟩ : ByteArray))))] hS ?_; intro s hS
       refine ac_ (sq_n (al_ ?_))
       injection h with h; subst h
       exact am_ hH (ak_ (v := .bool (decide (a0.Text = (⟨#[]⟩ : ByteArray)))) hS rfl r_nil) rfl (by kernel_rfl) (by simp [pureT, pureL, E_bool])
      ·have h := ah_ hc11 h
       have hS := ao_ hS (aY_ hc11)
       refine qs 5 [(2, .bool false)] hS ?_; intro s hS
       refine ac_ (sq_n (al_ ?_))
       injection h with h; subst h
       exact am_ hH (ak_ (v := .bool false) hS rfl r_nil) rfl (by kernel_rfl) (by simp [pureT, pureL, E_bool])
noncomputable def bA_ (a0 : ByteArray) (a1 : Int) : Option Int := (if (decide ((a0.size : Int) ≤ a1)) = true then (some a1) else ((br_ a0 a1).bind fun y1 => ((bj_ y1).bind fun y2 => (if (!y2) = true then (some a1) else ((aI_ (S := Int) (R := Int) (fun st1 => (if (decide (st1 < (a0.size : Int))) = true then ((br_ a0 st1).bind fun y4 => ((bj_ y4).bind fun y5 => (if y5 = true then (some (.inl (w4 (st1 + 1)))) else ((br_ a0 st1).bind fun y6 => ((bZ_ y6).bind fun y7 => (if y7 = true then (some (.inl (w4 (st1 + 1)))) else ((br_ a0 st1).bind fun y8 => (if (decide (y8 = 95)) = true then (some (.inl (w4 (st1 + 1)))) else (some (.inr st1)))))))))) else (some (.inr st1)))) a1).bind fun y3 => (some y3))))))
theorem fj_ (a0 : ByteArray) (a1 : Int) (r : Int) (h : bA_ a0 a1 = some r) : cb_ a0 a1 = some r := by
 unfold bA_ at h
 refine aF_ E_i64_inj rfl rfl ok_135 rfl (all_cons (by kernel_rfl) (all_cons (by kernel_rfl) all_nil)) ?_
 intro σ0 s hS hH
 have hS := aj_ (L' := [(0, .str a0), (1, i4 a1)]) hS (by kernel_rfl)
 refine ab_ (aa_ ?_)
 refine qs 1 [(0, .str a0), (1, i4 a1)] hS ?_; intro s hS
 refine ac_ (sq_n (ab_ (ab_ (aa_ ?_))))
 refine qs 5 [(9, .bool (decide ((a0.size : Int) ≤ a1))), (0, .str a0), (1, i4 a1)] hS ?_; intro s hS
 by_cases hc1 : (decide ((a0.size : Int) ≤ a1)) = true
 ·have h := ai_ hc1 h
  have hS := ao_ hS hc1
  refine qs 6 [(0, .str a0), (1, i4 a1), (15, .bool true)] hS ?_; intro s hS
  refine ac_ (sq_n ?_)
  refine ae_ (t := true) hS rfl (fun _ => ?_) (fun hf => by cases hf)
  refine ab_ (aa_ ?_)
  refine qs 2 [(4, i4 a1)] hS ?_; intro s hS
  refine ac_ (sq_n (al_ (sq_r ?_)))
  injection h with h; subst h
  exact am_ hH (ak_ (v := i4 a1) hS rfl r_nil) rfl (by kernel_rfl) (by simp [pureT, pureL, E_i64])
 ·have h := ah_ hc1 h
  have hS := ao_ hS (aY_ hc1)
  refine qs 2 [(0, .str a0), (1, i4 a1), (9, .bool false), (10, .str a0), (11, i4 a1)] hS ?_; intro s hS
  obtain ⟨y1, hy1, h⟩ := bind_some h
  refine fg_ rfl hS rfl rfl (by kernel_rfl) hy1 ?_; intro s hS
  obtain ⟨y2, hy2, h⟩ := bind_some h
  refine aw_ (a := []) (b := []) (xs := [.int .u8 y1]) rfl hS rfl rfl hy2 ?_; intro s hS
  refine qs 2 [(0, .str a0), (1, i4 a1), (15, .bool (!y2))] hS ?_; intro s hS
  refine ac_ (sq_n ?_)
  by_cases hc2 : (!y2) = true
  ·have h := ai_ hc2 h
   refine ae_ hS rfl (fun _ => ?_) (fun hf => ag_ hc2 hf)
   refine ab_ (aa_ ?_)
   refine qs 2 [(4, i4 a1)] hS ?_; intro s hS
   refine ac_ (sq_n (al_ (sq_r ?_)))
   injection h with h; subst h
   exact am_ hH (ak_ (v := i4 a1) hS rfl r_nil) rfl (by kernel_rfl) (by simp [pureT, pureL, E_i64])
  ·have h := ah_ hc2 h
   refine ae_ hS rfl (fun hf => af_ hc2 hf) (fun _ => ?_)
   refine aq_ (sq_n (ab_ (ax_ ?_)))
   obtain ⟨y3, hy3, h⟩ := bind_some h
   refine bw_ (fun (st1 : Int) (fr : Fr) => Sub [(0, .str a0), (1, i4 st1)] fr.s ∧ Heap σ0 fr.σ []) (fun (y3 : Int) (e : aB_) (fr : Fr) => e = (.exit 0) ∧ Sub [(1, i4 y3)] fr.s ∧ Heap σ0 fr.σ []) hy3 (And.intro (aj_ hS (by kernel_rfl)) hH) ?_ ?_
   ·clear h hy3 hS hH; clear y3; intro st1 x fr h HI; obtain ⟨s, σ⟩ := fr; obtain ⟨hS, hH⟩ := HI
    refine ab_ (ab_ (aa_ ?_))
    refine qs 5 [(21, .bool (decide (st1 < (a0.size : Int)))), (0, .str a0), (1, i4 st1)] hS ?_; intro s hS
    by_cases hc3 : (decide (st1 < (a0.size : Int))) = true
    ·have h := ai_ hc3 h
     have hS := ao_ hS hc3
     refine qs 2 [(0, .str a0), (1, i4 st1), (21, .bool true), (22, .str a0), (23, i4 st1)] hS ?_; intro s hS
     obtain ⟨y4, hy4, h⟩ := bind_some h
     refine fg_ rfl hS rfl rfl (by kernel_rfl) hy4 ?_; intro s hS
     obtain ⟨y5, hy5, h⟩ := bind_some h
     refine aw_ (a := []) (b := []) (xs := [.int .u8 y4]) rfl hS rfl rfl hy5 ?_; intro s hS
     refine qs 1 [(26, .bool y5), (0, .str a0), (1, i4 st1), (21, .bool true)] hS ?_; intro s hS
     by_cases hc4 : y5 = true
     ·have h := ai_ hc4 h
      have hS := ao_ hS hc4
      refine qs 12 [(0, .str a0), (1, i4 st1), (38, .bool true)] hS ?_; intro s hS
      refine ac_ (sq_n ?_)
      refine ae_ (t := true) hS rfl (fun _ => ?_) (fun hf => by cases hf)
      refine aq_ (sq_n (ax_ (aa_ ?_)))
      refine qs 3 [(0, .str a0), (1, i4 (w4 (st1 + 1)))] hS ?_; intro s hS
      refine ac_ (bk_n ?_)
      injection h with h; subst h
      exact And.intro (aj_ hS (by kernel_rfl)) hH
     ·have h := ah_ hc4 h
      have hS := ao_ hS (aY_ hc4)
      refine qs 2 [(0, .str a0), (1, i4 st1), (21, .bool true), (26, .bool false), (27, .str a0), (28, i4 st1)] hS ?_; intro s hS
      obtain ⟨y6, hy6, h⟩ := bind_some h
      refine fg_ rfl hS rfl rfl (by kernel_rfl) hy6 ?_; intro s hS
      obtain ⟨y7, hy7, h⟩ := bind_some h
      refine aw_ (a := []) (b := []) (xs := [.int .u8 y6]) rfl hS rfl rfl hy7 ?_; intro s hS
      refine qs 2 [(32, .bool y7), (0, .str a0), (1, i4 st1), (21, .bool true)] hS ?_; intro s hS
      by_cases hc5 : y7 = true
      ·have h := ai_ hc5 h
       have hS := ao_ hS hc5
       refine qs 6 [(0, .str a0), (1, i4 st1), (38, .bool true)] hS ?_; intro s hS
       refine ac_ (sq_n ?_)
       refine ae_ (t := true) hS rfl (fun _ => ?_) (fun hf => by cases hf)
       refine aq_ (sq_n (ax_ (aa_ ?_)))
       refine qs 3 [(0, .str a0), (1, i4 (w4 (st1 + 1)))] hS ?_; intro s hS
       refine ac_ (bk_n ?_)
       injection h with h; subst h
       exact And.intro (aj_ hS (by kernel_rfl)) hH
      ·have h := ah_ hc5 h
       have hS := ao_ hS (aY_ hc5)
       refine qs 2 [(0, .str a0), (1, i4 st1), (21, .bool true), (32, .bool false), (33, .str a0), (34, i4 st1)] hS ?_; intro s hS
       obtain ⟨y8, hy8, h⟩ := bind_some h
       refine fg_ rfl hS rfl rfl (by kernel_rfl) hy8 ?_; intro s hS
       refine qs 3 [(0, .str a0), (1, i4 st1), (38, .bool (decide (y8 = 95)))] hS ?_; intro s hS
       refine ac_ (sq_n ?_)
       by_cases hc6 : (decide (y8 = 95)) = true
       ·have h := ai_ hc6 h
        refine ae_ hS rfl (fun _ => ?_) (fun hf => ag_ hc6 hf)
        refine aq_ (sq_n (ax_ (aa_ ?_)))
        refine qs 3 [(0, .str a0), (1, i4 (w4 (st1 + 1)))] hS ?_; intro s hS
        refine ac_ (bk_n ?_)
        injection h with h; subst h
        exact And.intro (aj_ hS (by kernel_rfl)) hH
       ·have h := ah_ hc6 h
        refine ae_ hS rfl (fun hf => af_ hc6 hf) (fun _ => ?_)
        refine bl_ (sq_x ?_)
        injection h with h; subst h
        exact And.intro rfl (And.intro (aj_ hS (by kernel_rfl)) hH)
    ·have h := ah_ hc3 h
     have hS := ao_ hS (aY_ hc3)
     refine qs 17 [(0, .str a0), (1, i4 st1), (38, .bool false)] hS ?_; intro s hS
     refine ac_ (sq_n ?_)
     refine ae_ (t := false) hS rfl (fun hf => by cases hf) (fun _ => ?_)
     refine bl_ (sq_x ?_)
     injection h with h; subst h
     exact And.intro rfl (And.intro (aj_ hS (by kernel_rfl)) hH)
   ·clear hS hH; intro e fr HF; obtain ⟨s, σ⟩ := fr
    obtain ⟨rfl, hS, hH⟩ := HF
    refine bk_e (sq_n (ab_ (aa_ ?_)))
    refine qs 2 [(4, i4 y3)] hS ?_; intro s hS
    refine ac_ (sq_n (al_ ?_))
    injection h with h; subst h
    exact am_ hH (ak_ (v := i4 y3) hS rfl r_nil) rfl (by kernel_rfl) (by simp [pureT, pureL, E_i64])
noncomputable def eg_ (a0 : Int) : Option Bool := (if (decide (65 ≤ a0)) = true then (if (decide (a0 ≤ 90)) = true then (some true) else (if (decide (97 ≤ a0)) = true then (some (decide (a0 ≤ 122))) else (some false))) else (if (decide (97 ≤ a0)) = true then (some (decide (a0 ≤ 122))) else (some false)))
theorem f2_ (a0 : Int) (r : Bool) (h : eg_ a0 = some r) : b2_ a0 = some r := by
 unfold eg_ at h
 refine aF_ E_bool_inj rfl rfl ok_136 rfl (all_cons (by kernel_rfl) all_nil) ?_
 intro σ0 s hS hH
 have hS := aj_ (L' := [(0, .int .u8 a0)]) hS (by kernel_rfl)
 refine ab_ (aa_ ?_)
 refine qs 1 [(0, .int .u8 a0)] hS ?_; intro s hS
 refine ac_ (sq_n (ab_ (aa_ ?_)))
 refine qs 3 [(5, .bool (decide (65 ≤ a0))), (0, .int .u8 a0)] hS ?_; intro s hS
 by_cases hc1 : (decide (65 ≤ a0)) = true
 ·have h := ai_ hc1 h
  have hS := ao_ hS hc1
  refine qs 4 [(9, .bool (decide (a0 ≤ 90))), (0, .int .u8 a0)] hS ?_; intro s hS
  by_cases hc2 : (decide (a0 ≤ 90)) = true
  ·have h := ai_ hc2 h
   have hS := ao_ hS hc2
   refine qs 8 [(2, .bool true)] hS ?_; intro s hS
   refine ac_ (sq_n (al_ ?_))
   injection h with h; subst h
   exact am_ hH (ak_ (v := .bool true) hS rfl r_nil) rfl (by kernel_rfl) (by simp [pureT, pureL, E_bool])
  ·have h := ah_ hc2 h
   have hS := ao_ hS (aY_ hc2)
   refine qs 3 [(12, .bool (decide (97 ≤ a0))), (0, .int .u8 a0), (9, .bool false)] hS ?_; intro s hS
   by_cases hc3 : (decide (97 ≤ a0)) = true
   ·have h := ai_ hc3 h
    have hS := ao_ hS hc3
    refine qs 5 [(2, .bool (decide (a0 ≤ 122)))] hS ?_; intro s hS
    refine ac_ (sq_n (al_ ?_))
    injection h with h; subst h
    exact am_ hH (ak_ (v := .bool (decide (a0 ≤ 122))) hS rfl r_nil) rfl (by kernel_rfl) (by simp [pureT, pureL, E_bool])
   ·have h := ah_ hc3 h
    have hS := ao_ hS (aY_ hc3)
    refine qs 5 [(2, .bool false)] hS ?_; intro s hS
    refine ac_ (sq_n (al_ ?_))
    injection h with h; subst h
    exact am_ hH (ak_ (v := .bool false) hS rfl r_nil) rfl (by kernel_rfl) (by simp [pureT, pureL, E_bool])
 ·have h := ah_ hc1 h
  have hS := ao_ hS (aY_ hc1)
  refine qs 7 [(12, .bool (decide (97 ≤ a0))), (0, .int .u8 a0), (9, .bool false)] hS ?_; intro s hS
  by_cases hc4 : (decide (97 ≤ a0)) = true
  ·have h := ai_ hc4 h
   have hS := ao_ hS hc4
   refine qs 5 [(2, .bool (decide (a0 ≤ 122)))] hS ?_; intro s hS
   refine ac_ (sq_n (al_ ?_))
   injection h with h; subst h
   exact am_ hH (ak_ (v := .bool (decide (a0 ≤ 122))) hS rfl r_nil) rfl (by kernel_rfl) (by simp [pureT, pureL, E_bool])
  ·have h := ah_ hc4 h
   have hS := ao_ hS (aY_ hc4)
   refine qs 5 [(2, .bool false)] hS ?_; intro s hS
   refine ac_ (sq_n (al_ ?_))
   injection h with h; subst h
   exact am_ hH (ak_ (v := .bool false) hS rfl r_nil) rfl (by kernel_rfl) (by simp [pureT, pureL, E_bool])
noncomputable def bV_ (a0 : (Sl (Iv .u8))) (a1 : T) : Option Bool := (if flat1 a1 = true then ((aI_ (S := Int) (R := (Unit ⊕ Bool)) (fun st1 => (if (decide (st1 < (a0.l.length : Int))) = true then ((elt a0 st1).bind fun y2 => ((ir_ Try.prog md ext E_bool a1 [.int .u8 y2.v]).bind fun y3 => (if (!y3) = true then (some (.inr (.inr false))) else (some (.inl (w4 (st1 + 1))))))) else (some (.inr (.inl ()))))) 0).bind fun y1 => (Sum.elim (fun y1 => (some true)) (fun y1 => (some y1)) y1)) else none)
theorem eV_ (a0 : (Sl (Iv .u8))) (a1 : T) (r : Bool) (h : bV_ a0 a1 = some r) : db_ a0 a1 = some r := by
 unfold bV_ at h
 obtain ⟨hf_a1, h⟩ := jL_ h
 refine aF_ E_bool_inj rfl rfl ok_137 rfl (all_cons (by kernel_rfl) (all_cons (iI_ hf_a1) all_nil)) ?_
 intro σ0 s hS hH
 have hS := aj_ (L' := [(0, a0.t), (1, a1)]) hS (by kernel_rfl)
 refine ab_ (aa_ ?_)
 refine qs 1 [(0, a0.t), (1, a1)] hS ?_; intro s hS
 refine ac_ (sq_n (ab_ (ab_ (aa_ ?_))))
 refine qs 3 [(1, a1), (7, a0.t), (8, i4 (a0.l.length : Int)), (9, i4 0)] hS ?_; intro s hS
 refine ac_ (sq_n (ax_ ?_))
 obtain ⟨y1, hy1, h⟩ := bind_some h
 refine bw_ (fun (st1 : Int) (fr : Fr) => Sub [(1, a1), (7, a0.t), (8, i4 (a0.l.length : Int)), (9, i4 st1)] fr.s ∧ Heap σ0 fr.σ []) (fun (y1 : (Unit ⊕ Bool)) (e : aB_) (fr : Fr) => (Sum.elim (fun y => e = (.exit 0) ∧ Sub [] fr.s ∧ Heap σ0 fr.σ []) (fun y => e = .ret ∧ endW Try.prog (Try.f137.results.toList) σ0 (E_bool y) .ret fr)) y1) hy1 (And.intro (aj_ hS (by kernel_rfl)) hH) ?_ ?_
 ·clear h hy1 hS hH; clear y1; intro st1 x fr h HI; obtain ⟨s, σ⟩ := fr; obtain ⟨hS, hH⟩ := HI
  refine ab_ (aa_ ?_)
  refine qs 1 [(1, a1), (7, a0.t), (8, i4 (a0.l.length : Int)), (9, i4 st1), (10, .bool (decide (st1 < (a0.l.length : Int))))] hS ?_; intro s hS
  refine ac_ (sq_n (ab_ ?_))
  by_cases hc1 : (decide (st1 < (a0.l.length : Int))) = true
  ·have h := ai_ hc1 h
   refine ae_ hS rfl (fun _ => ?_) (fun hf => ag_ hc1 hf)
   refine aq_ (sq_n (ab_ (ax_ (ab_ (aa_ ?_)))))
   obtain ⟨y2, hy2, h⟩ := bind_some h
   refine co_ (sl := a0) (e := 5) [.int .u8 y2.v] rfl hS rfl rfl (by kernel_rfl) (by kernel_rfl) hy2 rfl ?_; intro rest1 s hS
   refine qs 2 [(1, a1), (6, .int .u8 y2.v), (7, a0.t), (8, i4 (a0.l.length : Int)), (9, i4 st1)] hS ?_; intro s hS
   refine ac_ (sq_n (ab_ (aa_ ?_)))
   refine qs 2 [(1, a1), (7, a0.t), (8, i4 (a0.l.length : Int)), (9, i4 st1), (13, a1), (14, .int .u8 y2.v)] hS ?_; intro s hS
   obtain ⟨y3, hy3, h⟩ := bind_some h
   refine jx_ (p := a1) (xs := [.int .u8 y2.v]) rfl hS rfl rfl hy3 ?_; intro s hS
   refine qs 1 [(1, a1), (7, a0.t), (8, i4 (a0.l.length : Int)), (9, i4 st1), (16, .bool (!y3))] hS ?_; intro s hS
   refine ac_ (sq_n ?_)
   by_cases hc2 : (!y3) = true
   ·have h := ai_ hc2 h
    refine ae_ hS rfl (fun _ => ?_) (fun hf => ag_ hc2 hf)
    refine ab_ (aa_ ?_)
    refine qs 1 [(4, .bool false)] hS ?_; intro s hS
    refine ac_ (sq_n (al_ (bk_r (sq_r ?_))))
    injection h with h; subst h
    exact And.intro rfl (am_ hH (ak_ (v := .bool false) hS rfl r_nil) rfl (by kernel_rfl) (by simp [pureT, pureL, E_bool]))
   ·have h := ah_ hc2 h
    refine ae_ hS rfl (fun hf => af_ hc2 hf) (fun _ => ?_)
    refine aq_ (bk_n (sq_n (aa_ ?_)))
    refine qs 2 [(1, a1), (7, a0.t), (8, i4 (a0.l.length : Int)), (9, i4 (w4 (st1 + 1)))] hS ?_; intro s hS
    refine ac_ ?_
    injection h with h; subst h
    exact And.intro (aj_ hS (by kernel_rfl)) hH
  ·have h := ah_ hc1 h
   refine ae_ hS rfl (fun hf => af_ hc1 hf) (fun _ => ?_)
   refine bl_ (sq_x ?_)
   injection h with h; subst h
   exact And.intro rfl (And.intro (aj_ hS (by kernel_rfl)) hH)
 ·clear hS hH; intro e fr HF; obtain ⟨s, σ⟩ := fr
  rcases y1 with y1 | y1
  ·obtain ⟨rfl, hS, hH⟩ := HF
   refine bk_e (sq_n (ab_ (aa_ ?_)))
   refine qs 1 [(4, .bool true)] hS ?_; intro s hS
   refine ac_ (sq_n (al_ ?_))
   injection h with h; subst h
   exact am_ hH (ak_ (v := .bool true) hS rfl r_nil) rfl (by kernel_rfl) (by simp [pureT, pureL, E_bool])
  ·obtain ⟨rfl, HE⟩ := HF
   refine bk_r (sq_r ?_)
   injection h with h; subst h; exact HE
noncomputable def cl_ (a0 : Int) : Option Bool := ((b2_ a0).bind fun y1 => (if y1 = true then (some true) else ((dj_ a0).bind fun y2 => (if y2 = true then (some true) else (some (decide (a0 = 95)))))))
theorem fp_ (a0 : Int) (r : Bool) (h : cl_ a0 = some r) : cn_ a0 = some r := by
 unfold cl_ at h
 refine aF_ E_bool_inj rfl rfl ok_138 rfl (all_cons (by kernel_rfl) all_nil) ?_
 intro σ0 s hS hH
 have hS := aj_ (L' := [(0, .int .u8 a0)]) hS (by kernel_rfl)
 refine ab_ (aa_ ?_)
 refine qs 1 [(0, .int .u8 a0)] hS ?_; intro s hS
 refine ac_ (sq_n (ab_ (aa_ ?_)))
 refine qs 1 [(0, .int .u8 a0), (3, .int .u8 a0)] hS ?_; intro s hS
 obtain ⟨y1, hy1, h⟩ := bind_some h
 refine aw_ (a := []) (b := []) (xs := [.int .u8 a0]) rfl hS rfl rfl hy1 ?_; intro s hS
 refine qs 1 [(5, .bool y1), (0, .int .u8 a0)] hS ?_; intro s hS
 by_cases hc1 : y1 = true
 ·have h := ai_ hc1 h
  have hS := ao_ hS hc1
  refine qs 8 [(2, .bool true)] hS ?_; intro s hS
  refine ac_ (sq_n (al_ ?_))
  injection h with h; subst h
  exact am_ hH (ak_ (v := .bool true) hS rfl r_nil) rfl (by kernel_rfl) (by simp [pureT, pureL, E_bool])
 ·have h := ah_ hc1 h
  have hS := ao_ hS (aY_ hc1)
  refine qs 1 [(0, .int .u8 a0), (5, .bool false), (6, .int .u8 a0)] hS ?_; intro s hS
  obtain ⟨y2, hy2, h⟩ := bind_some h
  refine aw_ (a := []) (b := []) (xs := [.int .u8 a0]) rfl hS rfl rfl hy2 ?_; intro s hS
  refine qs 2 [(9, .bool y2), (0, .int .u8 a0)] hS ?_; intro s hS
  by_cases hc2 : y2 = true
  ·have h := ai_ hc2 h
   have hS := ao_ hS hc2
   refine qs 4 [(2, .bool true)] hS ?_; intro s hS
   refine ac_ (sq_n (al_ ?_))
   injection h with h; subst h
   exact am_ hH (ak_ (v := .bool true) hS rfl r_nil) rfl (by kernel_rfl) (by simp [pureT, pureL, E_bool])
  ·have h := ah_ hc2 h
   have hS := ao_ hS (aY_ hc2)
   refine qs 4 [(2, .bool (decide (a0 = 95)))] hS ?_; intro s hS
   refine ac_ (sq_n (al_ ?_))
   injection h with h; subst h
   exact am_ hH (ak_ (v := .bool (decide (a0 = 95))) hS rfl r_nil) rfl (by kernel_rfl) (by simp [pureT, pureL, E_bool])
noncomputable def dg_ (a0 : Int) : Option (ByteArray × ByteArray) := (if (decide (a0 = 2)) = true then (some (⟨#[97, 110, 121]⟩, ⟨#[115]⟩)) else (if (decide (a0 = 3)) = true then (some (⟨#[110, 111, 116, 97, 110, 121]⟩, ⟨#[115]⟩)) else (if (decide (a0 = 4)) = true then (some (⟨#[115, 112, 97, 110]⟩, ⟨#[115]⟩)) else (if (decide (a0 = 5)) = true then (some (⟨#[98, 114, 101, 97, 107]⟩, ⟨#[115]⟩)) else (if (decide (a0 = 6)) = true then (some (⟨#[108, 101, 110]⟩, ⟨#[110]⟩)) else (if (decide (a0 = 7)) = true then (some (⟨#[112, 111, 115]⟩, ⟨#[110]⟩)) else (if (decide (a0 = 8)) = true then (some (⟨#[114, 112, 111, 115]⟩, ⟨#[110]⟩)) else (if (decide (a0 = 9)) = true then (some (⟨#[116, 97, 98]⟩, ⟨#[110]⟩)) else (if (decide (a0 = 10)) = true then (some (⟨#[114, 116, 97, 98]⟩, ⟨#[110]⟩)) else (if (decide (a0 = 11)) = true then (some (⟨#[114, 101, 109]⟩, ⟨#[]⟩)) else (if (decide (a0 = 12)) = true then (some (⟨#[97, 114, 98]⟩, ⟨#[]⟩)) else (if (decide (a0 = 13)) = true then (some (⟨#[98, 97, 108]⟩, ⟨#[]⟩)) else (if (decide (a0 = 14)) = true then (some (⟨#[102, 101, 110, 99, 101]⟩, ⟨#[]⟩)) else (if (decide (a0 = 15)) = true then (some (⟨#[97, 98, 111, 114, 116]⟩, ⟨#[]⟩)) else (if (decide (a0 = 16)) = true then (some (⟨#[102, 97, 105, 108]⟩, ⟨#[]⟩)) else (if (decide (a0 = 17)) = true then (some (⟨#[115, 117, 99, 99, 101, 101, 100]⟩, ⟨#[]⟩)) else (if (decide (a0 = 18)) = true then (some (⟨#[97, 108, 116]⟩, ⟨#[112, 112]⟩)) else (if (decide (a0 = 19)) = true then (some (⟨#[99, 97, 116]⟩, ⟨#[112, 112]⟩)) else (if (decide (a0 = 20)) = true then (some (⟨#[97, 114, 98, 110, 111]⟩, ⟨#[112]⟩)) else (if (decide (a0 = 21)) = true then (some (⟨#[99, 111, 110, 100]⟩, ⟨#[112, 120]⟩)) else (if (decide (a0 = 22)) = true then (some (⟨#[110, 111, 119]⟩, ⟨#[112, 120]⟩)) else (if (decide (a0 = 23)) = true then (some (⟨#[99, 117, 114, 115, 111, 114]⟩, ⟨#[120]⟩)) else (if (decide (a0 = 24)) = true then (some (⟨#[100, 101, 102, 101, 114]⟩, ⟨#[120]⟩)) else (some (⟨#[]⟩, ⟨#[]⟩)))))))))))))))))))))))))
theorem gr_ (a0 : Int) (r : (ByteArray × ByteArray)) (h : dg_ a0 = some r) : eu_ a0 = some r := by
 unfold dg_ at h
 refine aF_ E_t2_str_str_inj rfl rfl ok_139 rfl (all_cons (by kernel_rfl) all_nil) ?_
 intro σ0 s hS hH
 have hS := aj_ (L' := [(0, i4 a0)]) hS (by kernel_rfl)
 refine ab_ (aa_ ?_)
 refine qs 2 [(0, i4 a0)] hS ?_; intro s hS
 refine ac_ (sq_n (ab_ (ab_ (aa_ ?_))))
 refine qs 1 [(4, i4 a0)] hS ?_; intro s hS
 refine ac_ (sq_n (ax_ (ab_ (aa_ ?_))))
 refine qs 2 [(4, i4 a0), (5, .bool (decide (a0 = 2)))] hS ?_; intro s hS
 refine ac_ (sq_n ?_)
 by_cases hc1 : (decide (a0 = 2)) = true
 ·have h := ai_ hc1 h
  refine ae_ hS rfl (fun _ => ?_) (fun hf => ag_ hc1 hf)
  refine ab_ (aa_ ?_)
  refine qs 2 [(2, .str ⟨#[97, 110, 121]⟩), (3, .str ⟨#[115]⟩)] hS ?_; intro s hS
  refine ac_ (sq_n (al_ (bk_r (sq_r ?_))))
  injection h with h; subst h
  exact am_ hH (ak_ (v := .str ⟨#[97, 110, 121]⟩) hS rfl (ak_ (v := .str ⟨#[115]⟩) hS rfl r_nil)) rfl (by kernel_rfl) (by simp [pureT, pureL, E_t2_str_str])
 ·have h := ah_ hc1 h
  refine ae_ hS rfl (fun hf => af_ hc1 hf) (fun _ => ?_)
  refine ab_ (aa_ ?_)
  refine qs 2 [(4, i4 a0), (7, .bool (decide (a0 = 3)))] hS ?_; intro s hS
  refine ac_ (sq_n ?_)
  by_cases hc2 : (decide (a0 = 3)) = true
  ·have h := ai_ hc2 h
   refine ae_ hS rfl (fun _ => ?_) (fun hf => ag_ hc2 hf)
   refine ab_ (aa_ ?_)
   refine qs 2 [(2, .str ⟨#[110, 111, 116, 97, 110, 121]⟩), (3, .str ⟨#[115]⟩)] hS ?_; intro s hS
   refine ac_ (sq_n (al_ (bk_r (sq_r ?_))))
   injection h with h; subst h
   exact am_ hH (ak_ (v := .str ⟨#[110, 111, 116, 97, 110, 121]⟩) hS rfl (ak_ (v := .str ⟨#[115]⟩) hS rfl r_nil)) rfl (by kernel_rfl) (by simp [pureT, pureL, E_t2_str_str])
  ·have h := ah_ hc2 h
   refine ae_ hS rfl (fun hf => af_ hc2 hf) (fun _ => ?_)
   refine ab_ (aa_ ?_)
   refine qs 2 [(4, i4 a0), (9, .bool (decide (a0 = 4)))] hS ?_; intro s hS
   refine ac_ (sq_n ?_)
   by_cases hc3 : (decide (a0 = 4)) = true
   ·have h := ai_ hc3 h
    refine ae_ hS rfl (fun _ => ?_) (fun hf => ag_ hc3 hf)
    refine ab_ (aa_ ?_)
    refine qs 2 [(2, .str ⟨#[115, 112, 97, 110]⟩), (3, .str ⟨#[115]⟩)] hS ?_; intro s hS
    refine ac_ (sq_n (al_ (bk_r (sq_r ?_))))
    injection h with h; subst h
    exact am_ hH (ak_ (v := .str ⟨#[115, 112, 97, 110]⟩) hS rfl (ak_ (v := .str ⟨#[115]⟩) hS rfl r_nil)) rfl (by kernel_rfl) (by simp [pureT, pureL, E_t2_str_str])
   ·have h := ah_ hc3 h
    refine ae_ hS rfl (fun hf => af_ hc3 hf) (fun _ => ?_)
    refine ab_ (aa_ ?_)
    refine qs 2 [(4, i4 a0), (11, .bool (decide (a0 = 5)))] hS ?_; intro s hS
    refine ac_ (sq_n ?_)
    by_cases hc4 : (decide (a0 = 5)) = true
    ·have h := ai_ hc4 h
     refine ae_ hS rfl (fun _ => ?_) (fun hf => ag_ hc4 hf)
     refine ab_ (aa_ ?_)
     refine qs 2 [(2, .str ⟨#[98, 114, 101, 97, 107]⟩), (3, .str ⟨#[115]⟩)] hS ?_; intro s hS
     refine ac_ (sq_n (al_ (bk_r (sq_r ?_))))
     injection h with h; subst h
     exact am_ hH (ak_ (v := .str ⟨#[98, 114, 101, 97, 107]⟩) hS rfl (ak_ (v := .str ⟨#[115]⟩) hS rfl r_nil)) rfl (by kernel_rfl) (by simp [pureT, pureL, E_t2_str_str])
    ·have h := ah_ hc4 h
     refine ae_ hS rfl (fun hf => af_ hc4 hf) (fun _ => ?_)
     refine ab_ (aa_ ?_)
     refine qs 2 [(4, i4 a0), (13, .bool (decide (a0 = 6)))] hS ?_; intro s hS
     refine ac_ (sq_n ?_)
     by_cases hc5 : (decide (a0 = 6)) = true
     ·have h := ai_ hc5 h
      refine ae_ hS rfl (fun _ => ?_) (fun hf => ag_ hc5 hf)
      refine ab_ (aa_ ?_)
      refine qs 2 [(2, .str ⟨#[108, 101, 110]⟩), (3, .str ⟨#[110]⟩)] hS ?_; intro s hS
      refine ac_ (sq_n (al_ (bk_r (sq_r ?_))))
      injection h with h; subst h
      exact am_ hH (ak_ (v := .str ⟨#[108, 101, 110]⟩) hS rfl (ak_ (v := .str ⟨#[110]⟩) hS rfl r_nil)) rfl (by kernel_rfl) (by simp [pureT, pureL, E_t2_str_str])
     ·have h := ah_ hc5 h
      refine ae_ hS rfl (fun hf => af_ hc5 hf) (fun _ => ?_)
      refine ab_ (aa_ ?_)
      refine qs 2 [(4, i4 a0), (15, .bool (decide (a0 = 7)))] hS ?_; intro s hS
      refine ac_ (sq_n ?_)
      by_cases hc6 : (decide (a0 = 7)) = true
      ·have h := ai_ hc6 h
       refine ae_ hS rfl (fun _ => ?_) (fun hf => ag_ hc6 hf)
       refine ab_ (aa_ ?_)
       refine qs 2 [(2, .str ⟨#[112, 111, 115]⟩), (3, .str ⟨#[110]⟩)] hS ?_; intro s hS
       refine ac_ (sq_n (al_ (bk_r (sq_r ?_))))
       injection h with h; subst h
       exact am_ hH (ak_ (v := .str ⟨#[112, 111, 115]⟩) hS rfl (ak_ (v := .str ⟨#[110]⟩) hS rfl r_nil)) rfl (by kernel_rfl) (by simp [pureT, pureL, E_t2_str_str])
      ·have h := ah_ hc6 h
       refine ae_ hS rfl (fun hf => af_ hc6 hf) (fun _ => ?_)
       refine ab_ (aa_ ?_)
       refine qs 2 [(4, i4 a0), (17, .bool (decide (a0 = 8)))] hS ?_; intro s hS
       refine ac_ (sq_n ?_)
       by_cases hc7 : (decide (a0 = 8)) = true
       ·have h := ai_ hc7 h
        refine ae_ hS rfl (fun _ => ?_) (fun hf => ag_ hc7 hf)
        refine ab_ (aa_ ?_)
        refine qs 2 [(2, .str ⟨#[114, 112, 111, 115]⟩), (3, .str ⟨#[110]⟩)] hS ?_; intro s hS
        refine ac_ (sq_n (al_ (bk_r (sq_r ?_))))
        injection h with h; subst h
        exact am_ hH (ak_ (v := .str ⟨#[114, 112, 111, 115]⟩) hS rfl (ak_ (v := .str ⟨#[110]⟩) hS rfl r_nil)) rfl (by kernel_rfl) (by simp [pureT, pureL, E_t2_str_str])
       ·have h := ah_ hc7 h
        refine ae_ hS rfl (fun hf => af_ hc7 hf) (fun _ => ?_)
        refine ab_ (aa_ ?_)
        refine qs 2 [(4, i4 a0), (19, .bool (decide (a0 = 9)))] hS ?_; intro s hS
        refine ac_ (sq_n ?_)
        by_cases hc8 : (decide (a0 = 9)) = true
        ·have h := ai_ hc8 h
         refine ae_ hS rfl (fun _ => ?_) (fun hf => ag_ hc8 hf)
         refine ab_ (aa_ ?_)
         refine qs 2 [(2, .str ⟨#[116, 97, 98]⟩), (3, .str ⟨#[110]⟩)] hS ?_; intro s hS
         refine ac_ (sq_n (al_ (bk_r (sq_r ?_))))
         injection h with h; subst h
         exact am_ hH (ak_ (v := .str ⟨#[116, 97, 98]⟩) hS rfl (ak_ (v := .str ⟨#[110]⟩) hS rfl r_nil)) rfl (by kernel_rfl) (by simp [pureT, pureL, E_t2_str_str])
        ·have h := ah_ hc8 h
         refine ae_ hS rfl (fun hf => af_ hc8 hf) (fun _ => ?_)
         refine ab_ (aa_ ?_)
         refine qs 2 [(4, i4 a0), (21, .bool (decide (a0 = 10)))] hS ?_; intro s hS
         refine ac_ (sq_n ?_)
         by_cases hc9 : (decide (a0 = 10)) = true
         ·have h := ai_ hc9 h
          refine ae_ hS rfl (fun _ => ?_) (fun hf => ag_ hc9 hf)
          refine ab_ (aa_ ?_)
          refine qs 2 [(2, .str ⟨#[114, 116, 97, 98]⟩), (3, .str ⟨#[110]⟩)] hS ?_; intro s hS
          refine ac_ (sq_n (al_ (bk_r (sq_r ?_))))
          injection h with h; subst h
          exact am_ hH (ak_ (v := .str ⟨#[114, 116, 97, 98]⟩) hS rfl (ak_ (v := .str ⟨#[110]⟩) hS rfl r_nil)) rfl (by kernel_rfl) (by simp [pureT, pureL, E_t2_str_str])
         ·have h := ah_ hc9 h
          refine ae_ hS rfl (fun hf => af_ hc9 hf) (fun _ => ?_)
          refine ab_ (aa_ ?_)
          refine qs 2 [(4, i4 a0), (23, .bool (decide (a0 = 11)))] hS ?_; intro s hS
          refine ac_ (sq_n ?_)
          by_cases hc10 : (decide (a0 = 11)) = true
          ·have h := ai_ hc10 h
           refine ae_ hS rfl (fun _ => ?_) (fun hf => ag_ hc10 hf)
           refine ab_ (aa_ ?_)
           refine qs 2 [(2, .str ⟨#[114, 101, 109]⟩), (3, .str ⟨#[]⟩)] hS ?_; intro s hS
           refine ac_ (sq_n (al_ (bk_r (sq_r ?_))))
           injection h with h; subst h
           exact am_ hH (ak_ (v := .str ⟨#[114, 101, 109]⟩) hS rfl (ak_ (v := .str ⟨#[]⟩) hS rfl r_nil)) rfl (by kernel_rfl) (by simp [pureT, pureL, E_t2_str_str])
          ·have h := ah_ hc10 h
           refine ae_ hS rfl (fun hf => af_ hc10 hf) (fun _ => ?_)
           refine ab_ (aa_ ?_)
           refine qs 2 [(4, i4 a0), (25, .bool (decide (a0 = 12)))] hS ?_; intro s hS
           refine ac_ (sq_n ?_)
           by_cases hc11 : (decide (a0 = 12)) = true
           ·have h := ai_ hc11 h
            refine ae_ hS rfl (fun _ => ?_) (fun hf => ag_ hc11 hf)
            refine ab_ (aa_ ?_)
            refine qs 2 [(2, .str ⟨#[97, 114, 98]⟩), (3, .str ⟨#[]⟩)] hS ?_; intro s hS
            refine ac_ (sq_n (al_ (bk_r (sq_r ?_))))
            injection h with h; subst h
            exact am_ hH (ak_ (v := .str ⟨#[97, 114, 98]⟩) hS rfl (ak_ (v := .str ⟨#[]⟩) hS rfl r_nil)) rfl (by kernel_rfl) (by simp [pureT, pureL, E_t2_str_str])
           ·have h := ah_ hc11 h
            refine ae_ hS rfl (fun hf => af_ hc11 hf) (fun _ => ?_)
            refine ab_ (aa_ ?_)
            refine qs 2 [(4, i4 a0), (27, .bool (decide (a0 = 13)))] hS ?_; intro s hS
            refine ac_ (sq_n ?_)
            by_cases hc12 : (decide (a0 = 13)) = true
            ·have h := ai_ hc12 h
             refine ae_ hS rfl (fun _ => ?_) (fun hf => ag_ hc12 hf)
             refine ab_ (aa_ ?_)
             refine qs 2 [(2, .str ⟨#[98, 97, 108]⟩), (3, .str ⟨#[]⟩)] hS ?_; intro s hS
             refine ac_ (sq_n (al_ (bk_r (sq_r ?_))))
             injection h with h; subst h
             exact am_ hH (ak_ (v := .str ⟨#[98, 97, 108]⟩) hS rfl (ak_ (v := .str ⟨#[]⟩) hS rfl r_nil)) rfl (by kernel_rfl) (by simp [pureT, pureL, E_t2_str_str])
            ·have h := ah_ hc12 h
             refine ae_ hS rfl (fun hf => af_ hc12 hf) (fun _ => ?_)
             refine ab_ (aa_ ?_)
             refine qs 2 [(4, i4 a0), (29, .bool (decide (a0 = 14)))] hS ?_; intro s hS
             refine ac_ (sq_n ?_)
             by_cases hc13 : (decide (a0 = 14)) = true
             ·have h := ai_ hc13 h
              refine ae_ hS rfl (fun _ => ?_) (fun hf => ag_ hc13 hf)
              refine ab_ (aa_ ?_)
              refine qs 2 [(2, .str ⟨#[102, 101, 110, 99, 101]⟩), (3, .str ⟨#[]⟩)] hS ?_; intro s hS
              refine ac_ (sq_n (al_ (bk_r (sq_r ?_))))
              injection h with h; subst h
              exact am_ hH (ak_ (v := .str ⟨#[102, 101, 110, 99, 101]⟩) hS rfl (ak_ (v := .str ⟨#[]⟩) hS rfl r_nil)) rfl (by kernel_rfl) (by simp [pureT, pureL, E_t2_str_str])
             ·have h := ah_ hc13 h
              refine ae_ hS rfl (fun hf => af_ hc13 hf) (fun _ => ?_)
              refine ab_ (aa_ ?_)
              refine qs 2 [(4, i4 a0), (31, .bool (decide (a0 = 15)))] hS ?_; intro s hS
              refine ac_ (sq_n ?_)
              by_cases hc14 : (decide (a0 = 15)) = true
              ·have h := ai_ hc14 h
               refine ae_ hS rfl (fun _ => ?_) (fun hf => ag_ hc14 hf)
               refine ab_ (aa_ ?_)
               refine qs 2 [(2, .str ⟨#[97, 98, 111, 114, 116]⟩), (3, .str ⟨#[]⟩)] hS ?_; intro s hS
               refine ac_ (sq_n (al_ (bk_r (sq_r ?_))))
               injection h with h; subst h
               exact am_ hH (ak_ (v := .str ⟨#[97, 98, 111, 114, 116]⟩) hS rfl (ak_ (v := .str ⟨#[]⟩) hS rfl r_nil)) rfl (by kernel_rfl) (by simp [pureT, pureL, E_t2_str_str])
              ·have h := ah_ hc14 h
               refine ae_ hS rfl (fun hf => af_ hc14 hf) (fun _ => ?_)
               refine ab_ (aa_ ?_)
               refine qs 2 [(4, i4 a0), (33, .bool (decide (a0 = 16)))] hS ?_; intro s hS
               refine ac_ (sq_n ?_)
               by_cases hc15 : (decide (a0 = 16)) = true
               ·have h := ai_ hc15 h
                refine ae_ hS rfl (fun _ => ?_) (fun hf => ag_ hc15 hf)
                refine ab_ (aa_ ?_)
                refine qs 2 [(2, .str ⟨#[102, 97, 105, 108]⟩), (3, .str ⟨#[]⟩)] hS ?_; intro s hS
                refine ac_ (sq_n (al_ (bk_r (sq_r ?_))))
                injection h with h; subst h
                exact am_ hH (ak_ (v := .str ⟨#[102, 97, 105, 108]⟩) hS rfl (ak_ (v := .str ⟨#[]⟩) hS rfl r_nil)) rfl (by kernel_rfl) (by simp [pureT, pureL, E_t2_str_str])
               ·have h := ah_ hc15 h
                refine ae_ hS rfl (fun hf => af_ hc15 hf) (fun _ => ?_)
                refine ab_ (aa_ ?_)
                refine qs 2 [(4, i4 a0), (35, .bool (decide (a0 = 17)))] hS ?_; intro s hS
                refine ac_ (sq_n ?_)
                by_cases hc16 : (decide (a0 = 17)) = true
                ·have h := ai_ hc16 h
                 refine ae_ hS rfl (fun _ => ?_) (fun hf => ag_ hc16 hf)
                 refine ab_ (aa_ ?_)
                 refine qs 2 [(2, .str ⟨#[115, 117, 99, 99, 101, 101, 100]⟩), (3, .str ⟨#[]⟩)] hS ?_; intro s hS
                 refine ac_ (sq_n (al_ (bk_r (sq_r ?_))))
                 injection h with h; subst h
                 exact am_ hH (ak_ (v := .str ⟨#[115, 117, 99, 99, 101, 101, 100]⟩) hS rfl (ak_ (v := .str ⟨#[]⟩) hS rfl r_nil)) rfl (by kernel_rfl) (by simp [pureT, pureL, E_t2_str_str])
                ·have h := ah_ hc16 h
                 refine ae_ hS rfl (fun hf => af_ hc16 hf) (fun _ => ?_)
                 refine ab_ (aa_ ?_)
                 refine qs 2 [(4, i4 a0), (37, .bool (decide (a0 = 18)))] hS ?_; intro s hS
                 refine ac_ (sq_n ?_)
                 by_cases hc17 : (decide (a0 = 18)) = true
                 ·have h := ai_ hc17 h
                  refine ae_ hS rfl (fun _ => ?_) (fun hf => ag_ hc17 hf)
                  refine ab_ (aa_ ?_)
                  refine qs 2 [(2, .str ⟨#[97, 108, 116]⟩), (3, .str ⟨#[112, 112]⟩)] hS ?_; intro s hS
                  refine ac_ (sq_n (al_ (bk_r (sq_r ?_))))
                  injection h with h; subst h
                  exact am_ hH (ak_ (v := .str ⟨#[97, 108, 116]⟩) hS rfl (ak_ (v := .str ⟨#[112, 112]⟩) hS rfl r_nil)) rfl (by kernel_rfl) (by simp [pureT, pureL, E_t2_str_str])
                 ·have h := ah_ hc17 h
                  refine ae_ hS rfl (fun hf => af_ hc17 hf) (fun _ => ?_)
                  refine ab_ (aa_ ?_)
                  refine qs 2 [(4, i4 a0), (39, .bool (decide (a0 = 19)))] hS ?_; intro s hS
                  refine ac_ (sq_n ?_)
                  by_cases hc18 : (decide (a0 = 19)) = true
                  ·have h := ai_ hc18 h
                   refine ae_ hS rfl (fun _ => ?_) (fun hf => ag_ hc18 hf)
                   refine ab_ (aa_ ?_)
                   refine qs 2 [(2, .str ⟨#[99, 97, 116]⟩), (3, .str ⟨#[112, 112]⟩)] hS ?_; intro s hS
                   refine ac_ (sq_n (al_ (bk_r (sq_r ?_))))
                   injection h with h; subst h
                   exact am_ hH (ak_ (v := .str ⟨#[99, 97, 116]⟩) hS rfl (ak_ (v := .str ⟨#[112, 112]⟩) hS rfl r_nil)) rfl (by kernel_rfl) (by simp [pureT, pureL, E_t2_str_str])
                  ·have h := ah_ hc18 h
                   refine ae_ hS rfl (fun hf => af_ hc18 hf) (fun _ => ?_)
                   refine ab_ (aa_ ?_)
                   refine qs 2 [(4, i4 a0), (41, .bool (decide (a0 = 20)))] hS ?_; intro s hS
                   refine ac_ (sq_n ?_)
                   by_cases hc19 : (decide (a0 = 20)) = true
                   ·have h := ai_ hc19 h
                    refine ae_ hS rfl (fun _ => ?_) (fun hf => ag_ hc19 hf)
                    refine ab_ (aa_ ?_)
                    refine qs 2 [(2, .str ⟨#[97, 114, 98, 110, 111]⟩), (3, .str ⟨#[112]⟩)] hS ?_; intro s hS
                    refine ac_ (sq_n (al_ (bk_r (sq_r ?_))))
                    injection h with h; subst h
                    exact am_ hH (ak_ (v := .str ⟨#[97, 114, 98, 110, 111]⟩) hS rfl (ak_ (v := .str ⟨#[112]⟩) hS rfl r_nil)) rfl (by kernel_rfl) (by simp [pureT, pureL, E_t2_str_str])
                   ·have h := ah_ hc19 h
                    refine ae_ hS rfl (fun hf => af_ hc19 hf) (fun _ => ?_)
                    refine ab_ (aa_ ?_)
                    refine qs 2 [(4, i4 a0), (43, .bool (decide (a0 = 21)))] hS ?_; intro s hS
                    refine ac_ (sq_n ?_)
                    by_cases hc20 : (decide (a0 = 21)) = true
                    ·have h := ai_ hc20 h
                     refine ae_ hS rfl (fun _ => ?_) (fun hf => ag_ hc20 hf)
                     refine ab_ (aa_ ?_)
                     refine qs 2 [(2, .str ⟨#[99, 111, 110, 100]⟩), (3, .str ⟨#[112, 120]⟩)] hS ?_; intro s hS
                     refine ac_ (sq_n (al_ (bk_r (sq_r ?_))))
                     injection h with h; subst h
                     exact am_ hH (ak_ (v := .str ⟨#[99, 111, 110, 100]⟩) hS rfl (ak_ (v := .str ⟨#[112, 120]⟩) hS rfl r_nil)) rfl (by kernel_rfl) (by simp [pureT, pureL, E_t2_str_str])
                    ·have h := ah_ hc20 h
                     refine ae_ hS rfl (fun hf => af_ hc20 hf) (fun _ => ?_)
                     refine ab_ (aa_ ?_)
                     refine qs 2 [(4, i4 a0), (45, .bool (decide (a0 = 22)))] hS ?_; intro s hS
                     refine ac_ (sq_n ?_)
                     by_cases hc21 : (decide (a0 = 22)) = true
                     ·have h := ai_ hc21 h
                      refine ae_ hS rfl (fun _ => ?_) (fun hf => ag_ hc21 hf)
                      refine ab_ (aa_ ?_)
                      refine qs 2 [(2, .str ⟨#[110, 111, 119]⟩), (3, .str ⟨#[112, 120]⟩)] hS ?_; intro s hS
                      refine ac_ (sq_n (al_ (bk_r (sq_r ?_))))
                      injection h with h; subst h
                      exact am_ hH (ak_ (v := .str ⟨#[110, 111, 119]⟩) hS rfl (ak_ (v := .str ⟨#[112, 120]⟩) hS rfl r_nil)) rfl (by kernel_rfl) (by simp [pureT, pureL, E_t2_str_str])
                     ·have h := ah_ hc21 h
                      refine ae_ hS rfl (fun hf => af_ hc21 hf) (fun _ => ?_)
                      refine ab_ (aa_ ?_)
                      refine qs 2 [(4, i4 a0), (47, .bool (decide (a0 = 23)))] hS ?_; intro s hS
                      refine ac_ (sq_n ?_)
                      by_cases hc22 : (decide (a0 = 23)) = true
                      ·have h := ai_ hc22 h
                       refine ae_ hS rfl (fun _ => ?_) (fun hf => ag_ hc22 hf)
                       refine ab_ (aa_ ?_)
                       refine qs 2 [(2, .str ⟨#[99, 117, 114, 115, 111, 114]⟩), (3, .str ⟨#[120]⟩)] hS ?_; intro s hS
                       refine ac_ (sq_n (al_ (bk_r (sq_r ?_))))
                       injection h with h; subst h
                       exact am_ hH (ak_ (v := .str ⟨#[99, 117, 114, 115, 111, 114]⟩) hS rfl (ak_ (v := .str ⟨#[120]⟩) hS rfl r_nil)) rfl (by kernel_rfl) (by simp [pureT, pureL, E_t2_str_str])
                      ·have h := ah_ hc22 h
                       refine ae_ hS rfl (fun hf => af_ hc22 hf) (fun _ => ?_)
                       refine ab_ (aa_ ?_)
                       refine qs 2 [(49, .bool (decide (a0 = 24)))] hS ?_; intro s hS
                       refine ac_ (sq_n ?_)
                       by_cases hc23 : (decide (a0 = 24)) = true
                       ·have h := ai_ hc23 h
                        refine ae_ hS rfl (fun _ => ?_) (fun hf => ag_ hc23 hf)
                        refine ab_ (aa_ ?_)
                        refine qs 2 [(2, .str ⟨#[100, 101, 102, 101, 114]⟩), (3, .str ⟨#[120]⟩)] hS ?_; intro s hS
                        refine ac_ (sq_n (al_ (bk_r (sq_r ?_))))
                        injection h with h; subst h
                        exact am_ hH (ak_ (v := .str ⟨#[100, 101, 102, 101, 114]⟩) hS rfl (ak_ (v := .str ⟨#[120]⟩) hS rfl r_nil)) rfl (by kernel_rfl) (by simp [pureT, pureL, E_t2_str_str])
                       ·have h := ah_ hc23 h
                        refine ae_ hS rfl (fun hf => af_ hc23 hf) (fun _ => ?_)
                        refine aq_ (bk_n (sq_n (ab_ (aa_ ?_))))
                        refine qs 2 [(2, .str ⟨#[]⟩), (3, .str ⟨#[]⟩)] hS ?_; intro s hS
                        refine ac_ (sq_n (al_ ?_))
                        injection h with h; subst h
                        exact am_ hH (ak_ (v := .str ⟨#[]⟩) hS rfl (ak_ (v := .str ⟨#[]⟩) hS rfl r_nil)) rfl (by kernel_rfl) (by simp [pureT, pureL, E_t2_str_str])
noncomputable def ch_ (a0 : Int) (a1 : Int) (a2 : ByteArray) : Option Bool := (if (decide (a0 = 1)) = true then (if (decide (a1 = 0)) = true then ((cq_ a2).bind fun y1 => (some y1)) else (some false)) else ((dK_ a0).bind fun y2 => (if y2 = true then (if (decide (a1 = 0)) = true then (if (!decide (a2 = (⟨#[]⟩ : ByteArray))) = true then ((cq_ a2).bind fun y3 => (some y3)) else (some false)) else (some false)) else ((cG_ a0).bind fun y4 => (if y4 = true then (if (decide (a2 = (⟨#[]⟩ : ByteArray))) = true then ((bh_ a1 0 200).bind fun y5 => (some y5)) else (some false)) else ((dn_ a0).bind fun y6 => (if y6 = true then (if (decide (a1 = 0)) = true then ((cM_ a2).bind fun y7 => (some y7)) else (some false)) else ((bD_ a0).bind fun y8 => (if y8 = true then (if (decide (a1 = 0)) = true then (some (decide (a2 = (⟨#[]⟩ : ByteArray)))) else (some false)) else (some false))))))))))
theorem fr_ (a0 : Int) (a1 : Int) (a2 : ByteArray) (r : Bool) (h : ch_ a0 a1 a2 = some r) : cp_ a0 a1 a2 = some r := by
 unfold ch_ at h
 refine aF_ E_bool_inj rfl rfl ok_140 rfl (all_cons (by kernel_rfl) (all_cons (by kernel_rfl) (all_cons (by kernel_rfl) all_nil))) ?_
 intro σ0 s hS hH
 have hS := aj_ (L' := [(0, i4 a0), (1, i4 a1), (2, .str a2)]) hS (by kernel_rfl)
 refine ab_ (aa_ ?_)
 refine qs 1 [(0, i4 a0), (1, i4 a1), (2, .str a2)] hS ?_; intro s hS
 refine ac_ (sq_n (ab_ (ax_ (ab_ (aa_ ?_)))))
 refine qs 3 [(0, i4 a0), (1, i4 a1), (2, .str a2), (7, .bool (decide (a0 = 1)))] hS ?_; intro s hS
 refine ac_ (sq_n ?_)
 by_cases hc1 : (decide (a0 = 1)) = true
 ·have h := ai_ hc1 h
  refine ae_ hS rfl (fun _ => ?_) (fun hf => ag_ hc1 hf)
  refine ab_ (aa_ ?_)
  refine qs 3 [(12, .bool (decide (a1 = 0))), (2, .str a2)] hS ?_; intro s hS
  by_cases hc2 : (decide (a1 = 0)) = true
  ·have h := ai_ hc2 h
   have hS := ao_ hS hc2
   refine qs 1 [(12, .bool true), (13, .str a2)] hS ?_; intro s hS
   obtain ⟨y1, hy1, h⟩ := bind_some h
   refine aw_ (a := []) (b := []) (xs := [.str a2]) rfl hS rfl rfl hy1 ?_; intro s hS
   refine qs 2 [(6, .bool y1)] hS ?_; intro s hS
   refine ac_ (sq_n (al_ (bk_r (sq_r ?_))))
   injection h with h; subst h
   exact am_ hH (ak_ (v := .bool y1) hS rfl r_nil) rfl (by kernel_rfl) (by simp [pureT, pureL, E_bool])
  ·have h := ah_ hc2 h
   have hS := ao_ hS (aY_ hc2)
   refine qs 4 [(6, .bool false)] hS ?_; intro s hS
   refine ac_ (sq_n (al_ (bk_r (sq_r ?_))))
   injection h with h; subst h
   exact am_ hH (ak_ (v := .bool false) hS rfl r_nil) rfl (by kernel_rfl) (by simp [pureT, pureL, E_bool])
 ·have h := ah_ hc1 h
  refine ae_ hS rfl (fun hf => af_ hc1 hf) (fun _ => ?_)
  refine ab_ (aa_ ?_)
  refine qs 1 [(0, i4 a0), (1, i4 a1), (2, .str a2), (17, i4 a0)] hS ?_; intro s hS
  obtain ⟨y2, hy2, h⟩ := bind_some h
  refine aw_ (a := []) (b := []) (xs := [i4 a0]) rfl hS rfl rfl hy2 ?_; intro s hS
  refine qs 1 [(0, i4 a0), (1, i4 a1), (2, .str a2), (16, .bool y2)] hS ?_; intro s hS
  refine ac_ (sq_n ?_)
  by_cases hc3 : y2 = true
  ·have h := ai_ hc3 h
   refine ae_ hS rfl (fun _ => ?_) (fun hf => ag_ hc3 hf)
   refine ab_ (aa_ ?_)
   refine qs 3 [(21, .bool (decide (a1 = 0))), (2, .str a2)] hS ?_; intro s hS
   by_cases hc4 : (decide (a1 = 0)) = true
   ·have h := ai_ hc4 h
    have hS := ao_ hS hc4
    refine qs 4 [(25, .bool (!decide (a2 = (⟨#[]⟩ : ByteArray)))), (2, .str a2)] hS ?_; intro s hS
    by_cases hc5 : (!decide (a2 = (⟨#[]⟩ : ByteArray))) = true
    ·have h := ai_ hc5 h
     have hS := ao_ hS hc5
     refine qs 1 [(25, .bool true), (26, .str a2)] hS ?_; intro s hS
     obtain ⟨y3, hy3, h⟩ := bind_some h
     refine aw_ (a := []) (b := []) (xs := [.str a2]) rfl hS rfl rfl hy3 ?_; intro s hS
     refine qs 2 [(6, .bool y3)] hS ?_; intro s hS
     refine ac_ (sq_n (al_ (bk_r (sq_r ?_))))
     injection h with h; subst h
     exact am_ hH (ak_ (v := .bool y3) hS rfl r_nil) rfl (by kernel_rfl) (by simp [pureT, pureL, E_bool])
    ·have h := ah_ hc5 h
     have hS := ao_ hS (aY_ hc5)
     refine qs 4 [(6, .bool false)] hS ?_; intro s hS
     refine ac_ (sq_n (al_ (bk_r (sq_r ?_))))
     injection h with h; subst h
     exact am_ hH (ak_ (v := .bool false) hS rfl r_nil) rfl (by kernel_rfl) (by simp [pureT, pureL, E_bool])
   ·have h := ah_ hc4 h
    have hS := ao_ hS (aY_ hc4)
    refine qs 8 [(6, .bool false)] hS ?_; intro s hS
    refine ac_ (sq_n (al_ (bk_r (sq_r ?_))))
    injection h with h; subst h
    exact am_ hH (ak_ (v := .bool false) hS rfl r_nil) rfl (by kernel_rfl) (by simp [pureT, pureL, E_bool])
  ·have h := ah_ hc3 h
   refine ae_ hS rfl (fun hf => af_ hc3 hf) (fun _ => ?_)
   refine ab_ (aa_ ?_)
   refine qs 1 [(0, i4 a0), (1, i4 a1), (2, .str a2), (30, i4 a0)] hS ?_; intro s hS
   obtain ⟨y4, hy4, h⟩ := bind_some h
   refine aw_ (a := []) (b := []) (xs := [i4 a0]) rfl hS rfl rfl hy4 ?_; intro s hS
   refine qs 1 [(0, i4 a0), (1, i4 a1), (2, .str a2), (29, .bool y4)] hS ?_; intro s hS
   refine ac_ (sq_n ?_)
   by_cases hc6 : y4 = true
   ·have h := ai_ hc6 h
    refine ae_ hS rfl (fun _ => ?_) (fun hf => ag_ hc6 hf)
    refine ab_ (aa_ ?_)
    refine qs 3 [(34, .bool (decide (a2 = (⟨#[]⟩ : ByteArray)))), (1, i4 a1)] hS ?_; intro s hS
    by_cases hc7 : (decide (a2 = (⟨#[]⟩ : ByteArray))) = true
    ·have h := ai_ hc7 h
     have hS := ao_ hS hc7
     refine qs 1 [(34, .bool true), (35, i4 a1)] hS ?_; intro s hS
     obtain ⟨y5, hy5, h⟩ := bind_some h
     refine aw_ (a := []) (b := []) (xs := [i4 a1, i4 0, i4 200]) rfl hS rfl rfl hy5 ?_; intro s hS
     refine qs 2 [(6, .bool y5)] hS ?_; intro s hS
     refine ac_ (sq_n (al_ (bk_r (sq_r ?_))))
     injection h with h; subst h
     exact am_ hH (ak_ (v := .bool y5) hS rfl r_nil) rfl (by kernel_rfl) (by simp [pureT, pureL, E_bool])
    ·have h := ah_ hc7 h
     have hS := ao_ hS (aY_ hc7)
     refine qs 4 [(6, .bool false)] hS ?_; intro s hS
     refine ac_ (sq_n (al_ (bk_r (sq_r ?_))))
     injection h with h; subst h
     exact am_ hH (ak_ (v := .bool false) hS rfl r_nil) rfl (by kernel_rfl) (by simp [pureT, pureL, E_bool])
   ·have h := ah_ hc6 h
    refine ae_ hS rfl (fun hf => af_ hc6 hf) (fun _ => ?_)
    refine ab_ (aa_ ?_)
    refine qs 1 [(0, i4 a0), (1, i4 a1), (2, .str a2), (39, i4 a0)] hS ?_; intro s hS
    obtain ⟨y6, hy6, h⟩ := bind_some h
    refine aw_ (a := []) (b := []) (xs := [i4 a0]) rfl hS rfl rfl hy6 ?_; intro s hS
    refine qs 1 [(0, i4 a0), (1, i4 a1), (2, .str a2), (38, .bool y6)] hS ?_; intro s hS
    refine ac_ (sq_n ?_)
    by_cases hc8 : y6 = true
    ·have h := ai_ hc8 h
     refine ae_ hS rfl (fun _ => ?_) (fun hf => ag_ hc8 hf)
     refine ab_ (aa_ ?_)
     refine qs 3 [(43, .bool (decide (a1 = 0))), (2, .str a2)] hS ?_; intro s hS
     by_cases hc9 : (decide (a1 = 0)) = true
     ·have h := ai_ hc9 h
      have hS := ao_ hS hc9
      refine qs 1 [(43, .bool true), (44, .str a2)] hS ?_; intro s hS
      obtain ⟨y7, hy7, h⟩ := bind_some h
      refine aw_ (a := []) (b := []) (xs := [.str a2]) rfl hS rfl rfl hy7 ?_; intro s hS
      refine qs 2 [(6, .bool y7)] hS ?_; intro s hS
      refine ac_ (sq_n (al_ (bk_r (sq_r ?_))))
      injection h with h; subst h
      exact am_ hH (ak_ (v := .bool y7) hS rfl r_nil) rfl (by kernel_rfl) (by simp [pureT, pureL, E_bool])
     ·have h := ah_ hc9 h
      have hS := ao_ hS (aY_ hc9)
      refine qs 4 [(6, .bool false)] hS ?_; intro s hS
      refine ac_ (sq_n (al_ (bk_r (sq_r ?_))))
      injection h with h; subst h
      exact am_ hH (ak_ (v := .bool false) hS rfl r_nil) rfl (by kernel_rfl) (by simp [pureT, pureL, E_bool])
    ·have h := ah_ hc8 h
     refine ae_ hS rfl (fun hf => af_ hc8 hf) (fun _ => ?_)
     refine aq_ (bk_n (sq_n (ab_ (aa_ ?_))))
     refine qs 1 [(1, i4 a1), (2, .str a2), (47, i4 a0)] hS ?_; intro s hS
     obtain ⟨y8, hy8, h⟩ := bind_some h
     refine aw_ (a := []) (b := []) (xs := [i4 a0]) rfl hS rfl rfl hy8 ?_; intro s hS
     refine qs 1 [(49, .bool y8), (1, i4 a1), (2, .str a2)] hS ?_; intro s hS
     by_cases hc10 : y8 = true
     ·have h := ai_ hc10 h
      have hS := ao_ hS hc10
      refine qs 4 [(53, .bool (decide (a1 = 0))), (2, .str a2)] hS ?_; intro s hS
      by_cases hc11 : (decide (a1 = 0)) = true
      ·have h := ai_ hc11 h
       have hS := ao_ hS hc11
       refine qs 4 [(6, .bool (decide (a2 = (⟨#[]⟩ : ByteArray))))] hS ?_; intro s hS
       refine ac_ (sq_n (al_ ?_))
       injection h with h; subst h
       exact am_ hH (ak_ (v := .bool (decide (a2 = (⟨#[]⟩ : ByteArray)))) hS rfl r_nil) rfl (by kernel_rfl) (by simp [pureT, pureL, E_bool])
      ·have h := ah_ hc11 h
       have hS := ao_ hS (aY_ hc11)
       refine qs 4 [(6, .bool false)] hS ?_; intro s hS
       refine ac_ (sq_n (al_ ?_))
       injection h with h; subst h
       exact am_ hH (ak_ (v := .bool false) hS rfl r_nil) rfl (by kernel_rfl) (by simp [pureT, pureL, E_bool])
     ·have h := ah_ hc10 h
      have hS := ao_ hS (aY_ hc10)
      refine qs 8 [(6, .bool false)] hS ?_; intro s hS
      refine ac_ (sq_n (al_ ?_))
      injection h with h; subst h
      exact am_ hH (ak_ (v := .bool false) hS rfl r_nil) rfl (by kernel_rfl) (by simp [pureT, pureL, E_bool])
noncomputable def dN_ (a0 : Int) : Option Int := (((if (decide (a0 = 18)) = true then (some (decide (a0 = 18))) else (some (decide (a0 = 19)))) : Option Bool).bind fun y1 => (if y1 = true then (some 2) else (((if (decide (a0 = 20)) = true then (some (decide (a0 = 20))) else (if (decide (a0 = 21)) = true then (some (decide (a0 = 21))) else (some (decide (a0 = 22))))) : Option Bool).bind fun y2 => (if y2 = true then (some 1) else (some 0)))))
theorem hj_ (a0 : Int) (r : Int) (h : dN_ a0 = some r) : dH_ a0 = some r := by
 unfold dN_ at h
 refine aF_ E_i64_inj rfl rfl ok_141 rfl (all_cons (by kernel_rfl) all_nil) ?_
 intro σ0 s hS hH
 have hS := aj_ (L' := [(0, i4 a0)]) hS (by kernel_rfl)
 refine ab_ (aa_ ?_)
 refine qs 1 [(0, i4 a0)] hS ?_; intro s hS
 refine ac_ (sq_n (ab_ (ab_ (aa_ ?_))))
 refine qs 1 [(3, i4 a0)] hS ?_; intro s hS
 refine ac_ (sq_n (ax_ (ab_ (ab_ (aa_ ?_)))))
 refine qs 2 [(3, i4 a0), (4, .bool (decide (a0 = 18)))] hS ?_; intro s hS
 refine ac_ (sq_n ?_)
 obtain ⟨y1, hy1, h⟩ := bind_some h
 refine codeQ_mono (Q := fun e fr => e = .normal ∧ Sub [(3, i4 a0), (4, .bool y1)] fr.s ∧ Heap σ0 fr.σ []) ?_ ?_
 ·intro e fr HF; obtain ⟨s, σ⟩ := fr
  obtain ⟨rfl, hS, hH⟩ := HF
  refine sq_n ?_
  by_cases hc1 : y1 = true
  ·have h := ai_ hc1 h
   refine ae_ hS rfl (fun _ => ?_) (fun hf => ag_ hc1 hf)
   refine ab_ (aa_ ?_)
   refine qs 1 [(2, i4 2)] hS ?_; intro s hS
   refine ac_ (sq_n (al_ (bk_r (sq_r ?_))))
   injection h with h; subst h
   exact am_ hH (ak_ (v := i4 2) hS rfl r_nil) rfl (by kernel_rfl) (by simp [pureT, pureL, E_i64])
  ·have h := ah_ hc1 h
   refine ae_ hS rfl (fun hf => af_ hc1 hf) (fun _ => ?_)
   refine ab_ (ab_ (aa_ ?_))
   refine qs 2 [(3, i4 a0), (7, .bool (decide (a0 = 20)))] hS ?_; intro s hS
   refine ac_ (sq_n ?_)
   obtain ⟨y2, hy2, h⟩ := bind_some h
   refine codeQ_mono (Q := fun e fr => e = .normal ∧ Sub [(7, .bool y2)] fr.s ∧ Heap σ0 fr.σ []) ?_ ?_
   ·intro e fr HF; obtain ⟨s, σ⟩ := fr
    obtain ⟨rfl, hS, hH⟩ := HF
    refine sq_n ?_
    by_cases hc2 : y2 = true
    ·have h := ai_ hc2 h
     refine ae_ hS rfl (fun _ => ?_) (fun hf => ag_ hc2 hf)
     refine ab_ (aa_ ?_)
     refine qs 1 [(2, i4 1)] hS ?_; intro s hS
     refine ac_ (sq_n (al_ (bk_r (sq_r ?_))))
     injection h with h; subst h
     exact am_ hH (ak_ (v := i4 1) hS rfl r_nil) rfl (by kernel_rfl) (by simp [pureT, pureL, E_i64])
    ·have h := ah_ hc2 h
     refine ae_ hS rfl (fun hf => af_ hc2 hf) (fun _ => ?_)
     refine aq_ (bk_n (sq_n (ab_ (aa_ ?_))))
     refine qs 1 [(2, i4 0)] hS ?_; intro s hS
     refine ac_ (sq_n (al_ ?_))
     injection h with h; subst h
     exact am_ hH (ak_ (v := i4 0) hS rfl r_nil) rfl (by kernel_rfl) (by simp [pureT, pureL, E_i64])
   ·clear h; have h := hy2
    by_cases hc3 : (decide (a0 = 20)) = true
    ·have h := ai_ hc3 h
     refine ae_ hS rfl (fun _ => ?_) (fun hf => ag_ hc3 hf)
     refine aq_ ?_
     injection h with h; subst h
     exact And.intro rfl (And.intro (aj_ hS (by kernel_rfl)) hH)
    ·have h := ah_ hc3 h
     refine ae_ hS rfl (fun hf => af_ hc3 hf) (fun _ => ?_)
     refine ab_ (aa_ ?_)
     refine qs 2 [(3, i4 a0), (7, .bool (decide (a0 = 21)))] hS ?_; intro s hS
     refine ac_ (sq_n ?_)
     by_cases hc4 : (decide (a0 = 21)) = true
     ·have h := ai_ hc4 h
      refine ae_ hS rfl (fun _ => ?_) (fun hf => ag_ hc4 hf)
      refine aq_ ?_
      injection h with h; subst h
      exact And.intro rfl (And.intro (aj_ hS (by kernel_rfl)) hH)
     ·have h := ah_ hc4 h
      refine ae_ hS rfl (fun hf => af_ hc4 hf) (fun _ => ?_)
      refine aa_ ?_
      refine qs 2 [(7, .bool (decide (a0 = 22)))] hS ?_; intro s hS
      refine ac_ ?_
      injection h with h; subst h
      exact And.intro rfl (And.intro (aj_ hS (by kernel_rfl)) hH)
 ·clear h; have h := hy1
  by_cases hc5 : (decide (a0 = 18)) = true
  ·have h := ai_ hc5 h
   refine ae_ hS rfl (fun _ => ?_) (fun hf => ag_ hc5 hf)
   refine aq_ ?_
   injection h with h; subst h
   exact And.intro rfl (And.intro (aj_ hS (by kernel_rfl)) hH)
  ·have h := ah_ hc5 h
   refine ae_ hS rfl (fun hf => af_ hc5 hf) (fun _ => ?_)
   refine aa_ ?_
   refine qs 2 [(3, i4 a0), (4, .bool (decide (a0 = 19)))] hS ?_; intro s hS
   refine ac_ ?_
   injection h with h; subst h
   exact And.intro rfl (And.intro (aj_ hS (by kernel_rfl)) hH)
noncomputable def dU_ (a0 : Int) : Option Bool := (if (decide (65 ≤ a0)) = true then (if (decide (a0 ≤ 90)) = true then (some true) else (if (decide (97 ≤ a0)) = true then (some (decide (a0 ≤ 122))) else (some false))) else (if (decide (97 ≤ a0)) = true then (some (decide (a0 ≤ 122))) else (some false)))
theorem fA_ (a0 : Int) (r : Bool) (h : dU_ a0 = some r) : bj_ a0 = some r := by
 unfold dU_ at h
 refine aF_ E_bool_inj rfl rfl ok_158 rfl (all_cons (by kernel_rfl) all_nil) ?_
 intro σ0 s hS hH
 have hS := aj_ (L' := [(0, .int .u8 a0)]) hS (by kernel_rfl)
 refine ab_ (aa_ ?_)
 refine qs 1 [(0, .int .u8 a0)] hS ?_; intro s hS
 refine ac_ (sq_n (ab_ (aa_ ?_)))
 refine qs 3 [(5, .bool (decide (65 ≤ a0))), (0, .int .u8 a0)] hS ?_; intro s hS
 by_cases hc1 : (decide (65 ≤ a0)) = true
 ·have h := ai_ hc1 h
  have hS := ao_ hS hc1
  refine qs 4 [(9, .bool (decide (a0 ≤ 90))), (0, .int .u8 a0)] hS ?_; intro s hS
  by_cases hc2 : (decide (a0 ≤ 90)) = true
  ·have h := ai_ hc2 h
   have hS := ao_ hS hc2
   refine qs 8 [(2, .bool true)] hS ?_; intro s hS
   refine ac_ (sq_n (al_ ?_))
   injection h with h; subst h
   exact am_ hH (ak_ (v := .bool true) hS rfl r_nil) rfl (by kernel_rfl) (by simp [pureT, pureL, E_bool])
  ·have h := ah_ hc2 h
   have hS := ao_ hS (aY_ hc2)
   refine qs 3 [(12, .bool (decide (97 ≤ a0))), (0, .int .u8 a0), (9, .bool false)] hS ?_; intro s hS
   by_cases hc3 : (decide (97 ≤ a0)) = true
   ·have h := ai_ hc3 h
    have hS := ao_ hS hc3
    refine qs 5 [(2, .bool (decide (a0 ≤ 122)))] hS ?_; intro s hS
    refine ac_ (sq_n (al_ ?_))
    injection h with h; subst h
    exact am_ hH (ak_ (v := .bool (decide (a0 ≤ 122))) hS rfl r_nil) rfl (by kernel_rfl) (by simp [pureT, pureL, E_bool])
   ·have h := ah_ hc3 h
    have hS := ao_ hS (aY_ hc3)
    refine qs 5 [(2, .bool false)] hS ?_; intro s hS
    refine ac_ (sq_n (al_ ?_))
    injection h with h; subst h
    exact am_ hH (ak_ (v := .bool false) hS rfl r_nil) rfl (by kernel_rfl) (by simp [pureT, pureL, E_bool])
 ·have h := ah_ hc1 h
  have hS := ao_ hS (aY_ hc1)
  refine qs 7 [(12, .bool (decide (97 ≤ a0))), (0, .int .u8 a0), (9, .bool false)] hS ?_; intro s hS
  by_cases hc4 : (decide (97 ≤ a0)) = true
  ·have h := ai_ hc4 h
   have hS := ao_ hS hc4
   refine qs 5 [(2, .bool (decide (a0 ≤ 122)))] hS ?_; intro s hS
   refine ac_ (sq_n (al_ ?_))
   injection h with h; subst h
   exact am_ hH (ak_ (v := .bool (decide (a0 ≤ 122))) hS rfl r_nil) rfl (by kernel_rfl) (by simp [pureT, pureL, E_bool])
  ·have h := ah_ hc4 h
   have hS := ao_ hS (aY_ hc4)
   refine qs 5 [(2, .bool false)] hS ?_; intro s hS
   refine ac_ (sq_n (al_ ?_))
   injection h with h; subst h
   exact am_ hH (ak_ (v := .bool false) hS rfl r_nil) rfl (by kernel_rfl) (by simp [pureT, pureL, E_bool])
noncomputable def d2_ (a0 : Int) : Option Bool := (if (decide (48 ≤ a0)) = true then (some (decide (a0 ≤ 57))) else (some false))
theorem fQ_ (a0 : Int) (r : Bool) (h : d2_ a0 = some r) : bZ_ a0 = some r := by
 unfold d2_ at h
 refine aF_ E_bool_inj rfl rfl ok_159 rfl (all_cons (by kernel_rfl) all_nil) ?_
 intro σ0 s hS hH
 have hS := aj_ (L' := [(0, .int .u8 a0)]) hS (by kernel_rfl)
 refine ab_ (aa_ ?_)
 refine qs 1 [(0, .int .u8 a0)] hS ?_; intro s hS
 refine ac_ (sq_n (ab_ (aa_ ?_)))
 refine qs 3 [(5, .bool (decide (48 ≤ a0))), (0, .int .u8 a0)] hS ?_; intro s hS
 by_cases hc1 : (decide (48 ≤ a0)) = true
 ·have h := ai_ hc1 h
  have hS := ao_ hS hc1
  refine qs 4 [(2, .bool (decide (a0 ≤ 57)))] hS ?_; intro s hS
  refine ac_ (sq_n (al_ ?_))
  injection h with h; subst h
  exact am_ hH (ak_ (v := .bool (decide (a0 ≤ 57))) hS rfl r_nil) rfl (by kernel_rfl) (by simp [pureT, pureL, E_bool])
 ·have h := ah_ hc1 h
  have hS := ao_ hS (aY_ hc1)
  refine qs 4 [(2, .bool false)] hS ?_; intro s hS
  refine ac_ (sq_n (al_ ?_))
  injection h with h; subst h
  exact am_ hH (ak_ (v := .bool false) hS rfl r_nil) rfl (by kernel_rfl) (by simp [pureT, pureL, E_bool])
noncomputable def es_ (a0 : Int) : Option Bool := (if (decide (48 ≤ a0)) = true then (some (decide (a0 ≤ 57))) else (some false))
theorem gm_ (a0 : Int) (r : Bool) (h : es_ a0 = some r) : dj_ a0 = some r := by
 unfold es_ at h
 refine aF_ E_bool_inj rfl rfl ok_160 rfl (all_cons (by kernel_rfl) all_nil) ?_
 intro σ0 s hS hH
 have hS := aj_ (L' := [(0, .int .u8 a0)]) hS (by kernel_rfl)
 refine ab_ (aa_ ?_)
 refine qs 1 [(0, .int .u8 a0)] hS ?_; intro s hS
 refine ac_ (sq_n (ab_ (aa_ ?_)))
 refine qs 3 [(5, .bool (decide (48 ≤ a0))), (0, .int .u8 a0)] hS ?_; intro s hS
 by_cases hc1 : (decide (48 ≤ a0)) = true
 ·have h := ai_ hc1 h
  have hS := ao_ hS hc1
  refine qs 4 [(2, .bool (decide (a0 ≤ 57)))] hS ?_; intro s hS
  refine ac_ (sq_n (al_ ?_))
  injection h with h; subst h
  exact am_ hH (ak_ (v := .bool (decide (a0 ≤ 57))) hS rfl r_nil) rfl (by kernel_rfl) (by simp [pureT, pureL, E_bool])
 ·have h := ah_ hc1 h
  have hS := ao_ hS (aY_ hc1)
  refine qs 4 [(2, .bool false)] hS ?_; intro s hS
  refine ac_ (sq_n (al_ ?_))
  injection h with h; subst h
  exact am_ hH (ak_ (v := .bool false) hS rfl r_nil) rfl (by kernel_rfl) (by simp [pureT, pureL, E_bool])
noncomputable def dI_ (a0 : Int) : Option Bool := ((bh_ a0 2 5).bind fun y1 => (some y1))
theorem g4_ (a0 : Int) (r : Bool) (h : dI_ a0 = some r) : dK_ a0 = some r := by
 unfold dI_ at h
 refine aF_ E_bool_inj rfl rfl ok_161 rfl (all_cons (by kernel_rfl) all_nil) ?_
 intro σ0 s hS hH
 have hS := aj_ (L' := [(0, i4 a0)]) hS (by kernel_rfl)
 refine ab_ (aa_ ?_)
 refine qs 1 [(0, i4 a0)] hS ?_; intro s hS
 refine ac_ (sq_n (ab_ (aa_ ?_)))
 refine qs 1 [(3, i4 a0)] hS ?_; intro s hS
 obtain ⟨y1, hy1, h⟩ := bind_some h
 refine aw_ (a := []) (b := []) (xs := [i4 a0, i4 2, i4 5]) rfl hS rfl rfl hy1 ?_; intro s hS
 refine qs 1 [(2, .bool y1)] hS ?_; intro s hS
 refine ac_ (sq_n (al_ ?_))
 injection h with h; subst h
 exact am_ hH (ak_ (v := .bool y1) hS rfl r_nil) rfl (by kernel_rfl) (by simp [pureT, pureL, E_bool])
noncomputable def cD_ (a0 : Int) : Option Bool := ((bh_ a0 6 10).bind fun y1 => (some y1))
theorem fw_ (a0 : Int) (r : Bool) (h : cD_ a0 = some r) : cG_ a0 = some r := by
 unfold cD_ at h
 refine aF_ E_bool_inj rfl rfl ok_162 rfl (all_cons (by kernel_rfl) all_nil) ?_
 intro σ0 s hS hH
 have hS := aj_ (L' := [(0, i4 a0)]) hS (by kernel_rfl)
 refine ab_ (aa_ ?_)
 refine qs 1 [(0, i4 a0)] hS ?_; intro s hS
 refine ac_ (sq_n (ab_ (aa_ ?_)))
 refine qs 1 [(3, i4 a0)] hS ?_; intro s hS
 obtain ⟨y1, hy1, h⟩ := bind_some h
 refine aw_ (a := []) (b := []) (xs := [i4 a0, i4 6, i4 10]) rfl hS rfl rfl hy1 ?_; intro s hS
 refine qs 1 [(2, .bool y1)] hS ?_; intro s hS
 refine ac_ (sq_n (al_ ?_))
 injection h with h; subst h
 exact am_ hH (ak_ (v := .bool y1) hS rfl r_nil) rfl (by kernel_rfl) (by simp [pureT, pureL, E_bool])
noncomputable def dq_ (a0 : Int) : Option Bool := ((bh_ a0 21 24).bind fun y1 => (some y1))
theorem gl_ (a0 : Int) (r : Bool) (h : dq_ a0 = some r) : dn_ a0 = some r := by
 unfold dq_ at h
 refine aF_ E_bool_inj rfl rfl ok_163 rfl (all_cons (by kernel_rfl) all_nil) ?_
 intro σ0 s hS hH
 have hS := aj_ (L' := [(0, i4 a0)]) hS (by kernel_rfl)
 refine ab_ (aa_ ?_)
 refine qs 1 [(0, i4 a0)] hS ?_; intro s hS
 refine ac_ (sq_n (ab_ (aa_ ?_)))
 refine qs 1 [(3, i4 a0)] hS ?_; intro s hS
 obtain ⟨y1, hy1, h⟩ := bind_some h
 refine aw_ (a := []) (b := []) (xs := [i4 a0, i4 21, i4 24]) rfl hS rfl rfl hy1 ?_; intro s hS
 refine qs 1 [(2, .bool y1)] hS ?_; intro s hS
 refine ac_ (sq_n (al_ ?_))
 injection h with h; subst h
 exact am_ hH (ak_ (v := .bool y1) hS rfl r_nil) rfl (by kernel_rfl) (by simp [pureT, pureL, E_bool])
noncomputable def bB_ (a0 : Int) : Option Bool := ((bh_ a0 1 24).bind fun y1 => (some y1))
theorem eq_ (a0 : Int) (r : Bool) (h : bB_ a0 = some r) : bD_ a0 = some r := by
 unfold bB_ at h
 refine aF_ E_bool_inj rfl rfl ok_164 rfl (all_cons (by kernel_rfl) all_nil) ?_
 intro σ0 s hS hH
 have hS := aj_ (L' := [(0, i4 a0)]) hS (by kernel_rfl)
 refine ab_ (aa_ ?_)
 refine qs 1 [(0, i4 a0)] hS ?_; intro s hS
 refine ac_ (sq_n (ab_ (aa_ ?_)))
 refine qs 1 [(3, i4 a0)] hS ?_; intro s hS
 obtain ⟨y1, hy1, h⟩ := bind_some h
 refine aw_ (a := []) (b := []) (xs := [i4 a0, i4 1, i4 24]) rfl hS rfl rfl hy1 ?_; intro s hS
 refine qs 1 [(2, .bool y1)] hS ?_; intro s hS
 refine ac_ (sq_n (al_ ?_))
 injection h with h; subst h
 exact am_ hH (ak_ (v := .bool y1) hS rfl r_nil) rfl (by kernel_rfl) (by simp [pureT, pureL, E_bool])
end Go.Am
