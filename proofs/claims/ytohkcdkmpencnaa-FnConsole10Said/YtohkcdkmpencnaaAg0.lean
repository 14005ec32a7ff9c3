/- Functions of the program. -/
import Derived.Test.YtohkcdkmpencnaaAd0
set_option maxRecDepth 100000
set_option maxHeartbeats 4000000
set_option linter.unusedVariables false
set_option linter.unusedSimpArgs false
namespace Go.Am
open Go.Proofs
noncomputable def bH_ (a0 : (Sl (Iv .u8))) : Option Bool := ((cA_ a0).bind fun y1 => (if y1 = true then (some true) else ((bt_ a0).bind fun y2 => ((aM_ y2).bind fun y3 => (if (!y3) = true then (some true) else ((subS y2.Input y2.At (y2.Input.l.length : Int)).bind fun y4 => ((appS 16 (⟨false, []⟩ : Sl ByteArray) y4).bind fun y5 => ((appS 16 (⟨false, []⟩ : Sl ByteArray) y2.Output).bind fun y6 => ((aW_ (S := (Int × (Sl ByteArray) × Int × (Sl ByteArray) × (Sl ak_) × (Sl ByteArray) × (Sl ByteArray))) (R := (((Sl ByteArray) × Int × (Sl ByteArray) × (Sl ak_) × (Sl ByteArray) × (Sl ByteArray)) ⊕ Bool)) (fun st1 => (if (decide (st1.1 < (y5.l.length : Int))) = true then ((aN_ (⟨st1.2.1, st1.2.2.1, st1.2.2.2.1, st1.2.2.2.2.1, st1.2.2.2.2.2.1⟩ : aa_)).bind fun y8 => (if (!y8.2.2) = true then (some (.inr (.inr false))) else ((elt y5 st1.1).bind fun y9 => (if (!decide (y8.2.1 = y9)) = true then (some (.inr (.inr false))) else ((bl_ y8.1 y8.2.1).bind fun y10 => (if (decide (y10.2 = 0)) = true then ((appS 16 st1.2.2.2.2.2.2 (⟨false, [y8.2.1]⟩ : Sl ByteArray)).bind fun y11 => (some (.inl ((w4 (st1.1 + 1)), y10.1.Input, y10.1.At, y10.1.Output, y10.1.Files, y10.1.Trace, y11)))) else (some (.inl ((w4 (st1.1 + 1)), y8.1.Input, y8.1.At, y8.1.Output, y8.1.Files, y8.1.Trace, st1.2.2.2.2.2.2))))))))) else (some (.inr (.inl (st1.2.1, st1.2.2.1, st1.2.2.2.1, st1.2.2.2.2.1, st1.2.2.2.2.2.1, st1.2.2.2.2.2.2)))))) (0, y2.Input, y2.At, y2.Output, y2.Files, y2.Trace, y6)).bind fun y7 => (Sum.elim (fun y7 => ((aN_ (⟨y7.1, y7.2.1, y7.2.2.1, y7.2.2.2.1, y7.2.2.2.2.1⟩ : aa_)).bind fun y12 => (if (!y12.2.2) = true then ((bL_ y7.2.2.1 y7.2.2.2.2.2).bind fun y13 => (if y13 = true then ((aM_ (⟨y7.1, y7.2.1, y7.2.2.1, y7.2.2.2.1, y7.2.2.2.2.1⟩ : aa_)).bind fun y14 => (some y14)) else (some false))) else (some false)))) (fun y7 => (some y7)) y7))))))))))
theorem dT_ (a0 : (Sl (Iv .u8))) (r : Bool) (h : bH_ a0 = some r) : cx_ a0 = some r := by
 unfold bH_ at h
 refine k_W ok_3 E_bool_inj h (fun σ0 => ?_)
 refine t_RN ?_
 refine t_RU 1 ?_
 refine aB_ fun y1 hy1 => ?_
 refine t_N ?_
 refine t_if (fun hc1 => ?_) fun hc1 => ?_
 ·refine t_RN ?_
  exact k_eW (rT rN) E_bool_p
 refine t_RU 1 ?_
 refine aB_ fun y2 hy2 => ?_
 refine bg_ fun b1 => ?_
 refine av_ 0 ?_
 refine t_N ?_
 refine t_R ?_
 refine ad_ 0 ?_
 refine aB_ fun y3 hy3 => ?_
 refine t_N ?_
 refine t_if (fun hc2 => ?_) fun hc2 => ?_
 ·refine t_RN ?_
  exact k_eW (rT rN) E_bool_p
 refine t_R ?_
 refine kF_ (α := ByteArray) (fun t1 ht1 => ?_)
 refine t_U 1 ?_
 refine ad_ 1 ?_
 refine t_U 1 ?_
 refine ad_ 1 ?_
 refine nt_ fun y4 hy4 => ?_
 refine jR_ 0 (fun y5 t2 hy5 ht2 => ?_)
 refine t_N ?_
 refine t_R ?_
 refine kF_ (α := ByteArray) (fun t3 ht3 => ?_)
 refine t_U 1 ?_
 refine ad_ 2 ?_
 refine jR_ 0 (fun y6 t4 hy6 ht4 => ?_)
 refine t_N ?_
 refine t_RN ?_
 refine cb_ (fun st1 fr => ∃ t6, aK_ t6 ∧ Sub [(3, .ptr b1 0 0 5), (4, t2), (5, t6), (6, i4 st1.1)] fr.s ∧ Heap σ0 fr.σ [.box b1 [st1.2.1.t, i4 st1.2.2.1, st1.2.2.2.1.t, st1.2.2.2.2.1.t, st1.2.2.2.2.2.1.t], .own true 1 t2 y5.t, .own true 1 t6 st1.2.2.2.2.2.2.t]) (fun y7 e fr => (Sum.elim (fun y => ∃ t7, aK_ t7 ∧ e = (.exit 0) ∧ Sub [(3, .ptr b1 0 0 5), (5, t7)] fr.s ∧ Heap σ0 fr.σ [.box b1 [y.1.t, i4 y.2.1, y.2.2.1.t, y.2.2.2.1.t, y.2.2.2.2.1.t], .own true 1 t7 y.2.2.2.2.2.t]) (fun y => e = .ret ∧ endW Try.prog (Try.f3.results.toList) σ0 (E_bool y) .ret fr)) y7) (fun hS hH => ⟨t4, ht4, (ae_ hS (by kernel_rfl)), (Heap.sel hH [2, 1, 0] rfl (by kernel_rfl))⟩) (fun st1 x fr h HI => ?_) fun y7 e fr h HF => ?_
 ·obtain ⟨s, σ⟩ := fr; obtain ⟨t6, ht6, ⟨hS, hH⟩⟩ := HI
  refine t_bk h hS hH ?_
  refine t_RU 2 ?_
  refine c7_ (a := y5) 1 ?_
  refine t_N ?_
  refine t_if (fun hc3 => ?_) fun hc3 => ?_
  ·refine t_R ?_
   refine ad_ 0 ?_
   refine aB_ fun y8 hy8 => ?_
   refine t_U 4 ?_
   refine bg_ fun b2 => ?_
   refine av_ 0 ?_
   refine t_N ?_
   refine t_RU 3 ?_
   refine aE_ 47 (fun hc4 => ?_) fun hc4 => ?_
   ·refine t_N ?_
    refine t_cT rfl ?_
    refine t_RN ?_
    exact t_e fun he hS hH => he ▸ ⟨rfl, (eW hS hH (rT rN) E_bool_p)⟩
   refine t_U 3 ?_
   refine gO_ 2 (fun hb1 hb1e y9 hy9 hl_hb1 => ?_)
   refine ge_ 2 0 hl_hb1 hy9 ?_
   refine t_N ?_
   refine t_if (fun hc5 => ?_) fun hc5 => ?_
   ·refine t_RN ?_
    exact t_e fun he hS hH => he ▸ ⟨rfl, (eW hS hH (rT rN) E_bool_p)⟩
   refine t_R ?_
   refine ad_ 0 ?_
   refine av_ 1 ?_
   refine t_N ?_
   refine t_R ?_
   refine ad_ 0 ?_
   refine t_U 1 ?_
   refine aB_ fun y10 hy10 => ?_
   refine t_U 3 ?_
   refine bg_ fun b3 => ?_
   refine av_ 0 ?_
   refine t_N ?_
   refine t_RN ?_
   refine t_if (fun hc6 => ?_) fun hc6 => ?_
   ·refine t_R ?_
    refine ad_ 0 ?_
    refine av_ 1 ?_
    refine t_N ?_
    refine t_RU 2 ?_
    refine k_bs (z := true) (⟨false, [y8.2.1]⟩ : Sl ByteArray) (fun t8 ht8 => ?_)
    refine ez_ 5 0 (fun y11 t9 hy11 ht9 => ?_)
    refine t_N ?_
    refine t_RN ?_
    exact t_e fun he hS hH => he ▸ ⟨t9, ht9, (ae_ hS (by kernel_rfl)), (Heap.sel hH [1, 4, 0] rfl (by kernel_rfl))⟩
   refine t_RN ?_
   exact t_e fun he hS hH => he ▸ ⟨t6, ht6, (ae_ hS (by kernel_rfl)), (Heap.sel hH [1, 3, 4] rfl (by kernel_rfl))⟩
  exact t_e fun he hS hH => he ▸ ⟨t6, ht6, rfl, (ae_ hS (by kernel_rfl)), (Heap.sel hH [0, 2] rfl (by kernel_rfl))⟩
 obtain ⟨s, σ⟩ := fr
 rcases y7 with y7 | y7
 ·have h := el_l h
  obtain ⟨t7, ht7, ⟨rfl, hS, hH⟩⟩ := HF
  refine t_bx h hS hH ?_
  refine t_R ?_
  refine ad_ 0 ?_
  refine aB_ fun y12 hy12 => ?_
  refine t_U 4 ?_
  refine bg_ fun b4 => ?_
  refine av_ 0 ?_
  refine t_N ?_
  refine t_RU 3 ?_
  refine aE_ 77 (fun hc7 => ?_) fun hc7 => ?_
  ·refine t_U 1 ?_
   refine ad_ 1 ?_
   refine t_U 1 ?_
   refine t_h Heap.up2 ?_
   refine j5_ (fun y13 hy13 => ?_)
   refine t_U 2 ?_
   refine aE_ 83 (fun hc8 => ?_) fun hc8 => ?_
   ·refine ad_ 2 ?_
    refine aB_ fun y14 hy14 => ?_
    refine t_N ?_
    exact k_eW (rT rN) E_bool_p
   refine t_N ?_
   exact k_eW (rT rN) E_bool_p
  refine t_N ?_
  exact k_eW (rT rN) E_bool_p
 have h := el_r h
 obtain ⟨rfl, HE⟩ := HF
 obtain rfl := si_1 h; exact HE
noncomputable def dE_ (a0 : (Sl (Iv .u8))) : Option Bool := (some (decide (1048576 < (a0.l.length : Int))))
theorem fw_ (a0 : (Sl (Iv .u8))) (r : Bool) (h : dE_ a0 = some r) : cA_ a0 = some r := by
 unfold dE_ at h
 refine k_W ok_7 E_bool_inj h (fun σ0 => ?_)
 refine t_RN ?_
 refine t_RN ?_
 exact k_eW (rT rN) E_bool_p
noncomputable def aF_ (a0 : ab_) : Option (Int × ab_) := (((if (decide (a0.at_ < (a0.code_.l.length : Int))) = true then ((elt a0.code_ a0.at_).bind fun y2 => (some (w4 y2.v))) else (some 0)) : Option Int).bind fun y1 => (if ((decide ((w4 (a0.at_ + 1)) ≤ (a0.code_.l.length : Int)))) = true then (some (y1, (⟨a0.code_, (w4 (a0.at_ + 1)), (IntKind.u64.wrap ((IntKind.u64.wrap ((IntKind.u64.wrap (a0.seed_ * 6364136223846793005)) + (IntKind.u64.wrap y1))) + 1442695040888963407))⟩ : ab_))) else (some ((w4 ((andI .u64 ((((IntKind.u64.wrap ((IntKind.u64.wrap ((IntKind.u64.wrap (a0.seed_ * 6364136223846793005)) + (IntKind.u64.wrap y1))) + 1442695040888963407))).fdiv (2 ^ 40))) 255))), (⟨a0.code_, (w4 (a0.at_ + 1)), (IntKind.u64.wrap ((IntKind.u64.wrap ((IntKind.u64.wrap (a0.seed_ * 6364136223846793005)) + (IntKind.u64.wrap y1))) + 1442695040888963407))⟩ : ab_)))))
theorem cy_ (a0 : ab_) (r : (Int × ab_)) (h : aF_ a0 = some r) (bp0 : Nat) : RawS Try.prog md ext 97 [.ptr bp0 0 0 3] 0 (fun hs => E_i64 r.1) [.box bp0 (ab_.cells a0)] (fun hs => [.box bp0 (ab_.cells r.2)]) := by
 unfold aF_ at h
 refine cO_ rfl rfl ok_97 rfl ?_
 intro σ0 σ F σk s hS hH
 have hS := ae_ (L' := [(0, .ptr bp0 0 0 3)]) hS (by kernel_rfl)
 refine t_go h hS hH ?_
 refine t_RN ?_
 refine t_RN ?_
 refine t_D fun mb => ?_
 refine t_U 3 ?_
 refine ad_ 0 ?_
 refine t_U 3 ?_
 refine ad_ 0 ?_
 refine t_N ?_
 refine gD_ 0 (fun y1 e fr => e = .normal ∧ Sub [(0, .ptr bp0 0 0 3), (3, i4 y1)] fr.s ∧ Heap σ0 fr.σ [.box bp0 (ab_.cells a0), .keep F σk]) (fun y1 e fr h HF => ?_) fun y1 => ?_
 ·obtain ⟨s, σ⟩ := fr
  obtain ⟨rfl, hS, hH⟩ := HF
  refine t_bx h hS hH ?_
  refine t_RU 3 ?_
  refine ad_ 0 ?_
  refine t_U 3 ?_
  refine ey_ 0 ?_
  refine t_N ?_
  refine t_RU 4 ?_
  refine ad_ 0 ?_
  refine t_U 7 ?_
  refine ey_ 0 ?_
  refine t_N ?_
  refine t_D fun mb => ?_
  refine t_U 3 ?_
  refine ad_ 0 ?_
  refine t_U 3 ?_
  refine ad_ 0 ?_
  refine t_N ?_
  refine t_if (fun hc1 => ?_) fun hc1 => ?_
  ·refine t_RN ?_
   intro h s σ hS hH
   obtain rfl := si_1 h
   exact dY_ [] (dH_ (v := i4 y1) hS rfl r_nil) rfl rfl hH
  refine t_RU 3 ?_
  refine ad_ 0 ?_
  refine t_N ?_
  intro h s σ hS hH
  obtain rfl := si_1 h
  exact dY_ [] (dH_ (v := i4 ((w4 ((andI .u64 ((((IntKind.u64.wrap ((IntKind.u64.wrap ((IntKind.u64.wrap (a0.seed_ * 6364136223846793005)) + (IntKind.u64.wrap y1))) + 1442695040888963407))).fdiv (2 ^ 40))) 255))))) hS rfl r_nil) rfl rfl hH
 refine t_if (fun hc2 => ?_) fun hc2 => ?_
 ·refine t_D fun mb => ?_
  refine t_U 3 ?_
  refine ad_ 0 ?_
  refine t_U 3 ?_
  refine ad_ 0 ?_
  refine d8_ fun y2 rest1 hy2 => ?_
  refine t_N ?_
  exact t_e fun he hS hH => he ▸ ⟨rfl, (ae_ hS (by kernel_rfl)), hH⟩
 exact t_e fun he hS hH => he ▸ ⟨rfl, (ae_ hS (by kernel_rfl)), hH⟩
noncomputable def ac_ (a0 : ab_) (a1 : Int) : Option (Int × ab_) := (if (decide (a1 ≤ 1)) = true then (some (0, a0)) else ((aF_ a0).bind fun y1 => (if (decide (200 < a1)) = true then ((aF_ y1.2).bind fun y2 => ((remI (w4 ((w4 (y1.1 * 256)) + y2.1)) a1).bind fun y3 => (some (y3, y2.2)))) else ((remI y1.1 a1).bind fun y4 => (some (y4, y1.2))))))
theorem aj_ (a0 : ab_) (a1 : Int) (r : (Int × ab_)) (h : ac_ a0 a1 = some r) (bp0 : Nat) : RawS Try.prog md ext 68 [.ptr bp0 0 0 3, i4 a1] 0 (fun hs => E_i64 r.1) [.box bp0 (ab_.cells a0)] (fun hs => [.box bp0 (ab_.cells r.2)]) := by
 unfold ac_ at h
 refine cO_ rfl rfl ok_68 rfl ?_
 intro σ0 σ F σk s hS hH
 have hS := ae_ (L' := [(0, .ptr bp0 0 0 3), (1, i4 a1)]) hS (by kernel_rfl)
 refine t_go h hS hH ?_
 refine t_RN ?_
 refine t_RN ?_
 refine t_if (fun hc1 => ?_) fun hc1 => ?_
 ·refine t_RN ?_
  intro h s σ hS hH
  obtain rfl := si_1 h
  exact dY_ [] (dH_ (v := i4 0) hS rfl r_nil) rfl rfl hH
 refine t_RU 1 ?_
 refine aL_ (fun y1 hs hy1 hl => ?_) (hr := by exact fun y1 hy1 => cy_ _ y1 hy1 bp0)
 obtain rfl := len0 hl
 refine bj_ ?_
 refine t_N ?_
 refine t_RN ?_
 refine t_if (fun hc2 => ?_) fun hc2 => ?_
 ·refine t_RU 3 ?_
  refine aL_ (fun y2 hs hy2 hl => ?_) (hr := by exact fun y2 hy2 => cy_ _ y2 hy2 bp0)
  obtain rfl := len0 hl
  refine bj_ ?_
  refine t_N ?_
  refine t_RU 2 ?_
  intro h s σ hS hH
  obtain ⟨y3, hy3, h⟩ := bind_some h
  refine k5_ rfl hS rfl rfl hy3 ?_; intro s hS
  refine t_bk h hS hH ?_
  refine t_N ?_
  intro h s σ hS hH
  obtain rfl := si_1 h
  exact dY_ [] (dH_ (v := i4 y3) hS rfl r_nil) rfl rfl hH
 refine t_RU 2 ?_
 intro h s σ hS hH
 obtain ⟨y4, hy4, h⟩ := bind_some h
 refine k5_ rfl hS rfl rfl hy4 ?_; intro s hS
 refine t_bk h hS hH ?_
 refine t_N ?_
 intro h s σ hS hH
 obtain rfl := si_1 h
 exact dY_ [] (dH_ (v := i4 y4) hS rfl r_nil) rfl rfl hH
noncomputable def ax_ (a0 : ab_) (a1 : Int) : Option (Bool × ab_) := ((ac_ a0 a1).bind fun y1 => (some ((decide (y1.1 = 0)), y1.2)))
theorem bb_ (a0 : ab_) (a1 : Int) (r : (Bool × ab_)) (h : ax_ a0 a1 = some r) (bp0 : Nat) : RawS Try.prog md ext 67 [.ptr bp0 0 0 3, i4 a1] 0 (fun hs => E_bool r.1) [.box bp0 (ab_.cells a0)] (fun hs => [.box bp0 (ab_.cells r.2)]) := by
 unfold ax_ at h
 refine cO_ rfl rfl ok_67 rfl ?_
 intro σ0 σ F σk s hS hH
 have hS := ae_ (L' := [(0, .ptr bp0 0 0 3), (1, i4 a1)]) hS (by kernel_rfl)
 refine t_go h hS hH ?_
 refine t_RN ?_
 refine t_RU 2 ?_
 refine aL_ (fun y1 hs hy1 hl => ?_) (hr := by exact fun y1 hy1 => aj_ _ _ y1 hy1 bp0)
 obtain rfl := len0 hl
 refine bj_ ?_
 refine t_N ?_
 intro h s σ hS hH
 obtain rfl := si_1 h
 exact dY_ [] (dH_ (v := .bool (decide (y1.1 = 0))) hS rfl r_nil) rfl rfl hH
noncomputable def aG_ (a0 : ab_) (a1 : (Sl ByteArray)) : Option (ByteArray × ab_ × (Sl ByteArray)) := ((ac_ a0 (a1.l.length : Int)).bind fun y1 => ((elt a1 y1.1).bind fun y2 => (some (y2, y1.2, a1))))
theorem cp_ (a0 : ab_) (a1 : (Sl ByteArray)) (r : (ByteArray × ab_ × (Sl ByteArray))) (h : aG_ a0 a1 = some r) (bp0 : Nat) (wp1_1 : Nat) (p1_1 : T) : RawS Try.prog md ext 70 [.ptr bp0 0 0 3, p1_1] 0 (fun hs => E_str r.1) [.box bp0 (ab_.cells a0), .own true wp1_1 p1_1 a1.t] (fun hs => [.box bp0 (ab_.cells r.2.1), .own true wp1_1 p1_1 r.2.2.t]) := by
 unfold aG_ at h
 refine cO_ rfl rfl ok_70 rfl ?_
 intro σ0 σ F σk s hS hH
 have hp1_1 : aK_ p1_1 := Heap.one (hH.at 1 rfl)
 have hS := ae_ (L' := [(0, .ptr bp0 0 0 3), (1, p1_1)]) hS (by kernel_rfl)
 refine t_go h hS hH ?_
 refine t_RN ?_
 refine t_RU 3 ?_
 refine c7_ (a := a1) 1 ?_
 refine aL_ (fun y1 hs hy1 hl => ?_) (hr := by exact fun y1 hy1 => aj_ _ _ y1 hy1 bp0)
 obtain rfl := len0 hl
 refine bj_ ?_
 refine gO_ 1 (fun hb1 hb1e y2 hy2 hl_hb1 => ?_)
 refine ge_ 1 0 hl_hb1 hy2 ?_
 refine t_N ?_
 intro h s σ hS hH
 obtain rfl := si_1 h
 exact dY_ [] (dH_ (v := .str y2) hS rfl r_nil) rfl rfl hH
noncomputable def aA_ (a0 : ab_) : Option (ByteArray × ab_) := ((aG_ a0 (⟨false, [⟨#[]⟩, ⟨#[97]⟩, ⟨#[108, 105, 110, 101, 32, 116, 119, 111]⟩, ⟨#[120, 32, 61, 32, 49]⟩, ⟨#[10]⟩, ⟨#[0, 255]⟩, ⟨#[49, 50]⟩, ⟨#[69, 78, 68]⟩]⟩)).bind fun y1 => (some (y1.1, y1.2.1)))
theorem ea_ (a0 : ab_) (r : (ByteArray × ab_)) (h : aA_ a0 = some r) (bp0 : Nat) : RawS Try.prog md ext 104 [.ptr bp0 0 0 3] 0 (fun hs => E_str r.1) [.box bp0 (ab_.cells a0)] (fun hs => [.box bp0 (ab_.cells r.2)]) := by
 unfold aA_ at h
 refine cO_ rfl rfl ok_104 rfl ?_
 intro σ0 σ F σk s hS hH
 have hS := ae_ (L' := [(0, .ptr bp0 0 0 3)]) hS (by kernel_rfl)
 refine t_go h hS hH ?_
 refine t_RN ?_
 refine t_RU 1 ?_
 refine k_bs (z := true) (⟨false, [⟨#[]⟩, ⟨#[97]⟩, ⟨#[108, 105, 110, 101, 32, 116, 119, 111]⟩, ⟨#[120, 32, 61, 32, 49]⟩, ⟨#[10]⟩, ⟨#[0, 255]⟩, ⟨#[49, 50]⟩, ⟨#[69, 78, 68]⟩]⟩ : Sl ByteArray) (fun t1 ht1 => ?_)
 refine t_h Heap.up1 ?_
 refine aL_ (fun y1 hs hy1 hl => ?_) (hr := by exact fun y1 hy1 => cp_ _ _ y1 hy1 bp0 1 t1)
 obtain rfl := len0 hl
 refine bj_ ?_
 refine t_N ?_
 intro h s σ hS hH
 obtain rfl := si_1 h
 exact dY_ [] (dH_ (v := .str y1.1) hS rfl r_nil) rfl rfl (Heap.sel hH [0, 2] rfl (by kernel_rfl))
noncomputable def ao_ (a0 : ab_) (a1 : Int) : Option ((Sl ByteArray) × ab_) := ((ac_ a0 4).bind fun y1 => ((ax_ y1.2 9).bind fun y2 => (((if y2.1 = true then ((ac_ y2.2 2).bind fun y7 => (some ((w4 (a1 - y7.1)), y7.2.code_, y7.2.at_, y7.2.seed_))) else (some (y1.1, y2.2.code_, y2.2.at_, y2.2.seed_))) : Option (Int × (Sl (Iv .u8)) × Int × Int)).bind fun y3 => ((aW_ (S := (Int × (Sl (Iv .u8)) × Int × Int × (Sl ByteArray))) (R := ((Sl (Iv .u8)) × Int × Int × (Sl ByteArray))) (fun st1 => (if (decide (0 < st1.1)) = true then ((aA_ (⟨st1.2.1, st1.2.2.1, st1.2.2.2.1⟩ : ab_)).bind fun y5 => ((appS 16 st1.2.2.2.2 (⟨false, [y5.1]⟩ : Sl ByteArray)).bind fun y6 => (some (.inl ((w4 (st1.1 - 1)), y5.2.code_, y5.2.at_, y5.2.seed_, y6))))) else (some (.inr (st1.2.1, st1.2.2.1, st1.2.2.2.1, st1.2.2.2.2))))) (y3.1, y3.2.1, y3.2.2.1, y3.2.2.2, (⟨false, []⟩ : Sl ByteArray))).bind fun y4 => (some (y4.2.2.2, (⟨y4.1, y4.2.1, y4.2.2.1⟩ : ab_)))))))
theorem bu_ (a0 : ab_) (a1 : Int) (r : ((Sl ByteArray) × ab_)) (h : ao_ a0 a1 = some r) (bp0 : Nat) : RawS Try.prog md ext 96 [.ptr bp0 0 0 3, i4 a1] Sh_sl_str.n (fun hs => Sh_sl_str.tree hs r.1) [.box bp0 (ab_.cells a0)] (fun hs => Sh_sl_str.en hs r.1 ++ [.box bp0 (ab_.cells r.2)]) := by
 unfold ao_ at h
 refine cO_ rfl rfl ok_96 rfl ?_
 intro σ0 σ F σk s hS hH
 have hS := ae_ (L' := [(0, .ptr bp0 0 0 3), (1, i4 a1)]) hS (by kernel_rfl)
 refine t_go h hS hH ?_
 refine t_RN ?_
 refine t_R ?_
 refine kF_ (α := ByteArray) (fun t1 ht1 => ?_)
 refine t_N ?_
 refine t_RU 1 ?_
 refine t_h Heap.up1 ?_
 refine aL_ (fun y1 hs hy1 hl => ?_) (hr := by exact fun y1 hy1 => aj_ _ _ y1 hy1 bp0)
 obtain rfl := len0 hl
 refine bj_ ?_
 refine t_N ?_
 refine t_RU 1 ?_
 refine aL_ (fun y2 hs hy2 hl => ?_) (hr := by exact fun y2 hy2 => bb_ _ _ y2 hy2 bp0)
 obtain rfl := len0 hl
 refine bj_ ?_
 refine t_N ?_
 refine gD_ 0 (fun y3 e fr => e = .normal ∧ Sub [(0, .ptr bp0 0 0 3), (5, t1), (6, i4 y3.1)] fr.s ∧ Heap σ0 fr.σ [.box bp0 [y3.2.1.t, i4 y3.2.2.1, .int .u64 y3.2.2.2], .own true 1 t1 (Sl.t (⟨false, []⟩ : Sl ByteArray)), .keep F σk]) (fun y3 e fr h HF => ?_) fun y3 => ?_
 ·obtain ⟨s, σ⟩ := fr
  obtain ⟨rfl, hS, hH⟩ := HF
  refine t_bx h hS hH ?_
  refine cb_ (fun st1 fr => ∃ t3, aK_ t3 ∧ Sub [(0, .ptr bp0 0 0 3), (5, t3), (6, i4 st1.1)] fr.s ∧ Heap σ0 fr.σ [.box bp0 [st1.2.1.t, i4 st1.2.2.1, .int .u64 st1.2.2.2.1], .own true 1 t3 st1.2.2.2.2.t, .keep F σk]) (fun y4 e fr => ∃ t4, aK_ t4 ∧ e = (.exit 0) ∧ Sub [(5, t4)] fr.s ∧ Heap σ0 fr.σ [.box bp0 [y4.1.t, i4 y4.2.1, .int .u64 y4.2.2.1], .own true 1 t4 y4.2.2.2.t, .keep F σk]) (fun hS hH => ⟨t1, ht1, (ae_ hS (by kernel_rfl)), hH⟩) (fun st1 x fr h HI => ?_) fun y4 e fr h HF => ?_
  ·obtain ⟨s, σ⟩ := fr; obtain ⟨t3, ht3, ⟨hS, hH⟩⟩ := HI
   refine t_bk h hS hH ?_
   refine t_RN ?_
   refine t_if (fun hc1 => ?_) fun hc1 => ?_
   ·refine t_RU 2 ?_
    refine aL_ (fun y5 hs hy5 hl => ?_) (hr := by exact fun y5 hy5 => ea_ _ y5 hy5 bp0)
    obtain rfl := len0 hl
    refine bj_ ?_
    refine k_bs (z := true) (⟨false, [y5.1]⟩ : Sl ByteArray) (fun t5 ht5 => ?_)
    refine ez_ 2 0 (fun y6 t6 hy6 ht6 => ?_)
    refine t_N ?_
    refine t_RN ?_
    exact t_e fun he hS hH => he ▸ ⟨t6, ht6, (ae_ hS (by kernel_rfl)), (Heap.sel hH [1, 0, 2] rfl (by kernel_rfl))⟩
   exact t_e fun he hS hH => he ▸ ⟨t3, ht3, rfl, (ae_ hS (by kernel_rfl)), hH⟩
  obtain ⟨s, σ⟩ := fr
  obtain ⟨t4, ht4, ⟨rfl, hS, hH⟩⟩ := HF
  refine t_bx h hS hH ?_
  refine t_RN ?_
  intro h s σ hS hH
  obtain rfl := si_1 h
  exact dY_ [t4] (dH_ (v := t4) hS rfl r_nil) rfl rfl (Heap.sel hH [1, 0, 2] rfl (by kernel_rfl))
 refine t_if (fun hc2 => ?_) fun hc2 => ?_
 ·refine t_RU 2 ?_
  refine aL_ (fun y7 hs hy7 hl => ?_) (hr := by exact fun y7 hy7 => aj_ _ _ y7 hy7 bp0)
  obtain rfl := len0 hl
  refine bj_ ?_
  refine t_N ?_
  exact t_e fun he hS hH => he ▸ ⟨rfl, (ae_ hS (by kernel_rfl)), hH⟩
 exact t_e fun he hS hH => he ▸ ⟨rfl, (ae_ hS (by kernel_rfl)), hH⟩
noncomputable def aD_ (a0 : ab_) : Option (aa_ × ab_) := ((ao_ a0 100).bind fun y1 => ((ao_ y1.2 100).bind fun y2 => ((ac_ y2.2 (w4 ((y1.1.l.length : Int) + 1))).bind fun y3 => ((ac_ y3.2 4).bind fun y4 => ((ax_ y4.2 6).bind fun y5 => (((if y5.1 = true then (some 6) else (some y4.1)) : Option Int).bind fun y6 => ((F_spec_l21Names ).bind fun y7 => ((aW_ (S := (Int × (Sl (Iv .u8)) × Int × Int × (Sl ak_))) (R := ((Sl (Iv .u8)) × Int × Int × (Sl ak_))) (fun st1 => (if (decide (st1.1 < y6)) = true then ((elt y7 st1.1).bind fun y9 => ((ao_ (⟨st1.2.1, st1.2.2.1, st1.2.2.2.1⟩ : ab_) 40).bind fun y10 => ((ac_ y10.2 4).bind fun y11 => (if (decide (y11.1 = 1)) = true then ((ac_ y11.2 (w4 ((y10.1.l.length : Int) + 1))).bind fun y12 => ((appS 56 st1.2.2.2.2 (⟨false, [(⟨y9, y10.1, y11.1, y12.1⟩ : ak_)]⟩ : Sl ak_)).bind fun y13 => (some (.inl ((w4 (st1.1 + 1)), y12.2.code_, y12.2.at_, y12.2.seed_, y13))))) else ((appS 56 st1.2.2.2.2 (⟨false, [(⟨y9, y10.1, y11.1, 0⟩ : ak_)]⟩ : Sl ak_)).bind fun y14 => (some (.inl ((w4 (st1.1 + 1)), y11.2.code_, y11.2.at_, y11.2.seed_, y14)))))))) else (some (.inr (st1.2.1, st1.2.2.1, st1.2.2.2.1, st1.2.2.2.2))))) (0, y5.2.code_, y5.2.at_, y5.2.seed_, (⟨true, []⟩ : Sl ak_))).bind fun y8 => ((ac_ (⟨y8.1, y8.2.1, y8.2.2.1⟩ : ab_) 3).bind fun y15 => ((aW_ (S := (Int × (Sl ByteArray))) (R := (Sl ByteArray)) (fun st2 => (if (decide (0 < st2.1)) = true then ((appS 16 st2.2 (⟨false, [⟨#[49, 58, 32, 103, 111, 116, 111, 32, 76]⟩]⟩ : Sl ByteArray)).bind fun y17 => (some (.inl ((w4 (st2.1 - 1)), y17)))) else (some (.inr st2.2)))) (y15.1, (⟨true, []⟩ : Sl ByteArray))).bind fun y16 => ((ax_ y15.2 12).bind fun y18 => (if y18.1 = true then ((aW_ (S := (Sl ByteArray)) (R := (Sl ByteArray)) (fun st3 => (if (decide ((st3.l.length : Int) < 200)) = true then ((appS 16 st3 (⟨false, [⟨#[50, 58, 32, 99, 97, 108, 108, 32, 70]⟩]⟩ : Sl ByteArray)).bind fun y20 => (some (.inl y20))) else (some (.inr st3)))) y16).bind fun y19 => (some ((⟨y1.1, y3.1, y2.1, y8.2.2.2, y19⟩ : aa_), y18.2))) else (some ((⟨y1.1, y3.1, y2.1, y8.2.2.2, y16⟩ : aa_), y18.2))))))))))))))
theorem dk_ (a0 : ab_) (r : (aa_ × ab_)) (h : aD_ a0 = some r) (bp0 : Nat) : RawS Try.prog md ext 66 [.ptr bp0 0 0 3] Sh_DConsole.n (fun hs => Sh_DConsole.tree hs r.1) [.box bp0 (ab_.cells a0)] (fun hs => Sh_DConsole.en hs r.1 ++ [.box bp0 (ab_.cells r.2)]) := by
 unfold aD_ at h
 refine cO_ rfl rfl ok_66 rfl ?_
 intro σ0 σ F σk s hS hH
 have hS := ae_ (L' := [(0, .ptr bp0 0 0 3)]) hS (by kernel_rfl)
 refine t_go h hS hH ?_
 refine t_R ?_
 refine bg_ fun b1 => ?_
 refine t_N ?_
 refine t_RU 1 ?_
 refine t_h Heap.up1 ?_
 refine aL_ (fun y1 hs hy1 hl => ?_) (hr := by exact fun y1 hy1 => bu_ _ _ y1 hy1 bp0)
 obtain ⟨t1, rfl⟩ := len1 hl
 refine bj_ ?_
 refine cU_ 0 fun ht1 => ?_
 refine t_U 1 ?_
 refine t_h Heap.up1 ?_
 refine aL_ (fun y2 hs hy2 hl => ?_) (hr := by exact fun y2 hy2 => bu_ _ _ y2 hy2 bp0)
 obtain ⟨t2, rfl⟩ := len1 hl
 refine bj_ ?_
 refine cU_ 0 fun ht2 => ?_
 intro h s σ hS hH
 refine hE_ (qs := [(0, t1), (2, t2)]) (z := [(nt ByteArray), i4 0, (nt ByteArray), (nt ak_), (nt ByteArray)]) (r := [t1, i4 0, t2, (nt ak_), (nt ByteArray)]) [[t1], [t2]] rfl hS rfl (by kernel_rfl) (by kernel_rfl) (⟨(by simp [ht1.1, ht1.2]), (by simp [ht1.1, ht1.2]), (by simp [ht2.1, ht2.2]), (by simp [ht2.1, ht2.2]), trivial⟩) (by kernel_rfl) ?_; intro s hS
 refine t_bk h hS hH ?_
 refine bg_ fun b2 => ?_
 refine av_ 0 ?_ (h1 := by simp [ht1.1, ht1.2, ht2.1, ht2.2])
 refine t_N ?_
 refine t_RU 2 ?_
 refine ad_ 0 ?_
 refine c7_ (a := y1.1) 3 ?_
 refine t_U 1 ?_
 refine t_h Heap.up2 ?_
 refine aL_ (fun y3 hs hy3 hl => ?_) (hr := by exact fun y3 hy3 => aj_ _ _ y3 hy3 bp0)
 obtain rfl := len0 hl
 refine bj_ ?_
 refine t_U 1 ?_
 refine ey_ 1 ?_
 refine t_N ?_
 refine t_RU 1 ?_
 refine t_h Heap.up1 ?_
 refine aL_ (fun y4 hs hy4 hl => ?_) (hr := by exact fun y4 hy4 => aj_ _ _ y4 hy4 bp0)
 obtain rfl := len0 hl
 refine bj_ ?_
 refine t_N ?_
 refine t_RU 1 ?_
 refine aL_ (fun y5 hs hy5 hl => ?_) (hr := by exact fun y5 hy5 => bb_ _ _ y5 hy5 bp0)
 obtain rfl := len0 hl
 refine bj_ ?_
 refine t_N ?_
 refine gD_ 0 (fun y6 e fr => e = .normal ∧ Sub [(0, .ptr bp0 0 0 3), (2, .ptr b1 0 0 5), (3, .ptr b2 0 0 5), (4, i4 y6)] fr.s ∧ Heap σ0 fr.σ [.box bp0 (ab_.cells y5.2), .box b2 [t1, i4 y3.1, t2, (nt ak_), (nt ByteArray)], .box b1 [(nt ByteArray), i4 0, (nt ByteArray), (nt ak_), (nt ByteArray)], .own true 1 t1 y1.1.t, .own true 1 t2 y2.1.t, .keep F σk]) (fun y6 e fr h HF => ?_) fun y6 => ?_
 ·obtain ⟨s, σ⟩ := fr
  obtain ⟨rfl, hS, hH⟩ := HF
  refine t_bx h hS hH ?_
  refine t_R ?_
  refine aB_ fun y7 hy7 => ?_
  refine t_N ?_
  refine t_RN ?_
  refine t_h (Heap.addNil · true 4) ?_
  refine cb_ (fun st1 fr => ∃ t4, aK_ t4 ∧ Sub [(0, .ptr bp0 0 0 3), (2, .ptr b1 0 0 5), (3, .ptr b2 0 0 5), (4, i4 y6), (5, y7.t), (6, i4 st1.1)] fr.s ∧ Heap σ0 fr.σ [.box bp0 [st1.2.1.t, i4 st1.2.2.1, .int .u64 st1.2.2.2.1], .box b2 [t1, i4 y3.1, t2, t4, (nt ByteArray)], .box b1 [(nt ByteArray), i4 0, (nt ByteArray), (nt ak_), (nt ByteArray)], .own true 1 t1 y1.1.t, .own true 1 t2 y2.1.t, .own true 4 t4 st1.2.2.2.2.t, .keep F σk]) (fun y8 e fr => ∃ t5, aK_ t5 ∧ e = (.exit 0) ∧ Sub [(0, .ptr bp0 0 0 3), (2, .ptr b1 0 0 5), (3, .ptr b2 0 0 5)] fr.s ∧ Heap σ0 fr.σ [.box bp0 [y8.1.t, i4 y8.2.1, .int .u64 y8.2.2.1], .box b2 [t1, i4 y3.1, t2, t5, (nt ByteArray)], .box b1 [(nt ByteArray), i4 0, (nt ByteArray), (nt ak_), (nt ByteArray)], .own true 1 t1 y1.1.t, .own true 1 t2 y2.1.t, .own true 4 t5 y8.2.2.2.t, .keep F σk]) (fun hS hH => ⟨(T.row true 0 []), ⟨rfl, rfl⟩, (ae_ hS (by kernel_rfl)), (Heap.sel hH [1, 2, 3, 4, 5, 0, 6] rfl (by kernel_rfl))⟩) (fun st1 x fr h HI => ?_) fun y8 e fr h HF => ?_
  ·obtain ⟨s, σ⟩ := fr; obtain ⟨t4, ht4, ⟨hS, hH⟩⟩ := HI
   refine t_bk h hS hH ?_
   refine t_RN ?_
   refine t_if (fun hc1 => ?_) fun hc1 => ?_
   ·refine eq_ [(5, RN), (7, RN), (10, RN)] ext_x fun mb σs hn0 hlt hlto => ?_
    refine t_U 2 ?_
    refine d8_ fun y9 rest1 hy9 => ?_
    refine t_U 2 ?_
    refine c2_ RN ext_x Stay.nil (by exact fun x hx => Or.inr ⟨5, by kernel_rfl, hx⟩) (fun y10 hs hy10 hl => ?_) (hr := by exact fun y10 hy10 => bu_ _ _ y10 hy10 bp0)
    obtain ⟨t6, rfl⟩ := len1 hl
    refine bj_ ?_
    refine cU_ 0 fun ht6 => ?_
    refine t_U 1 ?_
    refine t_h Heap.up1 ?_
    refine c2_ RN ext_x Stay.nil (by exact fun x hx => Or.inr ⟨7, by kernel_rfl, hx⟩) (fun y11 hs hy11 hl => ?_) (hr := by exact fun y11 hy11 => aj_ _ _ y11 hy11 bp0)
    obtain rfl := len0 hl
    refine bj_ ?_
    intro h s σ hS hH
    refine hE_ (qs := [(0, .str y9), (1, t6), (2, i4 y11.1)]) (z := [.str ⟨#[]⟩, (nt ByteArray), i4 0, i4 0]) (r := [.str y9, t6, i4 y11.1, i4 0]) [[.str y9], [t6], [i4 y11.1]] rfl hS rfl (by kernel_rfl) (by kernel_rfl) (⟨rfl, (by kernel_rfl), (by simp [ht6.1, ht6.2]), (by simp [ht6.1, ht6.2]), rfl, (by kernel_rfl), trivial⟩) (by kernel_rfl) ?_; intro s hS
    refine t_bk h hS hH ?_
    refine hW_ (by exact hn0) fun b3 hwr_b3 => ?_
    refine av_ 0 ?_ (h1 := by simp [ht6.1, ht6.2]) (hwr := by exact fun _ => Or.inl hwr_b3)
    refine t_N ?_
    refine t_RU 1 ?_
    refine ad_ 0 ?_
    refine t_N ?_
    refine t_if (fun hc2 => ?_) fun hc2 => ?_
    ·refine t_RU 2 ?_
     refine ad_ 0 ?_
     refine c7_ (a := y10.1) 2 ?_
     refine t_U 1 ?_
     refine t_h Heap.up1 ?_
     refine aL_ (fun y12 hs hy12 hl => ?_) (hr := by exact fun y12 hy12 => aj_ _ _ y12 hy12 bp0)
     obtain rfl := len0 hl
     refine bj_ ?_
     refine t_U 1 ?_
     refine ey_ 1 ?_
     refine t_N ?_
     refine t_RU 1 ?_
     refine ad_ 3 ?_
     refine ad_ 0 ?_
     refine t_h Heap.up2 ?_
     refine k_bs (z := true) (⟨false, [(⟨y9, y10.1, y11.1, y12.1⟩ : ak_)]⟩ : Sl ak_) (fun t7 ht7 => ?_) (h1 := by simp [ht6.1, ht6.2])
     refine ez_ 7 0 (fun y13 t8 hy13 ht8 => ?_)
     refine t_U 1 ?_
     refine bn_ 3 ht8 ?_
     refine t_N ?_
     refine t_RN ?_
     exact t_e fun he hS hH => he ▸ ⟨t8, ht8, (ae_ hS (by kernel_rfl)), (Heap.sel hH [3, 0, 4, 5, 6, 1, 7] rfl (by kernel_rfl))⟩
    refine t_RU 1 ?_
    refine ad_ 3 ?_
    refine ad_ 0 ?_
    refine t_h Heap.up2 ?_
    refine k_bs (z := true) (⟨false, [(⟨y9, y10.1, y11.1, 0⟩ : ak_)]⟩ : Sl ak_) (fun t9 ht9 => ?_) (h1 := by simp [ht6.1, ht6.2])
    refine ez_ 7 0 (fun y14 t10 hy14 ht10 => ?_)
    refine t_U 1 ?_
    refine bn_ 3 ht10 ?_
    refine t_N ?_
    refine t_RN ?_
    exact t_e fun he hS hH => he ▸ ⟨t10, ht10, (ae_ hS (by kernel_rfl)), (Heap.sel hH [3, 0, 4, 5, 6, 1, 7] rfl (by kernel_rfl))⟩
   exact t_e fun he hS hH => he ▸ ⟨t4, ht4, rfl, (ae_ hS (by kernel_rfl)), hH⟩
  obtain ⟨s, σ⟩ := fr
  obtain ⟨t5, ht5, ⟨rfl, hS, hH⟩⟩ := HF
  refine t_bx h hS hH ?_
  refine t_RU 1 ?_
  refine aL_ (fun y15 hs hy15 hl => ?_) (hr := by exact fun y15 hy15 => aj_ _ _ y15 hy15 bp0)
  obtain rfl := len0 hl
  refine bj_ ?_
  refine t_N ?_
  refine t_h (Heap.addNil · true 1) ?_
  refine cb_ (fun st2 fr => ∃ t12, aK_ t12 ∧ Sub [(0, .ptr bp0 0 0 3), (2, .ptr b1 0 0 5), (3, .ptr b2 0 0 5), (8, i4 st2.1)] fr.s ∧ Heap σ0 fr.σ [.box bp0 (ab_.cells y15.2), .box b2 [t1, i4 y3.1, t2, t5, t12], .box b1 [(nt ByteArray), i4 0, (nt ByteArray), (nt ak_), (nt ByteArray)], .own true 1 t1 y1.1.t, .own true 1 t2 y2.1.t, .own true 4 t5 y8.2.2.2.t, .own true 1 t12 st2.2.t, .keep F σk]) (fun y16 e fr => ∃ t13, aK_ t13 ∧ e = (.exit 2) ∧ Sub [(0, .ptr bp0 0 0 3), (2, .ptr b1 0 0 5), (3, .ptr b2 0 0 5)] fr.s ∧ Heap σ0 fr.σ [.box bp0 (ab_.cells y15.2), .box b2 [t1, i4 y3.1, t2, t5, t13], .box b1 [(nt ByteArray), i4 0, (nt ByteArray), (nt ak_), (nt ByteArray)], .own true 1 t1 y1.1.t, .own true 1 t2 y2.1.t, .own true 4 t5 y8.2.2.2.t, .own true 1 t13 y16.t, .keep F σk]) (fun hS hH => ⟨(T.row true 0 []), ⟨rfl, rfl⟩, (ae_ hS (by kernel_rfl)), (Heap.sel hH [1, 2, 3, 4, 5, 6, 0, 7] rfl (by kernel_rfl))⟩) (fun st2 x fr h HI => ?_) fun y16 e fr h HF => ?_
  ·obtain ⟨s, σ⟩ := fr; obtain ⟨t12, ht12, ⟨hS, hH⟩⟩ := HI
   refine t_bk h hS hH ?_
   refine t_RN ?_
   refine t_if (fun hc3 => ?_) fun hc3 => ?_
   ·refine t_RU 1 ?_
    refine ad_ 1 ?_
    refine k_bs (z := true) (⟨false, [⟨#[49, 58, 32, 103, 111, 116, 111, 32, 76]⟩]⟩ : Sl ByteArray) (fun t14 ht14 => ?_)
    refine ez_ 7 0 (fun y17 t15 hy17 ht15 => ?_)
    refine t_U 1 ?_
    refine bn_ 2 ht15 ?_
    refine t_N ?_
    refine t_RN ?_
    exact t_e fun he hS hH => he ▸ ⟨t15, ht15, (ae_ hS (by kernel_rfl)), (Heap.sel hH [2, 0, 3, 4, 5, 6, 1, 7] rfl (by kernel_rfl))⟩
   exact t_e fun he hS hH => he ▸ ⟨t12, ht12, rfl, (ae_ hS (by kernel_rfl)), hH⟩
  obtain ⟨s, σ⟩ := fr
  obtain ⟨t13, ht13, ⟨rfl, hS, hH⟩⟩ := HF
  refine t_bx h hS hH ?_
  refine t_RU 1 ?_
  refine aL_ (fun y18 hs hy18 hl => ?_) (hr := by exact fun y18 hy18 => bb_ _ _ y18 hy18 bp0)
  obtain rfl := len0 hl
  refine bj_ ?_
  refine t_N ?_
  refine t_if (fun hc4 => ?_) fun hc4 => ?_
  ·refine cb_ (fun st3 fr => ∃ t17, aK_ t17 ∧ Sub [(2, .ptr b1 0 0 5), (3, .ptr b2 0 0 5)] fr.s ∧ Heap σ0 fr.σ [.box bp0 (ab_.cells y18.2), .box b2 [t1, i4 y3.1, t2, t5, t17], .box b1 [(nt ByteArray), i4 0, (nt ByteArray), (nt ak_), (nt ByteArray)], .own true 1 t1 y1.1.t, .own true 1 t2 y2.1.t, .own true 4 t5 y8.2.2.2.t, .own true 1 t17 st3.t, .keep F σk]) (fun y19 e fr => ∃ t18, aK_ t18 ∧ e = (.exit 4) ∧ Sub [(2, .ptr b1 0 0 5), (3, .ptr b2 0 0 5)] fr.s ∧ Heap σ0 fr.σ [.box bp0 (ab_.cells y18.2), .box b2 [t1, i4 y3.1, t2, t5, t18], .box b1 [(nt ByteArray), i4 0, (nt ByteArray), (nt ak_), (nt ByteArray)], .own true 1 t1 y1.1.t, .own true 1 t2 y2.1.t, .own true 4 t5 y8.2.2.2.t, .own true 1 t18 y19.t, .keep F σk]) (fun hS hH => ⟨t13, ht13, (ae_ hS (by kernel_rfl)), hH⟩) (fun st3 x fr h HI => ?_) fun y19 e fr h HF => ?_
   ·obtain ⟨s, σ⟩ := fr; obtain ⟨t17, ht17, ⟨hS, hH⟩⟩ := HI
    refine t_bk h hS hH ?_
    refine t_RU 1 ?_
    refine ad_ 1 ?_
    refine c7_ (a := st3) 6 ?_
    refine t_N ?_
    refine t_if (fun hc5 => ?_) fun hc5 => ?_
    ·refine t_RU 1 ?_
     refine ad_ 1 ?_
     refine k_bs (z := true) (⟨false, [⟨#[50, 58, 32, 99, 97, 108, 108, 32, 70]⟩]⟩ : Sl ByteArray) (fun t19 ht19 => ?_)
     refine ez_ 7 0 (fun y20 t20 hy20 ht20 => ?_)
     refine t_U 1 ?_
     refine bn_ 2 ht20 ?_
     refine t_N ?_
     exact t_e fun he hS hH => he ▸ ⟨t20, ht20, (ae_ hS (by kernel_rfl)), (Heap.sel hH [2, 0, 3, 4, 5, 6, 1, 7] rfl (by kernel_rfl))⟩
    exact t_e fun he hS hH => he ▸ ⟨t17, ht17, rfl, (ae_ hS (by kernel_rfl)), hH⟩
   obtain ⟨s, σ⟩ := fr
   obtain ⟨t18, ht18, ⟨rfl, hS, hH⟩⟩ := HF
   refine t_bx h hS hH ?_
   refine t_R ?_
   refine ad_ 1 ?_
   refine av_ 2 ?_ (h1 := by simp [ht1.1, ht1.2, ht18.1, ht18.2, ht2.1, ht2.2, ht5.1, ht5.2])
   refine t_N ?_
   intro h s σ hS hH
   obtain rfl := si_1 h
   exact dY_ [t1, t2, t5, t18] (eF_ (v := .agg [t1, i4 y3.1, t2, t5, t18]) hS hH rfl (by kernel_rfl) r_nil) rfl rfl (Heap.sel hH [3, 4, 5, 6, 1, 7] rfl (by kernel_rfl))
  refine t_R ?_
  refine ad_ 1 ?_
  refine av_ 2 ?_ (h1 := by simp [ht1.1, ht1.2, ht13.1, ht13.2, ht2.1, ht2.2, ht5.1, ht5.2])
  refine t_N ?_
  intro h s σ hS hH
  obtain rfl := si_1 h
  exact dY_ [t1, t2, t5, t13] (eF_ (v := .agg [t1, i4 y3.1, t2, t5, t13]) hS hH rfl (by kernel_rfl) r_nil) rfl rfl (Heap.sel hH [3, 4, 5, 6, 1, 7] rfl (by kernel_rfl))
 refine t_if (fun hc6 => ?_) fun hc6 => ?_
 ·refine t_RN ?_
  exact t_e fun he hS hH => he ▸ ⟨rfl, (ae_ hS (by kernel_rfl)), (Heap.sel hH [0, 1, 4, 3, 2, 5] rfl (by kernel_rfl))⟩
 exact t_e fun he hS hH => he ▸ ⟨rfl, (ae_ hS (by kernel_rfl)), (Heap.sel hH [0, 1, 4, 3, 2, 5] rfl (by kernel_rfl))⟩
noncomputable def aO_ (a0 : ab_) (a1 : (Sl (Iv .i64))) : Option (Int × ab_ × (Sl (Iv .i64))) := ((ac_ a0 (a1.l.length : Int)).bind fun y1 => ((elt a1 y1.1).bind fun y2 => (some (y2.v, y1.2, a1))))
theorem dM_ (a0 : ab_) (a1 : (Sl (Iv .i64))) (r : (Int × ab_ × (Sl (Iv .i64)))) (h : aO_ a0 a1 = some r) (bp0 : Nat) (wp1_1 : Nat) (p1_1 : T) : RawS Try.prog md ext 69 [.ptr bp0 0 0 3, p1_1] 0 (fun hs => E_i64 r.1) [.box bp0 (ab_.cells a0), .own true wp1_1 p1_1 a1.t] (fun hs => [.box bp0 (ab_.cells r.2.1), .own true wp1_1 p1_1 r.2.2.t]) := by
 unfold aO_ at h
 refine cO_ rfl rfl ok_69 rfl ?_
 intro σ0 σ F σk s hS hH
 have hp1_1 : aK_ p1_1 := Heap.one (hH.at 1 rfl)
 have hS := ae_ (L' := [(0, .ptr bp0 0 0 3), (1, p1_1)]) hS (by kernel_rfl)
 refine t_go h hS hH ?_
 refine t_RN ?_
 refine t_RU 3 ?_
 refine c7_ (a := a1) 1 ?_
 refine aL_ (fun y1 hs hy1 hl => ?_) (hr := by exact fun y1 hy1 => aj_ _ _ y1 hy1 bp0)
 obtain rfl := len0 hl
 refine bj_ ?_
 refine gO_ 1 (fun hb1 hb1e y2 hy2 hl_hb1 => ?_)
 refine ge_ 1 0 hl_hb1 hy2 ?_
 refine t_N ?_
 intro h s σ hS hH
 obtain rfl := si_1 h
 exact dY_ [] (dH_ (v := i4 y2.v) hS rfl r_nil) rfl rfl hH
noncomputable def aU_ (a0 : ab_) (a1 : Int) : Option (aa_ × ab_) := ((aD_ a0).bind fun y1 => ((ax_ y1.2 a1).bind fun y2 => (if (!y2.1) = true then (some (y1.1, y2.2)) else ((ac_ y2.2 7).bind fun y3 => (((((if (decide (y3.1 = 0)) = true then ((aO_ y3.2 (⟨false, [⟨(-1)⟩, ⟨(w4 ((y1.1.Input.l.length : Int) + 1))⟩]⟩)).bind fun y6 => (some (y6.2.1.code_, y6.2.1.at_, y6.2.1.seed_, y6.1, y1.1.Input, y1.1.Output, y1.1.Files, y1.1.Trace))) else (if (decide (y3.1 = 1)) = true then ((ac_ y3.2 2).bind fun y7 => ((mkS 1 (⟨0⟩ : Iv .u8) (w4 (200 + y7.1)) (w4 (200 + y7.1))).bind fun y8 => ((strS y8).bind fun y9 => ((appS 16 y1.1.Output (⟨false, [y9]⟩ : Sl ByteArray)).bind fun y10 => (some (y7.2.code_, y7.2.at_, y7.2.seed_, y1.1.At, y1.1.Input, y10, y1.1.Files, y1.1.Trace)))))) else (if (decide (y3.1 = 2)) = true then ((aW_ (S := (Sl ByteArray)) (R := (Sl ByteArray)) (fun st1 => (if (decide ((st1.l.length : Int) ≤ 100)) = true then ((appS 16 st1 (⟨false, [⟨#[105]⟩]⟩ : Sl ByteArray)).bind fun y12 => (some (.inl y12))) else (some (.inr st1)))) y1.1.Input).bind fun y11 => (some (y3.2.code_, y3.2.at_, y3.2.seed_, y1.1.At, y11, y1.1.Output, y1.1.Files, y1.1.Trace))) else (if (decide (y3.1 = 3)) = true then ((aG_ y3.2 (⟨false, [⟨#[]⟩, ⟨#[49]⟩, ⟨#[68, 65, 84, 65]⟩, ⟨#[90, 90]⟩]⟩)).bind fun y13 => ((ac_ y13.2.1 6).bind fun y14 => ((appS 56 y1.1.Files (⟨false, [(⟨y13.1, ⟨true, []⟩, y14.1, 0⟩ : ak_)]⟩ : Sl ak_)).bind fun y15 => (some (y14.2.code_, y14.2.at_, y14.2.seed_, y1.1.At, y1.1.Input, y1.1.Output, y15, y1.1.Trace))))) else (if (decide (y3.1 = 4)) = true then (if (decide (0 < (y1.1.Files.l.length : Int))) = true then ((ac_ y3.2 5).bind fun y16 => ((elt y1.1.Files 0).bind fun y17 => (some (y16.2.code_, y16.2.at_, y16.2.seed_, y1.1.At, y1.1.Input, y1.1.Output, (setS y1.1.Files 0 ((⟨y17.Name, y17.Lines, y17.Mode, (w4 (y16.1 - 1))⟩ : ak_) : ak_)), y1.1.Trace)))) else (some (y3.2.code_, y3.2.at_, y3.2.seed_, y1.1.At, y1.1.Input, y1.1.Output, y1.1.Files, y1.1.Trace))) else (if (decide (y3.1 = 5)) = true then ((ac_ y3.2 2).bind fun y18 => ((mkS 1 (⟨0⟩ : Iv .u8) (w4 (1300 + y18.1)) (w4 (1300 + y18.1))).bind fun y19 => ((strS y19).bind fun y20 => ((appS 16 y1.1.Trace (⟨false, [y20]⟩ : Sl ByteArray)).bind fun y21 => (some (y18.2.code_, y18.2.at_, y18.2.seed_, y1.1.At, y1.1.Input, y1.1.Output, y1.1.Files, y21)))))) else ((aW_ (S := (Sl ByteArray)) (R := (Sl ByteArray)) (fun st2 => (if (decide ((st2.l.length : Int) ≤ 200)) = true then ((appS 16 st2 (⟨false, [⟨#[116]⟩]⟩ : Sl ByteArray)).bind fun y23 => (some (.inl y23))) else (some (.inr st2)))) y1.1.Trace).bind fun y22 => (some (y3.2.code_, y3.2.at_, y3.2.seed_, y1.1.At, y1.1.Input, y1.1.Output, y1.1.Files, y22))))))))) : Option (((Sl (Iv .u8)) × Int × Int × Int × (Sl ByteArray) × (Sl ByteArray) × (Sl ak_) × (Sl ByteArray)))).bind fun y5 => (some (y5.1, y5.2.1, y5.2.2.1, y5.2.2.2.1, y5.2.2.2.2.1, y5.2.2.2.2.2.1, y5.2.2.2.2.2.2.1, y5.2.2.2.2.2.2.2))) : Option (((Sl (Iv .u8)) × Int × Int × Int × (Sl ByteArray) × (Sl ByteArray) × (Sl ak_) × (Sl ByteArray)))).bind fun y4 => (some ((⟨y4.2.2.2.2.1, y4.2.2.2.1, y4.2.2.2.2.2.1, y4.2.2.2.2.2.2.1, y4.2.2.2.2.2.2.2⟩ : aa_), (⟨y4.1, y4.2.1, y4.2.2.1⟩ : ab_))))))))
theorem ec_ (a0 : ab_) (a1 : Int) (r : (aa_ × ab_)) (h : aU_ a0 a1 = some r) (bp0 : Nat) : RawS Try.prog md ext 27 [.ptr bp0 0 0 3, i4 a1] Sh_DConsole.n (fun hs => Sh_DConsole.tree hs r.1) [.box bp0 (ab_.cells a0)] (fun hs => Sh_DConsole.en hs r.1 ++ [.box bp0 (ab_.cells r.2)]) := by
 unfold aU_ at h
 refine cO_ rfl rfl ok_27 rfl ?_
 intro σ0 σ F σk s hS hH
 have hS := ae_ (L' := [(0, .ptr bp0 0 0 3), (1, i4 a1)]) hS (by kernel_rfl)
 refine t_go h hS hH ?_
 refine t_R ?_
 refine bg_ fun b1 => ?_
 refine t_N ?_
 refine t_RU 1 ?_
 refine t_h Heap.up1 ?_
 refine aL_ (fun y1 hs hy1 hl => ?_) (hr := by exact fun y1 hy1 => dk_ _ y1 hy1 bp0)
 obtain ⟨t1, t2, t3, t4, rfl⟩ := len4 hl
 refine bj_ ?_
 refine cU_ 0 fun ht1 => ?_
 refine cU_ 1 fun ht2 => ?_
 refine cU_ 2 fun ht3 => ?_
 refine cU_ 3 fun ht4 => ?_
 refine bg_ fun b2 => ?_
 refine av_ 0 ?_ (h1 := by simp [ht1.1, ht1.2, ht2.1, ht2.2, ht3.1, ht3.2, ht4.1, ht4.2])
 refine t_N ?_
 refine t_RU 2 ?_
 refine t_h Heap.up5 ?_
 refine aL_ (fun y2 hs hy2 hl => ?_) (hr := by exact fun y2 hy2 => bb_ _ _ y2 hy2 bp0)
 obtain rfl := len0 hl
 refine bj_ ?_
 refine t_N ?_
 refine t_if (fun hc1 => ?_) fun hc1 => ?_
 ·refine t_R ?_
  refine ad_ 1 ?_
  refine av_ 6 ?_ (h1 := by simp [ht1.1, ht1.2, ht2.1, ht2.2, ht3.1, ht3.2, ht4.1, ht4.2])
  refine t_N ?_
  intro h s σ hS hH
  obtain rfl := si_1 h
  exact dY_ [t1, t2, t3, t4] (eF_ (v := .agg [t1, i4 y1.1.At, t2, t3, t4]) hS hH rfl (by kernel_rfl) r_nil) rfl rfl (Heap.sel hH [3, 4, 5, 6, 1, 7] rfl (by kernel_rfl))
 refine t_RU 1 ?_
 refine aL_ (fun y3 hs hy3 hl => ?_) (hr := by exact fun y3 hy3 => aj_ _ _ y3 hy3 bp0)
 obtain rfl := len0 hl
 refine bj_ ?_
 refine t_N ?_
 refine gD_ 2 (fun y4 e fr => ∃ t5, aK_ t5 ∧ ∃ t6, aK_ t6 ∧ ∃ t7, aK_ t7 ∧ ∃ t8, aK_ t8 ∧ e = .normal ∧ Sub [(4, .ptr b1 0 0 5), (5, .ptr b2 0 0 5)] fr.s ∧ Heap σ0 fr.σ [.box bp0 [y4.1.t, i4 y4.2.1, .int .u64 y4.2.2.1], .box b2 [t5, i4 y4.2.2.2.1, t6, t7, t8], .box b1 [(nt ByteArray), i4 0, (nt ByteArray), (nt ak_), (nt ByteArray)], .own true 1 t5 y4.2.2.2.2.1.t, .own true 1 t6 y4.2.2.2.2.2.1.t, .own true 4 t7 y4.2.2.2.2.2.2.1.t, .own true 1 t8 y4.2.2.2.2.2.2.2.t, .keep F σk]) (fun y4 e fr h HF => ?_) fun y4 => ?_
 ·obtain ⟨s, σ⟩ := fr
  obtain ⟨t5, ht5, ⟨t6, ht6, ⟨t7, ht7, ⟨t8, ht8, ⟨rfl, hS, hH⟩⟩⟩⟩⟩ := HF
  refine t_bx h hS hH ?_
  refine t_R ?_
  refine ad_ 1 ?_
  refine av_ 2 ?_ (h1 := by simp [ht5.1, ht5.2, ht6.1, ht6.2, ht7.1, ht7.2, ht8.1, ht8.2])
  refine t_N ?_
  intro h s σ hS hH
  obtain rfl := si_1 h
  exact dY_ [t5, t6, t7, t8] (eF_ (v := .agg [t5, i4 y4.2.2.2.1, t6, t7, t8]) hS hH rfl (by kernel_rfl) r_nil) rfl rfl (Heap.sel hH [3, 4, 5, 6, 1, 7] rfl (by kernel_rfl))
 refine t_RN ?_
 refine gD_ 0 (fun y5 e fr => ∃ t9, aK_ t9 ∧ ∃ t10, aK_ t10 ∧ ∃ t11, aK_ t11 ∧ ∃ t12, aK_ t12 ∧ e = .normal ∧ Sub [(4, .ptr b1 0 0 5), (5, .ptr b2 0 0 5)] fr.s ∧ Heap σ0 fr.σ [.box bp0 [y5.1.t, i4 y5.2.1, .int .u64 y5.2.2.1], .box b2 [t9, i4 y5.2.2.2.1, t10, t11, t12], .box b1 [(nt ByteArray), i4 0, (nt ByteArray), (nt ak_), (nt ByteArray)], .own true 1 t9 y5.2.2.2.2.1.t, .own true 1 t10 y5.2.2.2.2.2.1.t, .own true 4 t11 y5.2.2.2.2.2.2.1.t, .own true 1 t12 y5.2.2.2.2.2.2.2.t, .keep F σk]) (fun y5 e fr h HF => ?_) fun y5 => ?_
 ·obtain ⟨s, σ⟩ := fr
  obtain ⟨t9, ht9, ⟨t10, ht10, ⟨t11, ht11, ⟨t12, ht12, ⟨rfl, hS, hH⟩⟩⟩⟩⟩ := HF
  refine t_bx h hS hH ?_
  exact t_e fun he hS hH => he ▸ ⟨t9, ht9, t10, ht10, t11, ht11, t12, ht12, rfl, (ae_ hS (by kernel_rfl)), hH⟩
 refine t_if (fun hc2 => ?_) fun hc2 => ?_
 ·refine t_RU 2 ?_
  refine ad_ 1 ?_
  refine c7_ (a := y1.1.Input) 2 ?_
  refine t_U 1 ?_
  refine k_bs (z := true) (⟨false, [⟨(-1)⟩, ⟨(w4 ((y1.1.Input.l.length : Int) + 1))⟩]⟩ : Sl (Iv .i64)) (fun t13 ht13 => ?_)
  refine t_h Heap.up1 ?_
  refine aL_ (fun y6 hs hy6 hl => ?_) (hr := by exact fun y6 hy6 => dM_ _ _ y6 hy6 bp0 1 t13)
  obtain rfl := len0 hl
  refine bj_ ?_
  refine t_U 1 ?_
  refine ey_ 2 ?_
  refine t_N ?_
  exact t_e fun he hS hH => he ▸ ⟨t1, ht1, t2, ht2, t3, ht3, t4, ht4, rfl, (ae_ hS (by kernel_rfl)), (Heap.sel hH [1, 0, 7, 3, 4, 5, 6, 8] rfl (by kernel_rfl))⟩
 refine t_RN ?_
 refine t_if (fun hc3 => ?_) fun hc3 => ?_
 ·refine eq_ [(3, (RB b2 RN)), (8, RN), (10, RN)] ext_x fun mb σs hn0 hlt hlto => ?_
  have hlt_b2 : b2 < mb := hlt b2 _ (List.Mem.tail _ (List.Mem.head _))
  refine t_U 1 ?_
  refine ad_ 1 ?_ (hlt := by exact (Or.inr ⟨hlt_b2, (Wc.cons (.inr (Or.inl rfl)) (Wc.cons (.inl (by kernel_rfl)) (Wc.cons (.inl (by kernel_rfl)) Wc.nil)))⟩))
  refine t_U 1 ?_
  refine c2_ (RB b2 RN) ext_x (Stay.box (List.Mem.head _) Stay.nil) (by exact fun x hx => Or.inr ⟨3, by kernel_rfl, hx⟩) (fun y7 hs hy7 hl => ?_) (hr := by exact fun y7 hy7 => aj_ _ _ y7 hy7 bp0)
  obtain rfl := len0 hl
  refine bj_ ?_
  refine t_U 1 ?_
  refine k2_ true ⟨0⟩ (fun y8 t14 hy8 ht14 => ?_) (hb := by exact hn0)
  refine mP_ (a := y8) 0 (fun y9 hy9 => ?_) (hq := by kernel_rfl)
  refine k_bs (z := true) (⟨false, [y9]⟩ : Sl ByteArray) (fun t15 ht15 => ?_) (hb := by exact hn0)
  refine ez_ 5 0 (fun y10 t16 hy10 ht16 => ?_) (hb := by exact hn0) (hwr := by exact fun hH b e o n h0 => Or.inr ⟨8, by kernel_rfl, fun h => h⟩)
  refine t_U 1 ?_
  refine bn_ 3 ht16 ?_ (hwr := by exact fun hH => Or.inr ⟨10, by kernel_rfl, fun h => h⟩)
  refine t_N ?_
  exact t_e fun he hS hH => he ▸ ⟨t1, ht1, t16, ht16, t3, ht3, t4, ht4, rfl, (ae_ hS (by kernel_rfl)), (Heap.sel hH [3, 0, 7, 4, 1, 5, 6, 8] rfl (by kernel_rfl))⟩
 refine t_RN ?_
 refine t_if (fun hc4 => ?_) fun hc4 => ?_
 ·refine cb_ (fun st1 fr => ∃ t18, aK_ t18 ∧ Sub [(4, .ptr b1 0 0 5), (5, .ptr b2 0 0 5)] fr.s ∧ Heap σ0 fr.σ [.box bp0 (ab_.cells y3.2), .box b2 [t18, i4 y1.1.At, t2, t3, t4], .box b1 [(nt ByteArray), i4 0, (nt ByteArray), (nt ak_), (nt ByteArray)], .own true 1 t18 st1.t, .own true 1 t2 y1.1.Output.t, .own true 4 t3 y1.1.Files.t, .own true 1 t4 y1.1.Trace.t, .keep F σk]) (fun y11 e fr => ∃ t19, aK_ t19 ∧ e = (.exit 3) ∧ Sub [(4, .ptr b1 0 0 5), (5, .ptr b2 0 0 5)] fr.s ∧ Heap σ0 fr.σ [.box bp0 (ab_.cells y3.2), .box b2 [t19, i4 y1.1.At, t2, t3, t4], .box b1 [(nt ByteArray), i4 0, (nt ByteArray), (nt ak_), (nt ByteArray)], .own true 1 t19 y11.t, .own true 1 t2 y1.1.Output.t, .own true 4 t3 y1.1.Files.t, .own true 1 t4 y1.1.Trace.t, .keep F σk]) (fun hS hH => ⟨t1, ht1, (ae_ hS (by kernel_rfl)), (Heap.sel hH [0, 1, 6, 2, 3, 4, 5, 7] rfl (by kernel_rfl))⟩) (fun st1 x fr h HI => ?_) fun y11 e fr h HF => ?_
  ·obtain ⟨s, σ⟩ := fr; obtain ⟨t18, ht18, ⟨hS, hH⟩⟩ := HI
   refine t_bk h hS hH ?_
   refine t_RU 1 ?_
   refine ad_ 1 ?_
   refine c7_ (a := st1) 3 ?_
   refine t_N ?_
   refine t_if (fun hc5 => ?_) fun hc5 => ?_
   ·refine t_RU 1 ?_
    refine ad_ 1 ?_
    refine k_bs (z := true) (⟨false, [⟨#[105]⟩]⟩ : Sl ByteArray) (fun t20 ht20 => ?_)
    refine ez_ 4 0 (fun y12 t21 hy12 ht21 => ?_)
    refine t_U 1 ?_
    refine bn_ 2 ht21 ?_
    refine t_N ?_
    exact t_e fun he hS hH => he ▸ ⟨t21, ht21, (ae_ hS (by kernel_rfl)), (Heap.sel hH [2, 0, 3, 1, 4, 5, 6, 7] rfl (by kernel_rfl))⟩
   exact t_e fun he hS hH => he ▸ ⟨t18, ht18, rfl, (ae_ hS (by kernel_rfl)), hH⟩
  obtain ⟨s, σ⟩ := fr
  obtain ⟨t19, ht19, ⟨rfl, hS, hH⟩⟩ := HF
  refine t_bx h hS hH ?_
  exact t_e fun he hS hH => he ▸ ⟨t19, ht19, t2, ht2, t3, ht3, t4, ht4, rfl, (ae_ hS (by kernel_rfl)), hH⟩
 refine t_RN ?_
 refine t_if (fun hc6 => ?_) fun hc6 => ?_
 ·refine eq_ [(4, (RB b2 RN)), (6, (RB b2 RN)), (9, RN), (11, RN)] ext_x fun mb σs hn0 hlt hlto => ?_
  have hlt_b2 : b2 < mb := hlt b2 _ (List.Mem.tail _ (List.Mem.head _))
  refine t_U 1 ?_
  refine ad_ 1 ?_ (hlt := by exact (Or.inr ⟨hlt_b2, (Wc.cons (.inr (Or.inl rfl)) (Wc.cons (.inr (Or.inl rfl)) (Wc.cons (.inl (by kernel_rfl)) (Wc.cons (.inl (by kernel_rfl)) Wc.nil))))⟩))
  refine t_U 1 ?_
  refine k_bs (z := true) (⟨false, [⟨#[]⟩, ⟨#[49]⟩, ⟨#[68, 65, 84, 65]⟩, ⟨#[90, 90]⟩]⟩ : Sl ByteArray) (fun t22 ht22 => ?_) (hb := by exact hn0)
  refine t_h Heap.up1 ?_
  refine c2_ (RB b2 RN) ext_x (Stay.box (List.Mem.head _) Stay.nil) (by exact fun x hx => Or.inr ⟨4, by kernel_rfl, hx⟩) (fun y13 hs hy13 hl => ?_) (hr := by exact fun y13 hy13 => cp_ _ _ y13 hy13 bp0 1 t22)
  obtain rfl := len0 hl
  refine bj_ ?_
  refine t_U 1 ?_
  refine c2_ (RB b2 RN) ext_x (Stay.box (List.Mem.tail _ (List.Mem.head _)) Stay.nil) (by exact fun x hx => Or.inr ⟨6, by kernel_rfl, hx⟩) (fun y14 hs hy14 hl => ?_) (hr := by exact fun y14 hy14 => aj_ _ _ y14 hy14 bp0)
  obtain rfl := len0 hl
  refine bj_ ?_
  refine t_U 1 ?_
  refine k_bs (z := true) (⟨false, [(⟨y13.1, ⟨true, []⟩, y14.1, 0⟩ : ak_)]⟩ : Sl ak_) (fun t23 ht23 => ?_) (hb := by exact hn0)
  refine ez_ 6 0 (fun y15 t24 hy15 ht24 => ?_) (hb := by exact hn0) (hwr := by exact fun hH b e o n h0 => Or.inr ⟨9, by kernel_rfl, fun h => h⟩)
  refine t_U 1 ?_
  refine bn_ 3 ht24 ?_ (hwr := by exact fun hH => Or.inr ⟨11, by kernel_rfl, fun h => h⟩)
  refine t_N ?_
  exact t_e fun he hS hH => he ▸ ⟨t1, ht1, t2, ht2, t24, ht24, t4, ht4, rfl, (ae_ hS (by kernel_rfl)), (Heap.sel hH [2, 0, 7, 4, 5, 1, 6, 8] rfl (by kernel_rfl))⟩
 refine t_RN ?_
 refine t_if (fun hc7 => ?_) fun hc7 => ?_
 ·refine t_RU 1 ?_
  refine ad_ 1 ?_
  refine c7_ (a := y1.1.Files) 4 ?_
  refine t_N ?_
  refine t_if (fun hc8 => ?_) fun hc8 => ?_
  ·refine eq_ [(3, (RB b2 RN)), (7, RN)] ext_x fun mb σs hn0 hlt hlto => ?_
   have hlt_b2 : b2 < mb := hlt b2 _ (List.Mem.tail _ (List.Mem.head _))
   refine t_U 1 ?_
   refine ad_ 1 ?_ (hlt := by exact (Or.inr ⟨hlt_b2, (Wc.cons (.inr (Or.inl rfl)) (Wc.cons (.inl (by kernel_rfl)) Wc.nil))⟩))
   refine t_U 1 ?_
   refine c2_ (RB b2 RN) ext_x (Stay.box (List.Mem.head _) Stay.nil) (by exact fun x hx => Or.inr ⟨3, by kernel_rfl, hx⟩) (fun y16 hs hy16 hl => ?_) (hr := by exact fun y16 hy16 => aj_ _ _ y16 hy16 bp0)
   obtain rfl := len0 hl
   refine bj_ ?_
   refine t_U 1 ?_
   refine gO_ 4 (fun hb1 hb1e y17 hy17 hl_hb1 => ?_) (hlt := by exact (fun _ _ _ _ _ => Or.inl (by kernel_rfl)))
   refine t_U 1 ?_
   refine t_h Heap.up4 ?_
   intro h s σ hS hH
   refine jU_ rfl (ents := []) (a := y1.1.Files) (j := 0) (y := y17) (y' := ((⟨y17.Name, y17.Lines, y17.Mode, (w4 (y16.1 - 1))⟩ : ak_) : ak_)) (off := 3) (c := [.str y17.Name, y17.Lines.t, i4 y17.Mode, i4 y17.At]) (us := [i4 (w4 (y16.1 - 1))]) (vs := [i4 (w4 (y16.1 - 1))]) (v := i4 (w4 (y16.1 - 1))) (by exact Or.inr ⟨7, by kernel_rfl, fun h => h⟩) rfl hS hH hl_hb1 rfl rfl rfl (by kernel_rfl) (by kernel_rfl) rfl hy17 rfl (HLi HL.nil) rfl (by kernel_rfl) ?_; intro σ s hH hS
   refine t_bk h hS hH ?_
   refine t_N ?_
   exact t_e fun he hS hH => he ▸ ⟨t1, ht1, t2, ht2, t3, ht3, t4, ht4, rfl, (ae_ hS (by kernel_rfl)), (Heap.sel hH [1, 2, 6, 3, 4, 0, 5, 7] rfl (by kernel_rfl))⟩
  exact t_e fun he hS hH => he ▸ ⟨t1, ht1, t2, ht2, t3, ht3, t4, ht4, rfl, (ae_ hS (by kernel_rfl)), (Heap.sel hH [0, 1, 6, 2, 3, 4, 5, 7] rfl (by kernel_rfl))⟩
 refine t_RN ?_
 refine t_if (fun hc9 => ?_) fun hc9 => ?_
 ·refine eq_ [(3, (RB b2 RN)), (8, RN), (10, RN)] ext_x fun mb σs hn0 hlt hlto => ?_
  have hlt_b2 : b2 < mb := hlt b2 _ (List.Mem.tail _ (List.Mem.head _))
  refine t_U 1 ?_
  refine ad_ 1 ?_ (hlt := by exact (Or.inr ⟨hlt_b2, (Wc.cons (.inr (Or.inl rfl)) (Wc.cons (.inl (by kernel_rfl)) (Wc.cons (.inl (by kernel_rfl)) Wc.nil)))⟩))
  refine t_U 1 ?_
  refine c2_ (RB b2 RN) ext_x (Stay.box (List.Mem.head _) Stay.nil) (by exact fun x hx => Or.inr ⟨3, by kernel_rfl, hx⟩) (fun y18 hs hy18 hl => ?_) (hr := by exact fun y18 hy18 => aj_ _ _ y18 hy18 bp0)
  obtain rfl := len0 hl
  refine bj_ ?_
  refine t_U 1 ?_
  refine k2_ true ⟨0⟩ (fun y19 t25 hy19 ht25 => ?_) (hb := by exact hn0)
  refine mP_ (a := y19) 0 (fun y20 hy20 => ?_) (hq := by kernel_rfl)
  refine k_bs (z := true) (⟨false, [y20]⟩ : Sl ByteArray) (fun t26 ht26 => ?_) (hb := by exact hn0)
  refine ez_ 7 0 (fun y21 t27 hy21 ht27 => ?_) (hb := by exact hn0) (hwr := by exact fun hH b e o n h0 => Or.inr ⟨8, by kernel_rfl, fun h => h⟩)
  refine t_U 1 ?_
  refine bn_ 3 ht27 ?_ (hwr := by exact fun hH => Or.inr ⟨10, by kernel_rfl, fun h => h⟩)
  refine t_N ?_
  exact t_e fun he hS hH => he ▸ ⟨t1, ht1, t2, ht2, t3, ht3, t27, ht27, rfl, (ae_ hS (by kernel_rfl)), (Heap.sel hH [3, 0, 7, 4, 5, 6, 1, 8] rfl (by kernel_rfl))⟩
 refine cb_ (fun st2 fr => ∃ t29, aK_ t29 ∧ Sub [(4, .ptr b1 0 0 5), (5, .ptr b2 0 0 5)] fr.s ∧ Heap σ0 fr.σ [.box bp0 (ab_.cells y3.2), .box b2 [t1, i4 y1.1.At, t2, t3, t29], .box b1 [(nt ByteArray), i4 0, (nt ByteArray), (nt ak_), (nt ByteArray)], .own true 1 t1 y1.1.Input.t, .own true 1 t2 y1.1.Output.t, .own true 4 t3 y1.1.Files.t, .own true 1 t29 st2.t, .keep F σk]) (fun y22 e fr => ∃ t30, aK_ t30 ∧ e = (.exit 1) ∧ Sub [(4, .ptr b1 0 0 5), (5, .ptr b2 0 0 5)] fr.s ∧ Heap σ0 fr.σ [.box bp0 (ab_.cells y3.2), .box b2 [t1, i4 y1.1.At, t2, t3, t30], .box b1 [(nt ByteArray), i4 0, (nt ByteArray), (nt ak_), (nt ByteArray)], .own true 1 t1 y1.1.Input.t, .own true 1 t2 y1.1.Output.t, .own true 4 t3 y1.1.Files.t, .own true 1 t30 y22.t, .keep F σk]) (fun hS hH => ⟨t4, ht4, (ae_ hS (by kernel_rfl)), (Heap.sel hH [0, 1, 6, 2, 3, 4, 5, 7] rfl (by kernel_rfl))⟩) (fun st2 x fr h HI => ?_) fun y22 e fr h HF => ?_
 ·obtain ⟨s, σ⟩ := fr; obtain ⟨t29, ht29, ⟨hS, hH⟩⟩ := HI
  refine t_bk h hS hH ?_
  refine t_RU 1 ?_
  refine ad_ 1 ?_
  refine c7_ (a := st2) 6 ?_
  refine t_N ?_
  refine t_if (fun hc10 => ?_) fun hc10 => ?_
  ·refine t_RU 1 ?_
   refine ad_ 1 ?_
   refine k_bs (z := true) (⟨false, [⟨#[116]⟩]⟩ : Sl ByteArray) (fun t31 ht31 => ?_)
   refine ez_ 7 0 (fun y23 t32 hy23 ht32 => ?_)
   refine t_U 1 ?_
   refine bn_ 2 ht32 ?_
   refine t_N ?_
   exact t_e fun he hS hH => he ▸ ⟨t32, ht32, (ae_ hS (by kernel_rfl)), (Heap.sel hH [2, 0, 3, 4, 5, 6, 1, 7] rfl (by kernel_rfl))⟩
  exact t_e fun he hS hH => he ▸ ⟨t29, ht29, rfl, (ae_ hS (by kernel_rfl)), hH⟩
 obtain ⟨s, σ⟩ := fr
 obtain ⟨t30, ht30, ⟨rfl, hS, hH⟩⟩ := HF
 refine t_bx h hS hH ?_
 exact t_e fun he hS hH => he ▸ ⟨t1, ht1, t2, ht2, t3, ht3, t30, ht30, rfl, (ae_ hS (by kernel_rfl)), hH⟩
noncomputable def bp_ (a0 : (Sl (Iv .u8))) : Option aa_ := ((aU_ (⟨a0, 0, 0⟩ : ab_) 9).bind fun y1 => (some y1.1))
theorem dL_ (a0 : (Sl (Iv .u8))) (r : aa_) (h : bp_ a0 = some r) : bt_ a0 = some r := by
 unfold bp_ at h
 refine k_W ok_8 E_DConsole_inj h (fun σ0 => ?_)
 refine t_R ?_
 refine bg_ fun b1 => ?_
 refine t_N ?_
 refine t_RU 1 ?_
 refine oH_ ok_26 ?_
 refine t_RN ?_
 refine t_RU 2 ?_
 refine gc_ (fun b2 => ?_)
 refine t_N ?_
 refine k_eI (rT rN) ?_
 refine t_N ?_
 refine t_RU 1 ?_
 refine aL_ (fun y1 hs hy1 hl => ?_) (hr := by exact fun y1 hy1 => ec_ _ _ y1 hy1 b2)
 obtain ⟨t1, t2, t3, t4, rfl⟩ := len4 hl
 refine bj_ ?_
 refine cU_ 0 fun ht1 => ?_
 refine cU_ 1 fun ht2 => ?_
 refine cU_ 2 fun ht3 => ?_
 refine cU_ 3 fun ht4 => ?_
 refine av_ 5 ?_ (h1 := by simp [ht1.1, ht1.2, ht2.1, ht2.2, ht3.1, ht3.2, ht4.1, ht4.2])
 refine t_N ?_
 intro h s σ hS hH
 obtain rfl := si_1 h
 have hH := hH.up4.up4.up4.up4
 exact ki_ (ents := [.own true 1 t1 y1.1.Input.t, .own true 1 t2 y1.1.Output.t, .own true 4 t3 y1.1.Files.t, .own true 1 t4 y1.1.Trace.t]) (z := false) hH (eF_ (v := .agg [t1, i4 y1.1.At, t2, t3, t4]) hS (hH.at 4 rfl) rfl (by kernel_rfl) r_nil) (HL.agg (es1 := [.own true 1 t1 y1.1.Input.t, .own true 1 t2 y1.1.Output.t, .own true 4 t3 y1.1.Files.t, .own true 1 t4 y1.1.Trace.t]) (es2 := []) (HL.own rfl (HLi (HL.own rfl (HL.own rfl (HL.own rfl HL.nil))))) HL.nil) (by simp [pureT, pureL, E_DConsole, aa_.cells])
noncomputable def bx_ (a0 : aa_) : Option Bool := ((dv_ a0).bind fun y1 => (some y1))
theorem dN_ (a0 : aa_) (r : Bool) (h : bx_ a0 = some r) : aM_ a0 = some r := by
 unfold bx_ at h
 refine k_W ok_9 E_bool_inj h (fun σ0 => ?_)
 refine t_R ?_
 refine gc_ (fun b1 => ?_)
 refine t_N ?_
 refine t_R ?_
 refine lw_ (lB 0 lN) fun y1 hy1 => ?_
 refine t_N ?_
 exact k_eW (rT rN) E_bool_p
noncomputable def a6_ (a0 : aa_) : Option (aa_ × ByteArray × Bool) := ((a1_ a0).bind fun y1 => (if (!y1) = true then (some ((⟨⟨true, []⟩, 0, ⟨true, []⟩, ⟨true, []⟩, ⟨true, []⟩⟩ : aa_), ⟨#[]⟩, false)) else ((aS_ a0).bind fun y2 => (((if (decide (y2.At = (y2.Input.l.length : Int))) = true then (some ((⟨#[]⟩, false), y2.At)) else ((elt y2.Input (w4 ((w4 (y2.At + 1)) - 1))).bind fun y4 => (some ((y4, true), (w4 (y2.At + 1)))))) : Option ((ByteArray × Bool) × Int)).bind fun y3 => (some ((⟨y2.Input, y3.2, y2.Output, y2.Files, y2.Trace⟩ : aa_), y3.1.1, y3.1.2))))))
theorem dt_ (a0 : aa_) (r : (aa_ × ByteArray × Bool)) (h : a6_ a0 = some r) : aN_ a0 = some r := by
 unfold a6_ at h
 refine k_W ok_10 E_t3_DConsole_str_bool_inj h (fun σ0 => ?_)
 refine t_R ?_
 refine gc_ (fun b1 => ?_)
 refine bg_ fun b2 => ?_
 refine t_N ?_
 refine t_R ?_
 refine ad_ 1 ?_
 refine aB_ fun y1 hy1 => ?_
 refine t_N ?_
 refine t_if (fun hc1 => ?_) fun hc1 => ?_
 ·refine t_RU 1 ?_
  refine av_ 0 ?_
  refine t_N ?_
  exact k_eW (rC 0 (rT (rT rN))) E_t3_DConsole_str_bool_p
 refine t_R ?_
 refine ad_ 1 ?_
 refine jj_ (fun y2 hs hy2 hl => ?_)
 obtain ⟨t1, t2, t3, t4, rfl⟩ := len4 hl
 refine bj_ ?_
 refine cU_ 0 fun ht1 => ?_
 refine cU_ 1 fun ht2 => ?_
 refine cU_ 2 fun ht3 => ?_
 refine cU_ 3 fun ht4 => ?_
 refine bg_ fun b3 => ?_
 refine av_ 0 ?_ (h1 := by simp [ht1.1, ht1.2, ht2.1, ht2.2, ht3.1, ht3.2, ht4.1, ht4.2])
 refine t_N ?_
 refine t_R ?_
 refine li_ (fun y3 s σ => Sub [(2, .ptr b2 0 0 5), (5, .ptr b3 0 0 5), (15, .tup [.str y3.1.1, .bool y3.1.2])] s ∧ Heap σ0 σ [.box b3 [t1, i4 y3.2, t2, t3, t4], .box b2 [(nt ByteArray), i4 0, (nt ByteArray), (nt ak_), (nt ByteArray)], .own true 1 t1 y2.Input.t, .own true 1 t2 y2.Output.t, .own true 4 t3 y2.Files.t, .own true 1 t4 y2.Trace.t]) ok_31 (fun y3 => ?_) fun y3 s σ HF h => ?_
 ·refine t_RN ?_
  refine t_D fun mb => ?_
  refine t_U 3 ?_
  refine ad_ 0 ?_
  refine t_U 3 ?_
  refine ad_ 0 ?_
  refine c7_ (a := y2.Input) 1 ?_
  refine t_N ?_
  refine t_if (fun hc2 => ?_) fun hc2 => ?_
  ·refine t_RN ?_
   exact k0_ (rT (rT rN)) fun he hS hH => he ▸ ⟨(ae_ hS (by kernel_rfl)), (Heap.sel hH [0, 5, 1, 2, 3, 4] rfl (by kernel_rfl))⟩
  refine t_RU 3 ?_
  refine ad_ 0 ?_
  refine t_U 3 ?_
  refine ey_ 0 ?_
  refine t_N ?_
  refine t_D fun mb => ?_
  refine t_U 3 ?_
  refine ad_ 0 ?_
  refine t_U 3 ?_
  refine ad_ 0 ?_
  refine t_U 1 ?_
  refine gO_ 1 (fun hb1 hb1e y4 hy4 hl_hb1 => ?_)
  refine ge_ 1 0 hl_hb1 hy4 ?_
  refine t_N ?_
  exact k0_ (rT (rT rN)) fun he hS hH => he ▸ ⟨(ae_ hS (by kernel_rfl)), (Heap.sel hH [0, 5, 1, 2, 3, 4] rfl (by kernel_rfl))⟩
 obtain ⟨hS, hH⟩ := HF
 refine t_bk h hS hH ?_
 refine t_N ?_
 refine t_R ?_
 refine ad_ 0 ?_
 refine t_U 2 ?_
 refine av_ 1 ?_ (h1 := by simp [ht1.1, ht1.2, ht2.1, ht2.2, ht3.1, ht3.2, ht4.1, ht4.2])
 refine t_N ?_
 intro h s σ hS hH
 obtain rfl := si_1 h
 have hH := hH.up5.up5.up5.up5
 exact ki_ (ents := [.own true 1 t1 y2.Input.t, .own true 1 t2 y2.Output.t, .own true 4 t3 y2.Files.t, .own true 1 t4 y2.Trace.t]) (z := false) hH (eF_ (v := .agg [t1, i4 y3.2, t2, t3, t4]) hS (hH.at 4 rfl) rfl (by kernel_rfl) (dH_ (v := .str y3.1.1) hS rfl (dH_ (v := .bool y3.1.2) hS rfl r_nil))) (HL.tup (es1 := [.own true 1 t1 y2.Input.t, .own true 1 t2 y2.Output.t, .own true 4 t3 y2.Files.t, .own true 1 t4 y2.Trace.t]) (es2 := []) (HL.agg (es1 := [.own true 1 t1 y2.Input.t, .own true 1 t2 y2.Output.t, .own true 4 t3 y2.Files.t, .own true 1 t4 y2.Trace.t]) (es2 := []) (HL.own rfl (HLi (HL.own rfl (HL.own rfl (HL.own rfl HL.nil))))) (HLs (HLb HL.nil))) HL.nil) (by simp [pureT, pureL, E_t3_DConsole_str_bool, aa_.cells])
noncomputable def bo_ (a0 : aa_) (a1 : ByteArray) : Option (aa_ × Int) := ((a1_ a0).bind fun y1 => (if (!y1) = true then (some ((⟨⟨true, []⟩, 0, ⟨true, []⟩, ⟨true, []⟩, ⟨true, []⟩⟩ : aa_), 1)) else ((cB_ a1).bind fun y2 => (if (!y2) = true then (some ((⟨⟨true, []⟩, 0, ⟨true, []⟩, ⟨true, []⟩, ⟨true, []⟩⟩ : aa_), 1)) else ((aS_ a0).bind fun y3 => (((if (decide ((y3.Output.l.length : Int) = 100)) = true then (some (6, y3.Output)) else ((appS 16 y3.Output (⟨false, [a1]⟩ : Sl ByteArray)).bind fun y5 => (some (0, y5)))) : Option (Int × (Sl ByteArray))).bind fun y4 => (if (!decide (y4.1 = 0)) = true then (some ((⟨⟨true, []⟩, 0, ⟨true, []⟩, ⟨true, []⟩, ⟨true, []⟩⟩ : aa_), y4.1)) else (some ((⟨y3.Input, y3.At, y4.2, y3.Files, y3.Trace⟩ : aa_), 0)))))))))
theorem eO_ (a0 : aa_) (a1 : ByteArray) (r : (aa_ × Int)) (h : bo_ a0 a1 = some r) : bl_ a0 a1 = some r := by
 unfold bo_ at h
 refine k_W ok_11 E_t2_DConsole_i64_inj h (fun σ0 => ?_)
 refine t_R ?_
 refine gc_ (fun b1 => ?_)
 refine bg_ fun b2 => ?_
 refine t_N ?_
 refine t_R ?_
 refine ad_ 1 ?_
 refine aB_ fun y1 hy1 => ?_
 refine t_U 2 ?_
 refine aE_ 11 (fun hc1 => ?_) fun hc1 => ?_
 ·refine t_N ?_
  refine t_cT rfl ?_
  refine t_RU 1 ?_
  refine av_ 0 ?_
  refine t_N ?_
  exact k_eW (rC 0 (rT rN)) E_t2_DConsole_i64_p
 refine t_U 1 ?_
 refine aB_ fun y2 hy2 => ?_
 refine t_N ?_
 refine t_if (fun hc2 => ?_) fun hc2 => ?_
 ·refine t_RU 1 ?_
  refine av_ 0 ?_
  refine t_N ?_
  exact k_eW (rC 0 (rT rN)) E_t2_DConsole_i64_p
 refine t_R ?_
 refine ad_ 1 ?_
 refine jj_ (fun y3 hs hy3 hl => ?_)
 obtain ⟨t1, t2, t3, t4, rfl⟩ := len4 hl
 refine bj_ ?_
 refine cU_ 0 fun ht1 => ?_
 refine cU_ 1 fun ht2 => ?_
 refine cU_ 2 fun ht3 => ?_
 refine cU_ 3 fun ht4 => ?_
 refine bg_ fun b3 => ?_
 refine av_ 0 ?_ (h1 := by simp [ht1.1, ht1.2, ht2.1, ht2.2, ht3.1, ht3.2, ht4.1, ht4.2])
 refine t_N ?_
 refine t_RU 1 ?_
 refine li_ (fun y4 s σ => ∃ t5, aK_ t5 ∧ Sub [(4, .ptr b2 0 0 5), (6, .ptr b3 0 0 5), (20, i4 y4.1)] s ∧ Heap σ0 σ [.box b3 [t1, i4 y3.At, t5, t3, t4], .box b2 [(nt ByteArray), i4 0, (nt ByteArray), (nt ak_), (nt ByteArray)], .own true 1 t1 y3.Input.t, .own true 1 t5 y4.2.t, .own true 4 t3 y3.Files.t, .own true 1 t4 y3.Trace.t]) ok_33 (fun y4 => ?_) fun y4 s σ HF h => ?_
 ·refine t_RN ?_
  refine t_RU 3 ?_
  refine ad_ 0 ?_
  refine c7_ (a := y3.Output) 2 ?_
  refine t_N ?_
  refine t_if (fun hc3 => ?_) fun hc3 => ?_
  ·refine t_RN ?_
   exact k0_ (rT rN) fun he hS hH => he ▸ ⟨t2, ht2, (ae_ hS (by kernel_rfl)), (Heap.sel hH [0, 5, 1, 2, 3, 4] rfl (by kernel_rfl))⟩
  refine t_RU 4 ?_
  refine ad_ 0 ?_
  refine t_U 1 ?_
  refine k_bs (z := true) (⟨false, [a1]⟩ : Sl ByteArray) (fun t6 ht6 => ?_)
  refine ez_ 3 0 (fun y5 t7 hy5 ht7 => ?_)
  refine t_U 2 ?_
  refine bn_ 1 ht7 ?_
  refine t_N ?_
  refine t_RN ?_
  exact k0_ (rT rN) fun he hS hH => he ▸ ⟨t7, ht7, (ae_ hS (by kernel_rfl)), (Heap.sel hH [0, 5, 2, 1, 3, 4] rfl (by kernel_rfl))⟩
 obtain ⟨t5, ht5, ⟨hS, hH⟩⟩ := HF
 refine t_bk h hS hH ?_
 refine t_N ?_
 refine t_RN ?_
 refine t_if (fun hc4 => ?_) fun hc4 => ?_
 ·refine t_RU 2 ?_
  refine av_ 1 ?_
  refine t_N ?_
  exact k_eW (rC 0 (rT rN)) E_t2_DConsole_i64_p
 refine t_R ?_
 refine ad_ 0 ?_
 refine av_ 1 ?_ (h1 := by simp [ht1.1, ht1.2, ht3.1, ht3.2, ht4.1, ht4.2, ht5.1, ht5.2])
 refine t_N ?_
 intro h s σ hS hH
 obtain rfl := si_1 h
 have hH := hH.up5.up5.up5.up5
 exact ki_ (ents := [.own true 1 t1 y3.Input.t, .own true 1 t5 y4.2.t, .own true 4 t3 y3.Files.t, .own true 1 t4 y3.Trace.t]) (z := false) hH (eF_ (v := .agg [t1, i4 y3.At, t5, t3, t4]) hS (hH.at 4 rfl) rfl (by kernel_rfl) (dH_ (v := i4 0) hS rfl r_nil)) (HL.tup (es1 := [.own true 1 t1 y3.Input.t, .own true 1 t5 y4.2.t, .own true 4 t3 y3.Files.t, .own true 1 t4 y3.Trace.t]) (es2 := []) (HL.agg (es1 := [.own true 1 t1 y3.Input.t, .own true 1 t5 y4.2.t, .own true 4 t3 y3.Files.t, .own true 1 t4 y3.Trace.t]) (es2 := []) (HL.own rfl (HLi (HL.own rfl (HL.own rfl (HL.own rfl HL.nil))))) (HLi HL.nil)) HL.nil) (by simp [pureT, pureL, E_t2_DConsole_i64, aa_.cells])
noncomputable def ch_ (a0 : (Sl ByteArray)) (a1 : (Sl ByteArray)) : Option Bool := (if ((!decide ((a0.l.length : Int) = (a1.l.length : Int)))) = true then (some false) else ((aW_ (S := Int) (R := (Unit ⊕ Bool)) (fun st1 => (if (decide (st1 < (a0.l.length : Int))) = true then ((elt a0 st1).bind fun y2 => ((elt a1 st1).bind fun y3 => (if (!decide (y2 = y3)) = true then (some (.inr (.inr false))) else (some (.inl (w4 (st1 + 1))))))) else (some (.inr (.inl ()))))) 0).bind fun y1 => (Sum.elim (fun y1 => (some true)) (fun y1 => (some y1)) y1)))
theorem e5_ (a0 : (Sl ByteArray)) (a1 : (Sl ByteArray)) (r : Bool) (h : ch_ a0 a1 = some r) : bL_ a0 a1 = some r := by
 unfold ch_ at h
 refine k_W ok_12 E_bool_inj h (fun σ0 => ?_)
 refine t_RN ?_
 refine t_RN ?_
 refine t_if (fun hc1 => ?_) fun hc1 => ?_
 ·refine t_RN ?_
  exact k_eW (rT rN) E_bool_p
 refine t_RN ?_
 refine cb_ (fun st1 fr => Sub [(0, a0.t), (1, a1.t), (5, i4 st1)] fr.s ∧ Heap σ0 fr.σ []) (fun y1 e fr => (Sum.elim (fun y => e = (.exit 0) ∧ Sub [] fr.s ∧ Heap σ0 fr.σ []) (fun y => e = .ret ∧ endW Try.prog (Try.f12.results.toList) σ0 (E_bool y) .ret fr)) y1) (fun hS hH => ⟨(ae_ hS (by kernel_rfl)), hH⟩) (fun st1 x fr h HI => ?_) fun y1 e fr h HF => ?_
 ·obtain ⟨s, σ⟩ := fr; obtain ⟨hS, hH⟩ := HI
  refine t_bk h hS hH ?_
  refine t_RN ?_
  refine t_if (fun hc2 => ?_) fun hc2 => ?_
  ·refine t_D fun mb => ?_
   refine t_U 2 ?_
   refine d8_ fun y2 rest1 hy2 => ?_
   refine t_U 3 ?_
   refine d8_ fun y3 rest2 hy3 => ?_
   refine t_N ?_
   refine t_if (fun hc3 => ?_) fun hc3 => ?_
   ·refine t_RN ?_
    exact t_e fun he hS hH => he ▸ ⟨rfl, (eW hS hH (rT rN) E_bool_p)⟩
   refine t_RN ?_
   exact t_e fun he hS hH => he ▸ ⟨(ae_ hS (by kernel_rfl)), hH⟩
  exact t_e fun he hS hH => he ▸ ⟨rfl, (ae_ hS (by kernel_rfl)), hH⟩
 obtain ⟨s, σ⟩ := fr
 rcases y1 with y1 | y1
 ·have h := el_l h
  obtain ⟨rfl, hS, hH⟩ := HF
  refine t_bx h hS hH ?_
  refine t_RN ?_
  exact k_eW (rT rN) E_bool_p
 have h := el_r h
 obtain ⟨rfl, HE⟩ := HF
 obtain rfl := si_1 h; exact HE
noncomputable def dq_ (a0 : aa_) : Option Bool := ((aV_ a0.Input 100 200).bind fun y1 => (if (!y1) = true then (some false) else ((b4_ a0.At 0 (a0.Input.l.length : Int)).bind fun y2 => (if (!y2) = true then (some false) else ((aV_ a0.Output 100 200).bind fun y3 => (if (!y3) = true then (some false) else (if (decide (6 < (a0.Files.l.length : Int))) = true then (some false) else ((aV_ a0.Trace 200 1300).bind fun y4 => (if (!y4) = true then (some false) else ((aW_ (S := Int) (R := (Unit ⊕ Bool)) (fun st1 => (if (decide (st1 < (a0.Files.l.length : Int))) = true then ((elt a0.Files st1).bind fun y6 => ((cC_ y6).bind fun y7 => (if (!y7) = true then (some (.inr (.inr false))) else (if (decide (0 < st1)) = true then ((elt a0.Files (w4 (st1 - 1))).bind fun y8 => ((elt a0.Files st1).bind fun y9 => (if (!Op.bytesLess y8.Name.toList y9.Name.toList) = true then (some (.inr (.inr false))) else (some (.inl (w4 (st1 + 1))))))) else (some (.inl (w4 (st1 + 1)))))))) else (some (.inr (.inl ()))))) 0).bind fun y5 => (Sum.elim (fun y5 => (some true)) (fun y5 => (some y5)) y5)))))))))))
theorem hf_ (a0 : aa_) (r : Bool) (h : dq_ a0 = some r) : dv_ a0 = some r := by
 unfold dq_ at h
 refine lO_ E_bool_inj rfl rfl ok_28 (fun bs hb => by obtain ⟨bp0, rfl⟩ := bl1 hb; exact rfl) (fun bs hb => by obtain ⟨bp0, rfl⟩ := bl1 hb; exact (all_cons rfl all_nil)) ?_
 intro σ0 bs s hL hS hH
 obtain ⟨bp0, rfl, hL_bp0⟩ := o4_ hL
 clear hL
 have hS := ae_ (L' := [(0, .ptr bp0 0 0 5)]) hS (by kernel_rfl)
 refine t_go h hS hH ?_
 refine t_RN ?_
 refine t_D fun mb => ?_
 refine t_U 3 ?_
 refine cE_ hL_bp0 ?_
 refine aB_ fun y1 hy1 => ?_
 refine t_U 2 ?_
 refine aE_ 10 (fun hc1 => ?_) fun hc1 => ?_
 ·refine t_N ?_
  refine t_cT rfl ?_
  refine t_RN ?_
  exact k_eW (rT rN) E_bool_p
 refine t_U 3 ?_
 refine cE_ hL_bp0 ?_
 refine t_U 3 ?_
 refine cE_ hL_bp0 ?_
 refine t_U 1 ?_
 refine aB_ fun y2 hy2 => ?_
 refine t_U 3 ?_
 refine aE_ 23 (fun hc2 => ?_) fun hc2 => ?_
 ·refine t_N ?_
  refine t_cT rfl ?_
  refine t_RN ?_
  exact k_eW (rT rN) E_bool_p
 refine t_U 3 ?_
 refine cE_ hL_bp0 ?_
 refine aB_ fun y3 hy3 => ?_
 refine t_U 3 ?_
 refine aE_ 31 (fun hc3 => ?_) fun hc3 => ?_
 ·refine t_N ?_
  refine t_cT rfl ?_
  refine t_RN ?_
  exact k_eW (rT rN) E_bool_p
 refine t_U 3 ?_
 refine cE_ hL_bp0 ?_
 refine t_U 4 ?_
 refine aE_ 39 (fun hc4 => ?_) fun hc4 => ?_
 ·refine t_N ?_
  refine t_cT rfl ?_
  refine t_RN ?_
  exact k_eW (rT rN) E_bool_p
 refine t_U 3 ?_
 refine cE_ hL_bp0 ?_
 refine aB_ fun y4 hy4 => ?_
 refine t_N ?_
 refine t_if (fun hc5 => ?_) fun hc5 => ?_
 ·refine t_RN ?_
  exact k_eW (rT rN) E_bool_p
 refine t_RN ?_
 refine cb_ (fun st1 fr => Sub [(0, .ptr bp0 0 0 5), (3, i4 st1)] fr.s ∧ Heap σ0 fr.σ []) (fun y5 e fr => (Sum.elim (fun y => e = (.exit 0) ∧ Sub [] fr.s ∧ Heap σ0 fr.σ []) (fun y => e = .ret ∧ endW Try.prog (Try.f28.results.toList) σ0 (E_bool y) .ret fr)) y5) (fun hS hH => ⟨(ae_ hS (by kernel_rfl)), hH⟩) (fun st1 x fr h HI => ?_) fun y5 e fr h HF => ?_
 ·obtain ⟨s, σ⟩ := fr; obtain ⟨hS, hH⟩ := HI
  refine t_bk h hS hH ?_
  refine t_RU 4 ?_
  refine cE_ hL_bp0 ?_
  refine t_N ?_
  refine t_if (fun hc6 => ?_) fun hc6 => ?_
  ·refine t_D fun mb => ?_
   refine t_U 3 ?_
   refine cE_ hL_bp0 ?_
   refine t_U 1 ?_
   refine d8_ fun y6 rest1 hy6 => ?_
   refine t_U 1 ?_
   refine aB_ fun y7 hy7 => ?_
   refine t_U 2 ?_
   refine aE_ 65 (fun hc7 => ?_) fun hc7 => ?_
   ·refine t_N ?_
    refine t_cT rfl ?_
    refine t_RN ?_
    exact t_e fun he hS hH => he ▸ ⟨rfl, (eW hS hH (rT rN) E_bool_p)⟩
   refine t_U 3 ?_
   refine aE_ 68 (fun hc8 => ?_) fun hc8 => ?_
   ·refine t_U 3 ?_
    refine cE_ hL_bp0 ?_
    refine t_U 2 ?_
    refine d8_ fun y8 rest2 hy8 => ?_
    refine t_U 5 ?_
    refine cE_ hL_bp0 ?_
    refine t_U 1 ?_
    refine d8_ fun y9 rest3 hy9 => ?_
    refine t_N ?_
    refine t_if (fun hc9 => ?_) fun hc9 => ?_
    ·refine t_RN ?_
     exact t_e fun he hS hH => he ▸ ⟨rfl, (eW hS hH (rT rN) E_bool_p)⟩
    refine t_RN ?_
    exact t_e fun he hS hH => he ▸ ⟨(ae_ hS (by kernel_rfl)), hH⟩
   refine t_N ?_
   refine t_cF ff_ne ?_
   refine t_RN ?_
   exact t_e fun he hS hH => he ▸ ⟨(ae_ hS (by kernel_rfl)), hH⟩
  exact t_e fun he hS hH => he ▸ ⟨rfl, (ae_ hS (by kernel_rfl)), hH⟩
 obtain ⟨s, σ⟩ := fr
 rcases y5 with y5 | y5
 ·have h := el_l h
  obtain ⟨rfl, hS, hH⟩ := HF
  refine t_bx h hS hH ?_
  refine t_RN ?_
  exact k_eW (rT rN) E_bool_p
 have h := el_r h
 obtain ⟨rfl, HE⟩ := HF
 obtain rfl := si_1 h; exact HE
noncomputable def bs_ (a0 : aa_) : Option Bool := (if (decide (100 < (a0.Input.l.length : Int))) = true then (some false) else (if (decide (100 < (a0.Output.l.length : Int))) = true then (some false) else (if (decide (6 < (a0.Files.l.length : Int))) = true then (some false) else (if (decide (200 < (a0.Trace.l.length : Int))) = true then (some false) else ((((al_ a0.Input (T.fn 32 [] [])).bind fun y5 => (if y5 = true then ((al_ a0.Output (T.fn 32 [] [])).bind fun y6 => (if y6 = true then ((al_ a0.Trace (T.fn 73 [] [])).bind fun y7 => (some y7)) else (some false))) else (some false))) : Option Bool).bind fun y1 => (if y1 = true then ((bd_ a0.At 0 (a0.Input.l.length : Int)).bind fun y2 => (if y2 = true then ((bG_ a0.Files (T.fn 77 [] [])).bind fun y3 => (if y3 = true then ((bh_ a0.Files (T.fn 40 [] [])).bind fun y4 => (some y4)) else (some false))) else (some false))) else (some false)))))))
theorem dI_ (a0 : aa_) (r : Bool) (h : bs_ a0 = some r) : a1_ a0 = some r := by
 unfold bs_ at h
 refine k_W ok_29 E_bool_inj h (fun σ0 => ?_)
 refine t_R ?_
 refine gc_ (fun b1 => ?_)
 refine t_N ?_
 refine t_RN ?_
 refine t_RU 1 ?_
 refine ad_ 0 ?_
 refine t_U 3 ?_
 refine aE_ 9 (fun hc1 => ?_) fun hc1 => ?_
 ·refine t_N ?_
  refine t_cT rfl ?_
  refine t_RN ?_
  exact k_eW (rT rN) E_bool_p
 refine t_U 1 ?_
 refine ad_ 0 ?_
 refine t_U 4 ?_
 refine aE_ 15 (fun hc2 => ?_) fun hc2 => ?_
 ·refine t_N ?_
  refine t_cT rfl ?_
  refine t_RN ?_
  exact k_eW (rT rN) E_bool_p
 refine t_U 1 ?_
 refine ad_ 0 ?_
 refine t_U 4 ?_
 refine aE_ 21 (fun hc3 => ?_) fun hc3 => ?_
 ·refine t_N ?_
  refine t_cT rfl ?_
  refine t_RN ?_
  exact k_eW (rT rN) E_bool_p
 refine t_U 1 ?_
 refine ad_ 0 ?_
 refine t_N ?_
 refine t_if (fun hc4 => ?_) fun hc4 => ?_
 ·refine t_RN ?_
  exact k_eW (rT rN) E_bool_p
 refine gD_ 0 (fun y1 e fr => e = .normal ∧ Sub [(1, .ptr b1 0 0 5), (4, .bool y1)] fr.s ∧ Heap σ0 fr.σ [.box b1 (aa_.cells a0)]) (fun y1 e fr h HF => ?_) fun y1 => ?_
 ·obtain ⟨s, σ⟩ := fr
  obtain ⟨rfl, hS, hH⟩ := HF
  refine t_bx h hS hH ?_
  refine t_RU 2 ?_
  refine aE_ 42 (fun hc5 => ?_) fun hc5 => ?_
  ·refine t_U 1 ?_
   refine ad_ 0 ?_
   refine t_U 1 ?_
   refine ad_ 0 ?_
   refine t_U 1 ?_
   refine aB_ fun y2 hy2 => ?_
   refine t_U 2 ?_
   refine aE_ 50 (fun hc6 => ?_) fun hc6 => ?_
   ·refine t_U 1 ?_
    refine ad_ 0 ?_
    refine aB_ fun y3 hy3 => ?_
    refine t_U 2 ?_
    refine aE_ 55 (fun hc7 => ?_) fun hc7 => ?_
    ·refine t_U 1 ?_
     refine ad_ 0 ?_
     refine aB_ fun y4 hy4 => ?_
     refine t_N ?_
     exact k_eW (rT rN) E_bool_p
    refine t_N ?_
    exact k_eW (rT rN) E_bool_p
   refine t_N ?_
   exact k_eW (rT rN) E_bool_p
  refine t_N ?_
  exact k_eW (rT rN) E_bool_p
 refine t_RU 1 ?_
 refine ad_ 0 ?_
 refine aB_ fun y5 hy5 => ?_
 refine t_U 1 ?_
 refine aE_ 30 (fun hc8 => ?_) fun hc8 => ?_
 ·refine t_U 1 ?_
  refine ad_ 0 ?_
  refine aB_ fun y6 hy6 => ?_
  refine t_U 2 ?_
  refine aE_ 35 (fun hc9 => ?_) fun hc9 => ?_
  ·refine t_U 1 ?_
   refine ad_ 0 ?_
   refine t_U 1 ?_
   refine aB_ fun y7 hy7 => ?_
   refine t_N ?_
   exact t_e fun he hS hH => he ▸ ⟨rfl, (ae_ hS (by kernel_rfl)), hH⟩
  refine t_N ?_
  exact t_e fun he hS hH => he ▸ ⟨rfl, (ae_ hS (by kernel_rfl)), hH⟩
 refine t_N ?_
 exact t_e fun he hS hH => he ▸ ⟨rfl, (ae_ hS (by kernel_rfl)), hH⟩
noncomputable def a9_ (a0 : aa_) : Option aa_ := ((ay_ a0.Input).bind fun y1 => ((ay_ a0.Output).bind fun y2 => ((ay_ a0.Trace).bind fun y3 => ((aW_ (S := (Int × (Sl ak_))) (R := (Sl ak_)) (fun st1 => (if (decide (st1.1 < (a0.Files.l.length : Int))) = true then ((elt a0.Files st1.1).bind fun y5 => ((ay_ y5.Lines).bind fun y6 => ((appS 56 st1.2 (⟨false, [(⟨y5.Name, y6, y5.Mode, y5.At⟩ : ak_)]⟩ : Sl ak_)).bind fun y7 => (some (.inl ((w4 (st1.1 + 1)), y7)))))) else (some (.inr st1.2)))) (0, (⟨true, []⟩ : Sl ak_))).bind fun y4 => (some (⟨y1, a0.At, y2, y4, y3⟩ : aa_))))))
theorem da_ (a0 : aa_) (r : aa_) (h : a9_ a0 = some r) : aS_ a0 = some r := by
 unfold a9_ at h
 refine k_O ok_30 h (fun σ0 => ?_)
 refine t_R ?_
 refine gc_ (fun b1 => ?_)
 refine bg_ fun b2 => ?_
 refine t_N ?_
 refine eq_ [(13, RN)] ext_x fun mb σs hn0 hlt hlto => ?_
 have hlt_b1 : b1 < mb := hlt b1 _ (List.Mem.tail _ (List.Mem.head _))
 refine t_U 1 ?_
 refine ad_ 1 ?_ (hlt := by exact (Or.inl (by kernel_rfl)))
 refine eQ_ (fun y1 t1 hy1 ht1 => ?_)
 refine t_U 1 ?_
 refine ad_ 2 ?_ (hlt := by exact (Or.inr ⟨hlt_b1, (Wc.cons (.inl (by kernel_rfl)) Wc.nil)⟩))
 refine t_U 1 ?_
 refine ad_ 2 ?_ (hlt := by exact (Or.inr ⟨hlt_b1, (Wc.cons (.inl (by kernel_rfl)) Wc.nil)⟩))
 refine eQ_ (fun y2 t2 hy2 ht2 => ?_)
 refine t_U 1 ?_
 refine ad_ 3 ?_ (hlt := by exact (Or.inr ⟨hlt_b1, (Wc.cons (.inl (by kernel_rfl)) Wc.nil)⟩))
 refine eQ_ (fun y3 t3 hy3 ht3 => ?_)
 intro h s σ hS hH
 refine hE_ (qs := [(0, t1), (1, i4 a0.At), (2, t2), (4, t3)]) (z := [(nt ByteArray), i4 0, (nt ByteArray), (nt ak_), (nt ByteArray)]) (r := [t1, i4 a0.At, t2, (nt ak_), t3]) [[t1], [i4 a0.At], [t2], [t3]] rfl hS rfl (by kernel_rfl) (by kernel_rfl) (⟨(by simp [ht1.1, ht1.2]), (by simp [ht1.1, ht1.2]), rfl, (by kernel_rfl), (by simp [ht2.1, ht2.2]), (by simp [ht2.1, ht2.2]), (by simp [ht3.1, ht3.2]), (by simp [ht3.1, ht3.2]), trivial⟩) (by kernel_rfl) ?_; intro s hS
 refine t_bk h hS hH ?_
 refine hW_ (by exact hn0) fun b3 hwr_b3 => ?_
 refine av_ 0 ?_ (h1 := by simp [ht1.1, ht1.2, ht2.1, ht2.2, ht3.1, ht3.2]) (hwr := by exact fun _ => Or.inl hwr_b3)
 refine t_N ?_
 refine t_RU 1 ?_
 refine ad_ 5 ?_
 refine t_N ?_
 refine t_h (Heap.addNil · true 4) ?_
 refine cb_ (fun st1 fr => ∃ t5, aK_ t5 ∧ Sub [(2, .ptr b2 0 0 5), (3, .ptr b3 0 0 5), (19, a0.Files.t), (20, i4 (a0.Files.l.length : Int)), (21, i4 st1.1)] fr.s ∧ Heap σ0 fr.σ [.box b3 [t1, i4 a0.At, t2, t5, t3], .box b2 [(nt ByteArray), i4 0, (nt ByteArray), (nt ak_), (nt ByteArray)], .own true 1 t1 y1.t, .own true 1 t2 y2.t, .own true 4 t5 st1.2.t, .own true 1 t3 y3.t]) (fun y4 e fr => ∃ t6, aK_ t6 ∧ e = (.exit 0) ∧ Sub [(2, .ptr b2 0 0 5), (3, .ptr b3 0 0 5)] fr.s ∧ Heap σ0 fr.σ [.box b3 [t1, i4 a0.At, t2, t6, t3], .box b2 [(nt ByteArray), i4 0, (nt ByteArray), (nt ak_), (nt ByteArray)], .own true 1 t1 y1.t, .own true 1 t2 y2.t, .own true 4 t6 y4.t, .own true 1 t3 y3.t]) (fun hS hH => ⟨(T.row true 0 []), ⟨rfl, rfl⟩, (ae_ hS (by kernel_rfl)), (Heap.sel hH [1, 5, 4, 3, 0, 2] rfl (by kernel_rfl))⟩) (fun st1 x fr h HI => ?_) fun y4 e fr h HF => ?_
 ·obtain ⟨s, σ⟩ := fr; obtain ⟨t5, ht5, ⟨hS, hH⟩⟩ := HI
  refine t_bk h hS hH ?_
  refine t_RN ?_
  refine t_if (fun hc1 => ?_) fun hc1 => ?_
  ·refine t_R ?_
   refine d8_ fun y5 rest1 hy5 => ?_
   refine t_U 1 ?_
   refine bg_ fun b4 => ?_
   refine av_ 0 ?_
   refine t_N ?_
   refine t_RU 1 ?_
   refine ad_ 0 ?_
   refine eQ_ (fun y6 t7 hy6 ht7 => ?_)
   refine t_U 1 ?_
   refine bn_ 1 ht7 ?_
   refine t_N ?_
   refine t_RU 1 ?_
   refine ad_ 2 ?_
   refine ad_ 0 ?_
   refine t_h Heap.up1 ?_
   refine k_bs (z := true) (⟨false, [(⟨y5.Name, y6, y5.Mode, y5.At⟩ : ak_)]⟩ : Sl ak_) (fun t8 ht8 => ?_) (h1 := by simp [ht7.1, ht7.2])
   refine ez_ 6 0 (fun y7 t9 hy7 ht9 => ?_)
   refine t_U 1 ?_
   refine bn_ 2 ht9 ?_
   refine t_N ?_
   refine t_RN ?_
   exact t_e fun he hS hH => he ▸ ⟨t9, ht9, (ae_ hS (by kernel_rfl)), (Heap.sel hH [0, 3, 4, 5, 1, 6] rfl (by kernel_rfl))⟩
  exact t_e fun he hS hH => he ▸ ⟨t5, ht5, rfl, (ae_ hS (by kernel_rfl)), hH⟩
 obtain ⟨s, σ⟩ := fr
 obtain ⟨t6, ht6, ⟨rfl, hS, hH⟩⟩ := HF
 refine t_bx h hS hH ?_
 refine t_R ?_
 refine ad_ 0 ?_
 refine av_ 1 ?_ (h1 := by simp [ht1.1, ht1.2, ht2.1, ht2.2, ht3.1, ht3.2, ht6.1, ht6.2])
 refine t_N ?_
 refine t_h (·.up5.up5.up5.up5) ?_
 exact k_eO [t1, t2, t6, t3] (rC 4 rN)
noncomputable def cF_ (a0 : ByteArray) : Option Bool := (some (decide ((a0.size : Int) ≤ 200)))
theorem fA_ (a0 : ByteArray) (r : Bool) (h : cF_ a0 = some r) : cB_ a0 = some r := by
 unfold cF_ at h
 refine k_W ok_32 E_bool_inj h (fun σ0 => ?_)
 refine t_RN ?_
 refine t_RN ?_
 exact k_eW (rT rN) E_bool_p
end Go.Am
