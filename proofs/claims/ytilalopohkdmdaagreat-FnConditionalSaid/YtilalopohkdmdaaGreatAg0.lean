/- Functions of the program. -/
import Derived.Test.YtilalopohkdmdaaGreatAd0
set_option maxRecDepth 100000
set_option maxHeartbeats 4000000
set_option linter.unusedVariables false
set_option linter.unusedSimpArgs false
namespace Go.Am
open Go.Proofs
noncomputable def cy_ (a0 : (Sl (Iv .u8))) : Option Bool := (if (decide (1048576 < (a0.l.length : Int))) = true then (some true) else ((fI_ a0).bind fun y1 => ((eB_ 1 a0).bind fun y2 => ((fm_ y2).bind fun y3 => ((fb_ 21 ⟨#[119]⟩ ⟨false, [y3]⟩).bind fun y4 => ((eB_ 2 a0).bind fun y5 => ((dM_ y5).bind fun y6 => ((gl_ a0 3 2).bind fun y7 => ((dz_ y1 y4 y6 (decide (y7 = 0)) 2000).bind fun y8 => (if (!y8.2.2) = true then (some false) else (if (!decide (y8.2.1 = 0)) = true then (some true) else ((az_ (S := Int) (R := (Unit ⊕ Bool)) (fun st1 => (if (decide (st1 < (y8.1.l.length : Int))) = true then ((elt y8.1 st1).bind fun y10 => ((elt y8.1 st1).bind fun y11 => ((fR_ y11).bind fun y12 => (if (!y12.2) = true then (some (.inr (.inr false))) else (if ((decide ((y10.Captures.l.length : Int) = (y12.1.l.length : Int)))) = true then (some (.inr (.inr false))) else ((elt y10.Captures (w4 ((y10.Captures.l.length : Int) - 1))).bind fun y13 => ((elt y8.1 st1).bind fun y14 => (if (decide (y14.Start < 0)) = true then (some (.inr (.inr false))) else ((elt y8.1 st1).bind fun y15 => (if (decide ((y6.size : Int) < y15.End)) = true then (some (.inr (.inr false))) else (if (!decide (y13.Name = (⟨#[119]⟩ : ByteArray))) = true then (some (.inr (.inr false))) else ((elt y8.1 st1).bind fun y16 => ((cI_ y6 y16).bind fun y17 => (if (!decide (y13.Text = y17)) = true then (some (.inr (.inr false))) else ((elt y8.1 st1).bind fun y18 => (if (!decide (y13.Cursor = y18.End)) = true then (some (.inr (.inr false))) else ((az_ (S := Int) (R := (Unit ⊕ Bool)) (fun st2 => (if (decide (st2 < (y10.Captures.l.length : Int))) = true then ((elt y10.Captures st2).bind fun y20 => ((elt y10.Captures st2).bind fun y21 => ((elt y8.1 st1).bind fun y22 => (if (decide ((w4 (y20.Cursor - (y21.Text.size : Int))) < y22.Start)) = true then (some (.inr (.inr false))) else ((elt y10.Captures st2).bind fun y23 => ((elt y8.1 st1).bind fun y24 => (if (decide (y24.End < y23.Cursor)) = true then (some (.inr (.inr false))) else ((elt y10.Captures st2).bind fun y25 => (if (decide (y25.Cursor < (w4 (y20.Cursor - (y21.Text.size : Int))))) = true then (some (.inr (.inr false))) else ((elt y10.Captures st2).bind fun y26 => ((subB y6 (w4 (y20.Cursor - (y21.Text.size : Int))) y26.Cursor).bind fun y27 => ((elt y10.Captures st2).bind fun y28 => (if (!decide (y27 = y28.Text)) = true then (some (.inr (.inr false))) else (if (decide ((y12.1.l.length : Int) < st2)) = true then ((elt y10.Captures (w4 (st2 - 1))).bind fun y29 => ((elt y10.Captures st2).bind fun y30 => (if (decide (y30.Cursor < y29.Cursor)) = true then (some (.inr (.inr false))) else (some (.inl (w4 (st2 + 1))))))) else (some (.inl (w4 (st2 + 1)))))))))))))))))) else (some (.inr (.inl ()))))) (y12.1.l.length : Int)).bind fun y19 => (Sum.elim (fun y19 => (some (.inl (w4 (st1 + 1))))) (fun y19 => (some (.inr (.inr y19)))) y19)))))))))))))))))) else (some (.inr (.inl ()))))) 0).bind fun y9 => (Sum.elim (fun y9 => (some true)) (fun y9 => (some y9)) y9)))))))))))))
theorem ga_ (a0 : (Sl (Iv .u8))) (r : Bool) (h : cy_ a0 = some r) : dP_ a0 = some r := by
 unfold cy_ at h
 refine k_W ok_8 E_bool_inj h (fun σ0 => ?_)
 refine t_RN ?_
 refine t_RN ?_
 refine t_if (fun hc1 => ?_) fun hc1 => ?_
 ·refine t_RN ?_
  exact k_eW (rT rN) E_bool_p
 refine t_RU 1 ?_
 refine au_ fun y1 hy1 => ?_
 refine t_N ?_
 refine t_RU 1 ?_
 refine au_ fun y2 hy2 => ?_
 refine au_ fun y3 hy3 => ?_
 refine k_bs (z := false) (⟨false, [y3]⟩ : Sl DPattern) (fun t1 ht1 => ?_)
 intro h s σ hS hH
 obtain ⟨y4, hy4, h⟩ := bind_some h
 refine oW_ (ents := [.own false 4 t1 (Sl.t (⟨false, [y3]⟩ : Sl DPattern))]) (z := false) (ts := [i4 21, .str ⟨#[119]⟩, t1]) (vs := [i4 21, .str ⟨#[119]⟩, (Sl.t (⟨false, [y3]⟩ : Sl DPattern))]) rfl hS rfl rfl rfl hH rfl (HLi (HLs (HL.own rfl HL.nil))) hy4 (by kernel_rfl) ?_; intro σ s hH hS
 have hH : Heap σ0 σ [.own false 4 t1 (Sl.t (⟨false, [y3]⟩ : Sl DPattern))] := hH
 refine t_bk h hS hH ?_
 refine bX_ fun b1 => ?_
 refine aV_ 0 ?_
 refine t_N ?_
 refine t_RU 1 ?_
 refine au_ fun y5 hy5 => ?_
 refine au_ fun y6 hy6 => ?_
 refine t_N ?_
 refine t_D fun mb => ?_
 refine t_U 1 ?_
 refine ad_ 0 ?_
 refine t_U 2 ?_
 refine au_ fun y7 hy7 => ?_
 refine t_U 1 ?_
 refine au_ fun y8 hy8 => ?_
 refine t_N ?_
 refine t_RN ?_
 refine t_if (fun hc2 => ?_) fun hc2 => ?_
 ·refine t_RN ?_
  exact k_eW (rT rN) E_bool_p
 refine t_RN ?_
 refine t_if (fun hc3 => ?_) fun hc3 => ?_
 ·refine t_RN ?_
  exact k_eW (rT rN) E_bool_p
 refine t_RN ?_
 refine a3_ (fun st1 fr => Sub [(5, .str y6), (6, y8.1.t), (9, i4 st1)] fr.s ∧ Heap σ0 fr.σ []) (fun y9 e fr => (Sum.elim (fun y => e = (.exit 0) ∧ Sub [] fr.s ∧ Heap σ0 fr.σ []) (fun y => e = .ret ∧ endW Tryz.prog (Tryz.f8.results.toList) σ0 (E_bool y) .ret fr)) y9) (fun hS hH => ⟨(ae_ hS (by kernel_rfl)), (Heap.sel hH [] rfl (by kernel_rfl))⟩) (fun st1 x fr h HI => ?_) fun y9 e fr h HF => ?_
 ·obtain ⟨s, σ⟩ := fr; obtain ⟨hS, hH⟩ := HI
  refine t_bk h hS hH ?_
  refine t_RN ?_
  refine t_if (fun hc4 => ?_) fun hc4 => ?_
  ·refine t_RU 2 ?_
   refine a9_ fun y10 rest1 hy10 => ?_
   refine t_N ?_
   refine t_RU 2 ?_
   refine a9_ fun y11 rest2 hy11 => ?_
   refine t_U 1 ?_
   refine au_ fun y12 hy12 => ?_
   refine t_N ?_
   refine t_RU 3 ?_
   refine aD_ 65 (fun hc5 => ?_) fun hc5 => ?_
   ·refine t_N ?_
    refine t_cT rfl ?_
    refine t_RN ?_
    exact t_e fun he hS hH => he ▸ ⟨rfl, (eW hS hH (rT rN) E_bool_p)⟩
   refine t_N ?_
   refine t_if (fun hc6 => ?_) fun hc6 => ?_
   ·refine t_RN ?_
    exact t_e fun he hS hH => he ▸ ⟨rfl, (eW hS hH (rT rN) E_bool_p)⟩
   refine t_RU 4 ?_
   refine a9_ fun y13 rest3 hy13 => ?_
   refine t_U 1 ?_
   refine bX_ fun b2 => ?_
   refine aV_ 0 ?_
   refine t_N ?_
   refine t_RU 2 ?_
   refine a9_ fun y14 rest4 hy14 => ?_
   refine t_U 4 ?_
   refine aD_ 84 (fun hc7 => ?_) fun hc7 => ?_
   ·refine t_N ?_
    refine t_cT rfl ?_
    refine t_RN ?_
    exact t_e fun he hS hH => he ▸ ⟨rfl, (eW hS hH (rT rN) E_bool_p)⟩
   refine t_U 2 ?_
   refine a9_ fun y15 rest5 hy15 => ?_
   refine t_N ?_
   refine t_if (fun hc8 => ?_) fun hc8 => ?_
   ·refine t_RN ?_
    exact t_e fun he hS hH => he ▸ ⟨rfl, (eW hS hH (rT rN) E_bool_p)⟩
   refine t_D fun mb => ?_
   refine t_U 1 ?_
   refine ad_ 0 ?_
   refine t_U 2 ?_
   refine aD_ 97 (fun hc9 => ?_) fun hc9 => ?_
   ·refine t_N ?_
    refine t_cT rfl ?_
    refine t_RN ?_
    exact t_e fun he hS hH => he ▸ ⟨rfl, (eW hS hH (rT rN) E_bool_p)⟩
   refine t_U 1 ?_
   refine ad_ 0 ?_
   refine t_U 3 ?_
   refine a9_ fun y16 rest6 hy16 => ?_
   refine t_U 1 ?_
   refine au_ fun y17 hy17 => ?_
   refine t_U 3 ?_
   refine aD_ 108 (fun hc10 => ?_) fun hc10 => ?_
   ·refine t_N ?_
    refine t_cT rfl ?_
    refine t_RN ?_
    exact t_e fun he hS hH => he ▸ ⟨rfl, (eW hS hH (rT rN) E_bool_p)⟩
   refine t_U 1 ?_
   refine ad_ 0 ?_
   refine t_U 2 ?_
   refine a9_ fun y18 rest7 hy18 => ?_
   refine t_N ?_
   refine t_if (fun hc11 => ?_) fun hc11 => ?_
   ·refine t_RN ?_
    exact t_e fun he hS hH => he ▸ ⟨rfl, (eW hS hH (rT rN) E_bool_p)⟩
   refine t_RN ?_
   refine a3_ (fun st2 fr => Sub [(5, .str y6), (6, y8.1.t), (9, i4 st1), (10, y10.Captures.t), (11, y12.1.t), (14, i4 st2)] fr.s ∧ Heap σ0 fr.σ []) (fun y19 e fr => (Sum.elim (fun y => e = (.exit 2) ∧ Sub [(5, .str y6), (6, y8.1.t), (9, i4 st1)] fr.s ∧ Heap σ0 fr.σ []) (fun y => e = .ret ∧ endW Tryz.prog (Tryz.f8.results.toList) σ0 (E_bool y) .ret fr)) y19) (fun hS hH => ⟨(ae_ hS (by kernel_rfl)), (Heap.sel hH [] rfl (by kernel_rfl))⟩) (fun st2 x fr h HI => ?_) fun y19 e fr h HF => ?_
   ·obtain ⟨s, σ⟩ := fr; obtain ⟨hS, hH⟩ := HI
    refine t_bk h hS hH ?_
    refine t_RN ?_
    refine t_if (fun hc12 => ?_) fun hc12 => ?_
    ·refine t_D fun mb => ?_
     refine t_U 2 ?_
     refine a9_ fun y20 rest8 hy20 => ?_
     refine t_U 4 ?_
     refine a9_ fun y21 rest9 hy21 => ?_
     refine t_N ?_
     refine t_D fun mb => ?_
     refine t_U 3 ?_
     refine a9_ fun y22 rest10 hy22 => ?_
     refine t_U 4 ?_
     refine aD_ 145 (fun hc13 => ?_) fun hc13 => ?_
     ·refine t_N ?_
      refine t_cT rfl ?_
      refine t_RN ?_
      exact t_e fun he hS hH => he ▸ ⟨rfl, (eW hS hH (rT rN) E_bool_p)⟩
     refine t_U 2 ?_
     refine a9_ fun y23 rest11 hy23 => ?_
     refine t_U 4 ?_
     refine a9_ fun y24 rest12 hy24 => ?_
     refine t_U 5 ?_
     refine aD_ 158 (fun hc14 => ?_) fun hc14 => ?_
     ·refine t_N ?_
      refine t_cT rfl ?_
      refine t_RN ?_
      exact t_e fun he hS hH => he ▸ ⟨rfl, (eW hS hH (rT rN) E_bool_p)⟩
     refine t_U 3 ?_
     refine a9_ fun y25 rest13 hy25 => ?_
     refine t_U 5 ?_
     refine aD_ 167 (fun hc15 => ?_) fun hc15 => ?_
     ·refine t_N ?_
      refine t_cT rfl ?_
      refine t_RN ?_
      exact t_e fun he hS hH => he ▸ ⟨rfl, (eW hS hH (rT rN) E_bool_p)⟩
     refine t_U 4 ?_
     refine a9_ fun y26 rest14 hy26 => ?_
     refine t_U 2 ?_
     refine gF_ fun y27 hy27 => ?_
     refine t_U 2 ?_
     refine a9_ fun y28 rest15 hy28 => ?_
     refine t_U 5 ?_
     refine aD_ 183 (fun hc16 => ?_) fun hc16 => ?_
     ·refine t_N ?_
      refine t_cT rfl ?_
      refine t_RN ?_
      exact t_e fun he hS hH => he ▸ ⟨rfl, (eW hS hH (rT rN) E_bool_p)⟩
     refine t_U 5 ?_
     refine aD_ 188 (fun hc17 => ?_) fun hc17 => ?_
     ·refine t_U 3 ?_
      refine a9_ fun y29 rest16 hy29 => ?_
      refine t_U 4 ?_
      refine a9_ fun y30 rest17 hy30 => ?_
      refine t_N ?_
      refine t_if (fun hc18 => ?_) fun hc18 => ?_
      ·refine t_RN ?_
       exact t_e fun he hS hH => he ▸ ⟨rfl, (eW hS hH (rT rN) E_bool_p)⟩
      refine t_RN ?_
      exact t_e fun he hS hH => he ▸ ⟨(ae_ hS (by kernel_rfl)), hH⟩
     refine t_N ?_
     refine t_cF ff_ne ?_
     refine t_RN ?_
     exact t_e fun he hS hH => he ▸ ⟨(ae_ hS (by kernel_rfl)), hH⟩
    exact t_e fun he hS hH => he ▸ ⟨rfl, (ae_ hS (by kernel_rfl)), hH⟩
   obtain ⟨s, σ⟩ := fr
   rcases y19 with y19 | y19
   ·have h := el_l h
    obtain ⟨rfl, hS, hH⟩ := HF
    refine t_bx h hS hH ?_
    refine t_RN ?_
    exact t_e fun he hS hH => he ▸ ⟨(ae_ hS (by kernel_rfl)), hH⟩
   have h := el_r h
   obtain ⟨rfl, HE⟩ := HF
   obtain rfl := si_1 h; exact ⟨rfl, HE⟩
  exact t_e fun he hS hH => he ▸ ⟨rfl, (ae_ hS (by kernel_rfl)), hH⟩
 obtain ⟨s, σ⟩ := fr
 rcases y9 with y9 | y9
 ·have h := el_l h
  obtain ⟨rfl, hS, hH⟩ := HF
  refine t_bx h hS hH ?_
  refine t_RN ?_
  exact k_eW (rT rN) E_bool_p
 have h := el_r h
 obtain ⟨rfl, HE⟩ := HF
 obtain rfl := si_1 h; exact HE
noncomputable def bl_ (a0 : ah_) : Option (Int × ah_) := (((if (decide (a0.at_ < (a0.code_.l.length : Int))) = true then ((elt a0.code_ a0.at_).bind fun y2 => (some (w4 y2.v))) else (some 0)) : Option Int).bind fun y1 => (if ((decide ((w4 (a0.at_ + 1)) ≤ (a0.code_.l.length : Int)))) = true then (some (y1, (⟨a0.code_, (w4 (a0.at_ + 1)), (IntKind.u64.wrap ((IntKind.u64.wrap ((IntKind.u64.wrap (a0.seed_ * 6364136223846793005)) + (IntKind.u64.wrap y1))) + 1442695040888963407))⟩ : ah_))) else (some ((w4 ((andI .u64 ((((IntKind.u64.wrap ((IntKind.u64.wrap ((IntKind.u64.wrap (a0.seed_ * 6364136223846793005)) + (IntKind.u64.wrap y1))) + 1442695040888963407))).fdiv (2 ^ 40))) 255))), (⟨a0.code_, (w4 (a0.at_ + 1)), (IntKind.u64.wrap ((IntKind.u64.wrap ((IntKind.u64.wrap (a0.seed_ * 6364136223846793005)) + (IntKind.u64.wrap y1))) + 1442695040888963407))⟩ : ah_)))))
theorem ex_ (a0 : ah_) (r : (Int × ah_)) (h : bl_ a0 = some r) (bp0 : Nat) : RawS Tryz.prog md ext 59 [.ptr bp0 0 0 3] 0 (fun hs => E_i64 r.1) [.box bp0 (ah_.cells a0)] (fun hs => [.box bp0 (ah_.cells r.2)]) := by
 unfold bl_ at h
 refine bW_ rfl rfl ok_59 rfl ?_
 intro σ0 σ F σk s hS hH
 have hS := ae_ (L' := [(0, .ptr bp0 0 0 3)]) hS (by kernel_rfl)
 refine t_go h hS hH ?_
 refine t_RN ?_
 refine t_RN ?_
 refine t_D fun mb => ?_
 refine t_U 3 ?_
 refine ad_ 0 ?_
 refine t_U 3 ?_
 refine ad_ 0 ?_
 refine t_N ?_
 refine es_ 0 (fun y1 e fr => e = .normal ∧ Sub [(0, .ptr bp0 0 0 3), (3, i4 y1)] fr.s ∧ Heap σ0 fr.σ [.box bp0 (ah_.cells a0), .keep F σk]) (fun y1 e fr h HF => ?_) fun y1 => ?_
 ·obtain ⟨s, σ⟩ := fr
  obtain ⟨rfl, hS, hH⟩ := HF
  refine t_bx h hS hH ?_
  refine t_RU 3 ?_
  refine ad_ 0 ?_
  refine t_U 3 ?_
  refine aK_ 0 ?_
  refine t_N ?_
  refine t_RU 4 ?_
  refine ad_ 0 ?_
  refine t_U 7 ?_
  refine aK_ 0 ?_
  refine t_N ?_
  refine t_D fun mb => ?_
  refine t_U 3 ?_
  refine ad_ 0 ?_
  refine t_U 3 ?_
  refine ad_ 0 ?_
  refine t_N ?_
  refine t_if (fun hc1 => ?_) fun hc1 => ?_
  ·refine t_RN ?_
   intro h s σ hS hH
   obtain rfl := si_1 h
   exact aP_ [] (bo_ (v := i4 y1) hS rfl r_nil) rfl rfl hH
  refine t_RU 3 ?_
  refine ad_ 0 ?_
  refine t_N ?_
  intro h s σ hS hH
  obtain rfl := si_1 h
  exact aP_ [] (bo_ (v := i4 ((w4 ((andI .u64 ((((IntKind.u64.wrap ((IntKind.u64.wrap ((IntKind.u64.wrap (a0.seed_ * 6364136223846793005)) + (IntKind.u64.wrap y1))) + 1442695040888963407))).fdiv (2 ^ 40))) 255))))) hS rfl r_nil) rfl rfl hH
 refine t_if (fun hc2 => ?_) fun hc2 => ?_
 ·refine t_D fun mb => ?_
  refine t_U 3 ?_
  refine ad_ 0 ?_
  refine t_U 3 ?_
  refine ad_ 0 ?_
  refine a9_ fun y2 rest1 hy2 => ?_
  refine t_N ?_
  exact t_e fun he hS hH => he ▸ ⟨rfl, (ae_ hS (by kernel_rfl)), hH⟩
 exact t_e fun he hS hH => he ▸ ⟨rfl, (ae_ hS (by kernel_rfl)), hH⟩
noncomputable def aH_ (a0 : ah_) (a1 : Int) : Option (Int × ah_) := (if (decide (a1 ≤ 1)) = true then (some (0, a0)) else ((bl_ a0).bind fun y1 => (if (decide (200 < a1)) = true then ((bl_ y1.2).bind fun y2 => ((remI (w4 ((w4 (y1.1 * 256)) + y2.1)) a1).bind fun y3 => (some (y3, y2.2)))) else ((remI y1.1 a1).bind fun y4 => (some (y4, y1.2))))))
theorem a6_ (a0 : ah_) (a1 : Int) (r : (Int × ah_)) (h : aH_ a0 a1 = some r) (bp0 : Nat) : RawS Tryz.prog md ext 37 [.ptr bp0 0 0 3, i4 a1] 0 (fun hs => E_i64 r.1) [.box bp0 (ah_.cells a0)] (fun hs => [.box bp0 (ah_.cells r.2)]) := by
 unfold aH_ at h
 refine bW_ rfl rfl ok_37 rfl ?_
 intro σ0 σ F σk s hS hH
 have hS := ae_ (L' := [(0, .ptr bp0 0 0 3), (1, i4 a1)]) hS (by kernel_rfl)
 refine t_go h hS hH ?_
 refine t_RN ?_
 refine t_RN ?_
 refine t_if (fun hc1 => ?_) fun hc1 => ?_
 ·refine t_RN ?_
  intro h s σ hS hH
  obtain rfl := si_1 h
  exact aP_ [] (bo_ (v := i4 0) hS rfl r_nil) rfl rfl hH
 refine t_RU 1 ?_
 refine aI_ (fun y1 hs hy1 hl => ?_) (hr := by exact fun y1 hy1 => ex_ _ y1 hy1 bp0)
 obtain rfl := len0 hl
 refine bb_ ?_
 refine t_N ?_
 refine t_RN ?_
 refine t_if (fun hc2 => ?_) fun hc2 => ?_
 ·refine t_RU 3 ?_
  refine aI_ (fun y2 hs hy2 hl => ?_) (hr := by exact fun y2 hy2 => ex_ _ y2 hy2 bp0)
  obtain rfl := len0 hl
  refine bb_ ?_
  refine t_N ?_
  refine t_RU 2 ?_
  intro h s σ hS hH
  obtain ⟨y3, hy3, h⟩ := bind_some h
  refine iD_ rfl hS rfl rfl hy3 ?_; intro s hS
  refine t_bk h hS hH ?_
  refine t_N ?_
  intro h s σ hS hH
  obtain rfl := si_1 h
  exact aP_ [] (bo_ (v := i4 y3) hS rfl r_nil) rfl rfl hH
 refine t_RU 2 ?_
 intro h s σ hS hH
 obtain ⟨y4, hy4, h⟩ := bind_some h
 refine iD_ rfl hS rfl rfl hy4 ?_; intro s hS
 refine t_bk h hS hH ?_
 refine t_N ?_
 intro h s σ hS hH
 obtain rfl := si_1 h
 exact aP_ [] (bo_ (v := i4 y4) hS rfl r_nil) rfl rfl hH
noncomputable def aZ_ (a0 : ah_) (a1 : Int) : Option (Bool × ah_) := ((aH_ a0 a1).bind fun y1 => (some ((decide (y1.1 = 0)), y1.2)))
theorem cp_ (a0 : ah_) (a1 : Int) (r : (Bool × ah_)) (h : aZ_ a0 a1 = some r) (bp0 : Nat) : RawS Tryz.prog md ext 53 [.ptr bp0 0 0 3, i4 a1] 0 (fun hs => E_bool r.1) [.box bp0 (ah_.cells a0)] (fun hs => [.box bp0 (ah_.cells r.2)]) := by
 unfold aZ_ at h
 refine bW_ rfl rfl ok_53 rfl ?_
 intro σ0 σ F σk s hS hH
 have hS := ae_ (L' := [(0, .ptr bp0 0 0 3), (1, i4 a1)]) hS (by kernel_rfl)
 refine t_go h hS hH ?_
 refine t_RN ?_
 refine t_RU 2 ?_
 refine aI_ (fun y1 hs hy1 hl => ?_) (hr := by exact fun y1 hy1 => a6_ _ _ y1 hy1 bp0)
 obtain rfl := len0 hl
 refine bb_ ?_
 refine t_N ?_
 intro h s σ hS hH
 obtain rfl := si_1 h
 exact aP_ [] (bo_ (v := .bool (decide (y1.1 = 0))) hS rfl r_nil) rfl rfl hH
noncomputable def a2_ (a0 : ah_) (a1 : (Sl ByteArray)) : Option (ByteArray × ah_ × (Sl ByteArray)) := ((aH_ a0 (a1.l.length : Int)).bind fun y1 => ((elt a1 y1.1).bind fun y2 => (some (y2, y1.2, a1))))
theorem c2_ (a0 : ah_) (a1 : (Sl ByteArray)) (r : (ByteArray × ah_ × (Sl ByteArray))) (h : a2_ a0 a1 = some r) (bp0 : Nat) (wp1_1 : Nat) (p1_1 : T) : RawS Tryz.prog md ext 60 [.ptr bp0 0 0 3, p1_1] 0 (fun hs => E_str r.1) [.box bp0 (ah_.cells a0), .own true wp1_1 p1_1 a1.t] (fun hs => [.box bp0 (ah_.cells r.2.1), .own true wp1_1 p1_1 r.2.2.t]) := by
 unfold a2_ at h
 refine bW_ rfl rfl ok_60 rfl ?_
 intro σ0 σ F σk s hS hH
 have hp1_1 : am_ p1_1 := Heap.one (hH.at 1 rfl)
 have hS := ae_ (L' := [(0, .ptr bp0 0 0 3), (1, p1_1)]) hS (by kernel_rfl)
 refine t_go h hS hH ?_
 refine t_RN ?_
 refine t_RU 3 ?_
 refine km_ (a := a1) 1 ?_
 refine aI_ (fun y1 hs hy1 hl => ?_) (hr := by exact fun y1 hy1 => a6_ _ _ y1 hy1 bp0)
 obtain rfl := len0 hl
 refine bb_ ?_
 refine lU_ 1 (fun hb1 hb1e y2 hy2 hl_hb1 => ?_)
 refine k5_ 1 0 hl_hb1 hy2 ?_
 refine t_N ?_
 intro h s σ hS hH
 obtain rfl := si_1 h
 exact aP_ [] (bo_ (v := .str y2) hS rfl r_nil) rfl rfl hH
noncomputable def bz_ (a0 : ah_) : Option (ByteArray × ah_) := ((a2_ a0 (⟨false, [⟨#[97]⟩, ⟨#[98]⟩, ⟨#[97, 98]⟩, ⟨#[98, 97]⟩, ⟨#[97, 98, 99]⟩, ⟨#[40]⟩, ⟨#[41]⟩, ⟨#[40, 41]⟩, ⟨#[120]⟩, ⟨#[97, 97]⟩, ⟨#[99]⟩, ⟨#[34]⟩, ⟨#[97, 34, 98]⟩, ⟨#[0]⟩, ⟨#[120, 121]⟩, ⟨#[98, 99]⟩]⟩)).bind fun y1 => (some (y1.1, y1.2.1)))
theorem fN_ (a0 : ah_) (r : (ByteArray × ah_)) (h : bz_ a0 = some r) (bp0 : Nat) : RawS Tryz.prog md ext 50 [.ptr bp0 0 0 3] 0 (fun hs => E_str r.1) [.box bp0 (ah_.cells a0)] (fun hs => [.box bp0 (ah_.cells r.2)]) := by
 unfold bz_ at h
 refine bW_ rfl rfl ok_50 rfl ?_
 intro σ0 σ F σk s hS hH
 have hS := ae_ (L' := [(0, .ptr bp0 0 0 3)]) hS (by kernel_rfl)
 refine t_go h hS hH ?_
 refine t_RN ?_
 refine t_RU 1 ?_
 refine k_bs (z := true) (⟨false, [⟨#[97]⟩, ⟨#[98]⟩, ⟨#[97, 98]⟩, ⟨#[98, 97]⟩, ⟨#[97, 98, 99]⟩, ⟨#[40]⟩, ⟨#[41]⟩, ⟨#[40, 41]⟩, ⟨#[120]⟩, ⟨#[97, 97]⟩, ⟨#[99]⟩, ⟨#[34]⟩, ⟨#[97, 34, 98]⟩, ⟨#[0]⟩, ⟨#[120, 121]⟩, ⟨#[98, 99]⟩]⟩ : Sl ByteArray) (fun t1 ht1 => ?_)
 refine t_h Heap.up1 ?_
 refine aI_ (fun y1 hs hy1 hl => ?_) (hr := by exact fun y1 hy1 => c2_ _ _ y1 hy1 bp0 1 t1)
 obtain rfl := len0 hl
 refine bb_ ?_
 refine t_N ?_
 intro h s σ hS hH
 obtain rfl := si_1 h
 exact aP_ [] (bo_ (v := .str y1.1) hS rfl r_nil) rfl rfl (Heap.sel hH [0, 2] rfl (by kernel_rfl))
noncomputable def bf_ (a0 : ah_) (a1 : (Sl (Iv .i64))) : Option (Int × ah_ × (Sl (Iv .i64))) := ((aH_ a0 (a1.l.length : Int)).bind fun y1 => ((elt a1 y1.1).bind fun y2 => (some (y2.v, y1.2, a1))))
theorem ed_ (a0 : ah_) (a1 : (Sl (Iv .i64))) (r : (Int × ah_ × (Sl (Iv .i64)))) (h : bf_ a0 a1 = some r) (bp0 : Nat) (wp1_1 : Nat) (p1_1 : T) : RawS Tryz.prog md ext 56 [.ptr bp0 0 0 3, p1_1] 0 (fun hs => E_i64 r.1) [.box bp0 (ah_.cells a0), .own true wp1_1 p1_1 a1.t] (fun hs => [.box bp0 (ah_.cells r.2.1), .own true wp1_1 p1_1 r.2.2.t]) := by
 unfold bf_ at h
 refine bW_ rfl rfl ok_56 rfl ?_
 intro σ0 σ F σk s hS hH
 have hp1_1 : am_ p1_1 := Heap.one (hH.at 1 rfl)
 have hS := ae_ (L' := [(0, .ptr bp0 0 0 3), (1, p1_1)]) hS (by kernel_rfl)
 refine t_go h hS hH ?_
 refine t_RN ?_
 refine t_RU 3 ?_
 refine km_ (a := a1) 1 ?_
 refine aI_ (fun y1 hs hy1 hl => ?_) (hr := by exact fun y1 hy1 => a6_ _ _ y1 hy1 bp0)
 obtain rfl := len0 hl
 refine bb_ ?_
 refine lU_ 1 (fun hb1 hb1e y2 hy2 hl_hb1 => ?_)
 refine k5_ 1 0 hl_hb1 hy2 ?_
 refine t_N ?_
 intro h s σ hS hH
 obtain rfl := si_1 h
 exact aP_ [] (bo_ (v := i4 y2.v) hS rfl r_nil) rfl rfl hH
noncomputable def b8_ (a0 : ah_) : Option (ByteArray × ah_) := ((a2_ a0 (⟨false, [⟨#[120]⟩, ⟨#[121]⟩, ⟨#[122]⟩, ⟨#[80, 97, 116]⟩, ⟨#[97, 95, 49]⟩]⟩)).bind fun y1 => (some (y1.1, y1.2.1)))
theorem ge_ (a0 : ah_) (r : (ByteArray × ah_)) (h : b8_ a0 = some r) (bp0 : Nat) : RawS Tryz.prog md ext 58 [.ptr bp0 0 0 3] 0 (fun hs => E_str r.1) [.box bp0 (ah_.cells a0)] (fun hs => [.box bp0 (ah_.cells r.2)]) := by
 unfold b8_ at h
 refine bW_ rfl rfl ok_58 rfl ?_
 intro σ0 σ F σk s hS hH
 have hS := ae_ (L' := [(0, .ptr bp0 0 0 3)]) hS (by kernel_rfl)
 refine t_go h hS hH ?_
 refine t_RN ?_
 refine t_RU 1 ?_
 refine k_bs (z := true) (⟨false, [⟨#[120]⟩, ⟨#[121]⟩, ⟨#[122]⟩, ⟨#[80, 97, 116]⟩, ⟨#[97, 95, 49]⟩]⟩ : Sl ByteArray) (fun t1 ht1 => ?_)
 refine t_h Heap.up1 ?_
 refine aI_ (fun y1 hs hy1 hl => ?_) (hr := by exact fun y1 hy1 => c2_ _ _ y1 hy1 bp0 1 t1)
 obtain rfl := len0 hl
 refine bb_ ?_
 refine t_N ?_
 intro h s σ hS hH
 obtain rfl := si_1 h
 exact aP_ [] (bo_ (v := .str y1.1) hS rfl r_nil) rfl rfl (Heap.sel hH [0, 2] rfl (by kernel_rfl))
noncomputable def b4_ (a0 : ah_) : Option (DPattern × ah_) := ((bf_ a0 (⟨false, [⟨1⟩, ⟨1⟩, ⟨1⟩, ⟨2⟩, ⟨3⟩, ⟨4⟩, ⟨5⟩, ⟨6⟩, ⟨6⟩, ⟨7⟩, ⟨8⟩, ⟨9⟩, ⟨10⟩, ⟨11⟩, ⟨12⟩, ⟨12⟩, ⟨13⟩, ⟨14⟩, ⟨15⟩, ⟨16⟩, ⟨17⟩, ⟨23⟩, ⟨24⟩, ⟨24⟩]⟩)).bind fun y1 => ((b7_ y1.1).bind fun y2 => (if (decide (y2.2 = (⟨#[115]⟩ : ByteArray))) = true then ((bz_ y1.2.1).bind fun y3 => (((if (decide (y1.1 = 1)) = true then ((aZ_ y3.2 4).bind fun y5 => (some (y5.1, y5.2.code_, y5.2.at_, y5.2.seed_))) else (some (false, y3.2.code_, y3.2.at_, y3.2.seed_))) : Option (Bool × (Sl (Iv .u8)) × Int × Int)).bind fun y4 => (if y4.1 = true then (some ((⟨y1.1, 0, ⟨#[]⟩, ⟨true, []⟩⟩ : DPattern), (⟨y4.2.1, y4.2.2.1, y4.2.2.2⟩ : ah_))) else (some ((⟨y1.1, 0, y3.1, ⟨true, []⟩⟩ : DPattern), (⟨y4.2.1, y4.2.2.1, y4.2.2.2⟩ : ah_)))))) else (if (decide (y2.2 = (⟨#[110]⟩ : ByteArray))) = true then ((aH_ y1.2.1 4).bind fun y6 => (some ((⟨y1.1, y6.1, ⟨#[]⟩, ⟨true, []⟩⟩ : DPattern), y6.2))) else (if (decide (y2.2 = (⟨#[120]⟩ : ByteArray))) = true then ((b8_ y1.2.1).bind fun y7 => (some ((⟨y1.1, 0, y7.1, ⟨true, []⟩⟩ : DPattern), y7.2))) else (some ((⟨y1.1, 0, ⟨#[]⟩, ⟨true, []⟩⟩ : DPattern), y1.2.1)))))))
theorem gb_ (a0 : ah_) (r : (DPattern × ah_)) (h : b4_ a0 = some r) (bp0 : Nat) : RawS Tryz.prog md ext 55 [.ptr bp0 0 0 3] Sh_DPattern.n (fun hs => Sh_DPattern.tree hs r.1) [.box bp0 (ah_.cells a0)] (fun hs => Sh_DPattern.en hs r.1 ++ [.box bp0 (ah_.cells r.2)]) := by
 unfold b4_ at h
 refine bW_ rfl rfl ok_55 rfl ?_
 intro σ0 σ F σk s hS hH
 have hS := ae_ (L' := [(0, .ptr bp0 0 0 3)]) hS (by kernel_rfl)
 refine t_go h hS hH ?_
 refine t_R ?_
 refine bX_ fun b1 => ?_
 refine t_N ?_
 refine t_RU 1 ?_
 refine k_bs (z := true) (⟨false, [⟨1⟩, ⟨1⟩, ⟨1⟩, ⟨2⟩, ⟨3⟩, ⟨4⟩, ⟨5⟩, ⟨6⟩, ⟨6⟩, ⟨7⟩, ⟨8⟩, ⟨9⟩, ⟨10⟩, ⟨11⟩, ⟨12⟩, ⟨12⟩, ⟨13⟩, ⟨14⟩, ⟨15⟩, ⟨16⟩, ⟨17⟩, ⟨23⟩, ⟨24⟩, ⟨24⟩]⟩ : Sl (Iv .i64)) (fun t1 ht1 => ?_)
 refine t_h Heap.up2 ?_
 refine aI_ (fun y1 hs hy1 hl => ?_) (hr := by exact fun y1 hy1 => ed_ _ _ y1 hy1 bp0 1 t1)
 obtain rfl := len0 hl
 refine bb_ ?_
 refine t_N ?_
 refine t_RU 2 ?_
 refine bX_ fun b2 => ?_
 refine aV_ 0 ?_
 refine t_N ?_
 refine t_RU 1 ?_
 refine au_ fun y2 hy2 => ?_
 refine t_N ?_
 refine t_RN ?_
 refine t_RN ?_
 refine t_if (fun hc1 => ?_) fun hc1 => ?_
 ·refine t_RU 1 ?_
  refine t_h Heap.up1 ?_
  refine aI_ (fun y3 hs hy3 hl => ?_) (hr := by exact fun y3 hy3 => fN_ _ y3 hy3 bp0)
  obtain rfl := len0 hl
  refine bb_ ?_
  refine t_U 1 ?_
  refine aK_ 1 ?_
  refine t_N ?_
  refine es_ 0 (fun y4 e fr => e = .normal ∧ Sub [(2, .ptr b1 0 0 4), (4, .ptr b2 0 0 4), (28, .bool y4.1)] fr.s ∧ Heap σ0 fr.σ [.box b2 [i4 y1.1, i4 0, .str y3.1, (nt DPattern)], .box bp0 [y4.2.1.t, i4 y4.2.2.1, .int .u64 y4.2.2.2], .box b1 [i4 0, i4 0, .str ⟨#[]⟩, (nt DPattern)], .keep F σk]) (fun y4 e fr h HF => ?_) fun y4 => ?_
  ·obtain ⟨s, σ⟩ := fr
   obtain ⟨rfl, hS, hH⟩ := HF
   refine t_bx h hS hH ?_
   refine t_if (fun hc2 => ?_) fun hc2 => ?_
   ·refine t_RU 1 ?_
    refine aK_ 0 ?_
    refine t_N ?_
    refine t_R ?_
    refine ad_ 0 ?_
    refine aV_ 2 ?_
    refine t_N ?_
    intro h s σ hS hH
    obtain rfl := si_1 h
    have hH := Heap.addNil hH true 4
    exact aP_ [(T.row true 0 [])] (fO_ (v := .agg [i4 y1.1, i4 0, .str ⟨#[]⟩, (nt DPattern)]) hS (hH.at 1 rfl) rfl (by kernel_rfl) r_nil) rfl rfl (Heap.sel hH [0, 3, 4] rfl (by kernel_rfl))
   refine t_R ?_
   refine ad_ 0 ?_
   refine aV_ 2 ?_
   refine t_N ?_
   intro h s σ hS hH
   obtain rfl := si_1 h
   have hH := Heap.addNil hH true 4
   exact aP_ [(T.row true 0 [])] (fO_ (v := .agg [i4 y1.1, i4 0, .str y3.1, (nt DPattern)]) hS (hH.at 1 rfl) rfl (by kernel_rfl) r_nil) rfl rfl (Heap.sel hH [0, 3, 4] rfl (by kernel_rfl))
  refine t_RU 3 ?_
  refine aD_ 25 (fun hc3 => ?_) fun hc3 => ?_
  ·refine t_U 1 ?_
   refine t_h Heap.up1 ?_
   refine aI_ (fun y5 hs hy5 hl => ?_) (hr := by exact fun y5 hy5 => cp_ _ _ y5 hy5 bp0)
   obtain rfl := len0 hl
   refine bb_ ?_
   refine t_N ?_
   exact t_e fun he hS hH => he ▸ ⟨rfl, (ae_ hS (by kernel_rfl)), (Heap.sel hH [1, 0, 3, 4] rfl (by kernel_rfl))⟩
  refine t_N ?_
  exact t_e fun he hS hH => he ▸ ⟨rfl, (ae_ hS (by kernel_rfl)), (Heap.sel hH [0, 1, 3, 4] rfl (by kernel_rfl))⟩
 refine t_RN ?_
 refine t_if (fun hc4 => ?_) fun hc4 => ?_
 ·refine t_RU 1 ?_
  refine t_h Heap.up1 ?_
  refine aI_ (fun y6 hs hy6 hl => ?_) (hr := by exact fun y6 hy6 => a6_ _ _ y6 hy6 bp0)
  obtain rfl := len0 hl
  refine bb_ ?_
  refine t_U 1 ?_
  refine aK_ 1 ?_
  refine t_N ?_
  refine t_R ?_
  refine ad_ 0 ?_
  refine aV_ 3 ?_
  refine t_N ?_
  intro h s σ hS hH
  obtain rfl := si_1 h
  have hH := Heap.addNil hH true 4
  exact aP_ [(T.row true 0 [])] (fO_ (v := .agg [i4 y1.1, i4 y6.1, .str ⟨#[]⟩, (nt DPattern)]) hS (hH.at 1 rfl) rfl (by kernel_rfl) r_nil) rfl rfl (Heap.sel hH [0, 3, 5] rfl (by kernel_rfl))
 refine t_RN ?_
 refine t_if (fun hc5 => ?_) fun hc5 => ?_
 ·refine t_RU 1 ?_
  refine t_h Heap.up1 ?_
  refine aI_ (fun y7 hs hy7 hl => ?_) (hr := by exact fun y7 hy7 => ge_ _ y7 hy7 bp0)
  obtain rfl := len0 hl
  refine bb_ ?_
  refine t_U 1 ?_
  refine aK_ 1 ?_
  refine t_N ?_
  refine t_R ?_
  refine ad_ 0 ?_
  refine aV_ 3 ?_
  refine t_N ?_
  intro h s σ hS hH
  obtain rfl := si_1 h
  have hH := Heap.addNil hH true 4
  exact aP_ [(T.row true 0 [])] (fO_ (v := .agg [i4 y1.1, i4 0, .str y7.1, (nt DPattern)]) hS (hH.at 1 rfl) rfl (by kernel_rfl) r_nil) rfl rfl (Heap.sel hH [0, 3, 5] rfl (by kernel_rfl))
 refine t_R ?_
 refine ad_ 0 ?_
 refine aV_ 3 ?_
 refine t_N ?_
 intro h s σ hS hH
 obtain rfl := si_1 h
 have hH := Heap.addNil hH true 4
 exact aP_ [(T.row true 0 [])] (fO_ (v := .agg [i4 y1.1, i4 0, .str ⟨#[]⟩, (nt DPattern)]) hS (hH.at 1 rfl) rfl (by kernel_rfl) r_nil) rfl rfl (Heap.sel hH [0, 3, 5] rfl (by kernel_rfl))
def d9_ (R : ah_ → Int → Option (DPattern × ah_)) : Prop := ∀ (a0 : ah_) (a1 : Int) (r : (DPattern × ah_)), R a0 a1 = some r → ∀ (bp0 : Nat), RawS Tryz.prog md ext 36 [.ptr bp0 0 0 3, i4 a1] Sh_DPattern.n (fun hs => Sh_DPattern.tree hs r.1) [.box bp0 (ah_.cells a0)] (fun hs => Sh_DPattern.en hs r.1 ++ [.box bp0 (ah_.cells r.2)])
noncomputable def bw_ (R_36 : ah_ → Int → Option (DPattern × ah_)) (a0 : ah_) (a1 : Int) : Option (DPattern × ah_) := (if (decide (a1 ≤ 0)) = true then ((b4_ a0).bind fun y1 => (some (y1.1, y1.2))) else ((aZ_ a0 4).bind fun y2 => (if y2.1 = true then ((b4_ y2.2).bind fun y3 => (some (y3.1, y3.2))) else ((bf_ y2.2 (⟨false, [⟨18⟩, ⟨18⟩, ⟨19⟩, ⟨19⟩, ⟨19⟩, ⟨20⟩, ⟨21⟩, ⟨22⟩]⟩)).bind fun y4 => ((b7_ y4.1).bind fun y5 => ((az_ (S := (Int × (Sl (Iv .u8)) × Int × Int × (Sl DPattern))) (R := ((Sl (Iv .u8)) × Int × Int × (Sl DPattern))) (fun st1 => (if (decide (st1.1 < y5.1)) = true then ((R_36 (⟨st1.2.1, st1.2.2.1, st1.2.2.2.1⟩ : ah_) (w4 (a1 - 1))).bind fun y7 => ((appS 56 st1.2.2.2.2 (⟨false, [y7.1]⟩ : Sl DPattern)).bind fun y8 => (some (.inl ((w4 (st1.1 + 1)), y7.2.code_, y7.2.at_, y7.2.seed_, y8))))) else (some (.inr (st1.2.1, st1.2.2.1, st1.2.2.2.1, st1.2.2.2.2))))) (0, y4.2.1.code_, y4.2.1.at_, y4.2.1.seed_, (⟨true, []⟩ : Sl DPattern))).bind fun y6 => (if (decide (y5.2 = (⟨#[120]⟩ : ByteArray))) = true then ((b8_ (⟨y6.1, y6.2.1, y6.2.2.1⟩ : ah_)).bind fun y9 => (some ((⟨y4.1, 0, y9.1, y6.2.2.2⟩ : DPattern), y9.2))) else (some ((⟨y4.1, 0, ⟨#[]⟩, y6.2.2.2⟩ : DPattern), (⟨y6.1, y6.2.1, y6.2.2.1⟩ : ah_))))))))))
theorem in_ (R_36 : ah_ → Int → Option (DPattern × ah_)) (hR_36 : d9_ R_36) : d9_ (bw_ R_36) := by
 intro a0 a1 r h bp0
 unfold bw_ at h
 refine bW_ rfl rfl ok_36 rfl ?_
 intro σ0 σ F σk s hS hH
 have hS := ae_ (L' := [(0, .ptr bp0 0 0 3), (1, i4 a1)]) hS (by kernel_rfl)
 refine t_go h hS hH ?_
 refine t_R ?_
 refine bX_ fun b1 => ?_
 refine t_N ?_
 refine t_RU 3 ?_
 refine aD_ 12 (fun hc1 => ?_) fun hc1 => ?_
 ·refine t_N ?_
  refine t_cT rfl ?_
  refine t_RU 1 ?_
  refine t_h Heap.up1 ?_
  refine aI_ (fun y1 hs hy1 hl => ?_) (hr := by exact fun y1 hy1 => gb_ _ y1 hy1 bp0)
  obtain ⟨t1, rfl⟩ := len1 hl
  refine bb_ ?_
  refine ar_ 0 fun ht1 => ?_
  refine aV_ 2 ?_ (h1 := by simp [ht1.1, ht1.2])
  refine t_N ?_
  intro h s σ hS hH
  obtain rfl := si_1 h
  exact aP_ [t1] (fO_ (v := .agg [i4 y1.1.Kind, i4 y1.1.Num, .str y1.1.Text, t1]) hS hH rfl (by kernel_rfl) r_nil) rfl rfl (Heap.sel hH [1, 2, 3] rfl (by kernel_rfl))
 refine t_U 1 ?_
 refine t_h Heap.up1 ?_
 refine aI_ (fun y2 hs hy2 hl => ?_) (hr := by exact fun y2 hy2 => cp_ _ _ y2 hy2 bp0)
 obtain rfl := len0 hl
 refine bb_ ?_
 refine t_N ?_
 refine t_if (fun hc2 => ?_) fun hc2 => ?_
 ·refine t_RU 1 ?_
  refine aI_ (fun y3 hs hy3 hl => ?_) (hr := by exact fun y3 hy3 => gb_ _ y3 hy3 bp0)
  obtain ⟨t2, rfl⟩ := len1 hl
  refine bb_ ?_
  refine ar_ 0 fun ht2 => ?_
  refine aV_ 2 ?_ (h1 := by simp [ht2.1, ht2.2])
  refine t_N ?_
  intro h s σ hS hH
  obtain rfl := si_1 h
  exact aP_ [t2] (fO_ (v := .agg [i4 y3.1.Kind, i4 y3.1.Num, .str y3.1.Text, t2]) hS hH rfl (by kernel_rfl) r_nil) rfl rfl (Heap.sel hH [1, 2, 3] rfl (by kernel_rfl))
 refine t_RU 1 ?_
 refine k_bs (z := true) (⟨false, [⟨18⟩, ⟨18⟩, ⟨19⟩, ⟨19⟩, ⟨19⟩, ⟨20⟩, ⟨21⟩, ⟨22⟩]⟩ : Sl (Iv .i64)) (fun t3 ht3 => ?_)
 refine t_h Heap.up1 ?_
 refine aI_ (fun y4 hs hy4 hl => ?_) (hr := by exact fun y4 hy4 => ed_ _ _ y4 hy4 bp0 1 t3)
 obtain rfl := len0 hl
 refine bb_ ?_
 refine t_N ?_
 refine t_RU 2 ?_
 refine bX_ fun b2 => ?_
 refine aV_ 0 ?_
 refine t_N ?_
 refine t_RU 1 ?_
 refine au_ fun y5 hy5 => ?_
 refine t_N ?_
 refine t_RN ?_
 refine t_h (Heap.addNil · true 4) ?_
 refine a3_ (fun st1 fr => ∃ t5, am_ t5 ∧ Sub [(0, .ptr bp0 0 0 3), (1, i4 a1), (4, .ptr b1 0 0 4), (6, .ptr b2 0 0 4), (7, i4 y5.1), (8, .str y5.2), (9, i4 st1.1)] fr.s ∧ Heap σ0 fr.σ [.box b2 [i4 y4.1, i4 0, .str ⟨#[]⟩, t5], .box bp0 [st1.2.1.t, i4 st1.2.2.1, .int .u64 st1.2.2.2.1], .box b1 [i4 0, i4 0, .str ⟨#[]⟩, (nt DPattern)], .own true 4 t5 st1.2.2.2.2.t, .keep F σk]) (fun y6 e fr => ∃ t6, am_ t6 ∧ e = (.exit 0) ∧ Sub [(0, .ptr bp0 0 0 3), (4, .ptr b1 0 0 4), (6, .ptr b2 0 0 4), (8, .str y5.2)] fr.s ∧ Heap σ0 fr.σ [.box b2 [i4 y4.1, i4 0, .str ⟨#[]⟩, t6], .box bp0 [y6.1.t, i4 y6.2.1, .int .u64 y6.2.2.1], .box b1 [i4 0, i4 0, .str ⟨#[]⟩, (nt DPattern)], .own true 4 t6 y6.2.2.2.t, .keep F σk]) (fun hS hH => ⟨(T.row true 0 []), ⟨rfl, rfl⟩, (ae_ hS (by kernel_rfl)), (Heap.sel hH [1, 2, 4, 0, 5] rfl (by kernel_rfl))⟩) (fun st1 x fr h HI => ?_) fun y6 e fr h HF => ?_
 ·obtain ⟨s, σ⟩ := fr; obtain ⟨t5, ht5, ⟨hS, hH⟩⟩ := HI
  refine t_bk h hS hH ?_
  refine t_RN ?_
  refine t_if (fun hc3 => ?_) fun hc3 => ?_
  ·refine a4_ [(5, (RB b2 RN)), (7, RN), (9, RN)] ext_x fun mb σs hn0 hlt hlto => ?_
   have hlt_b2 : b2 < mb := hlt b2 _ (List.Mem.head _)
   refine t_U 1 ?_
   refine ad_ 0 ?_ (hlt := by exact (Or.inr ⟨hlt_b2, (Wc.cons (.inr (Or.inl rfl)) (Wc.cons (.inl (by kernel_rfl)) (Wc.cons (.inl (by kernel_rfl)) Wc.nil)))⟩))
   refine t_U 3 ?_
   refine t_h Heap.up1 ?_
   refine dq_ (RB b2 RN) ext_x (Stay.box (List.Mem.head _) Stay.nil) (by exact fun x hx => Or.inr ⟨5, by kernel_rfl, hx⟩) (fun y7 hs hy7 hl => ?_) (hr := by exact fun y7 hy7 => hR_36 _ _ y7 hy7 bp0)
   obtain ⟨t7, rfl⟩ := len1 hl
   refine bb_ ?_
   refine ar_ 0 fun ht7 => ?_
   refine k_bs (z := true) (⟨false, [y7.1]⟩ : Sl DPattern) (fun t8 ht8 => ?_) (hb := by exact hn0) (h1 := by simp [ht7.1, ht7.2])
   refine kd_ 4 0 (fun y8 t9 hy8 ht9 => ?_) (hb := by exact hn0) (hwr := by exact fun hH b e o n h0 => Or.inr ⟨7, by kernel_rfl, fun h => h⟩)
   refine t_U 1 ?_
   refine bF_ 2 ht9 ?_ (hwr := by exact fun hH => Or.inr ⟨9, by kernel_rfl, fun h => h⟩)
   refine t_N ?_
   refine t_RN ?_
   exact t_e fun he hS hH => he ▸ ⟨t9, ht9, (ae_ hS (by kernel_rfl)), (Heap.sel hH [0, 2, 3, 1, 4] rfl (by kernel_rfl))⟩
  exact t_e fun he hS hH => he ▸ ⟨t5, ht5, rfl, (ae_ hS (by kernel_rfl)), hH⟩
 obtain ⟨s, σ⟩ := fr
 obtain ⟨t6, ht6, ⟨rfl, hS, hH⟩⟩ := HF
 refine t_bx h hS hH ?_
 refine t_RN ?_
 refine t_if (fun hc4 => ?_) fun hc4 => ?_
 ·refine t_RU 1 ?_
  refine t_h Heap.up1 ?_
  refine aI_ (fun y9 hs hy9 hl => ?_) (hr := by exact fun y9 hy9 => ge_ _ y9 hy9 bp0)
  obtain rfl := len0 hl
  refine bb_ ?_
  refine t_U 1 ?_
  refine aK_ 1 ?_
  refine t_N ?_
  refine t_R ?_
  refine ad_ 0 ?_
  refine aV_ 2 ?_ (h1 := by simp [ht6.1, ht6.2])
  refine t_N ?_
  intro h s σ hS hH
  obtain rfl := si_1 h
  exact aP_ [t6] (fO_ (v := .agg [i4 y4.1, i4 0, .str y9.1, t6]) hS hH rfl (by kernel_rfl) r_nil) rfl rfl (Heap.sel hH [3, 2, 4] rfl (by kernel_rfl))
 refine t_R ?_
 refine ad_ 0 ?_
 refine aV_ 2 ?_ (h1 := by simp [ht6.1, ht6.2])
 refine t_N ?_
 intro h s σ hS hH
 obtain rfl := si_1 h
 exact aP_ [t6] (fO_ (v := .agg [i4 y4.1, i4 0, .str ⟨#[]⟩, t6]) hS hH rfl (by kernel_rfl) r_nil) rfl rfl (Heap.sel hH [3, 2, 4] rfl (by kernel_rfl))
noncomputable def BG_spec_l11Draw : Nat → (ah_ → Int → Option (DPattern × ah_))
 | 0 => (fun _ _ => none)
 | n + 1 => bw_ (BG_spec_l11Draw n)
theorem uBG_spec_l11Draw : ∀ n, d9_ ((BG_spec_l11Draw n))
 | 0 => (by intro _ _ r h; have h : none = some r := h; cases h)
 | n + 1 => in_ (BG_spec_l11Draw n) (uBG_spec_l11Draw n)
noncomputable def ca_ (a0 : ah_) (a1 : Int) : Option (DPattern × ah_) := (BG_spec_l11Draw bigN) a0 a1
theorem gd_ (a0 : ah_) (a1 : Int) (r : (DPattern × ah_)) (h : ca_ a0 a1 = some r) (bp0 : Nat) : RawS Tryz.prog md ext 36 [.ptr bp0 0 0 3, i4 a1] Sh_DPattern.n (fun hs => Sh_DPattern.tree hs r.1) [.box bp0 (ah_.cells a0)] (fun hs => Sh_DPattern.en hs r.1 ++ [.box bp0 (ah_.cells r.2)]) := (uBG_spec_l11Draw bigN) a0 a1 r h bp0
noncomputable def fh_ (a0 : (Sl (Iv .u8))) : Option DPattern := ((aH_ (⟨a0, 0, 0⟩ : ah_) 3).bind fun y1 => ((ca_ y1.2 y1.1).bind fun y2 => ((b9_ y2.1).bind fun y3 => (some y3))))
theorem jy_ (a0 : (Sl (Iv .u8))) (r : DPattern) (h : fh_ a0 = some r) : fm_ a0 = some r := by
 unfold fh_ at h
 refine k_W ok_11 E_DPattern_inj h (fun σ0 => ?_)
 refine t_R ?_
 refine bX_ fun b1 => ?_
 refine t_N ?_
 refine t_RU 1 ?_
 refine dJ_ ok_33 ?_
 refine t_RN ?_
 refine t_RU 2 ?_
 refine b3_ (fun b2 => ?_)
 refine t_N ?_
 refine k_eI (rT rN) ?_
 refine t_N ?_
 refine t_RU 2 ?_
 refine aI_ (fun y1 hs hy1 hl => ?_) (hr := by exact fun y1 hy1 => a6_ _ _ y1 hy1 b2)
 obtain rfl := len0 hl
 refine bb_ ?_
 refine aI_ (fun y2 hs hy2 hl => ?_) (hr := by exact fun y2 hy2 => gd_ _ _ y2 hy2 b2)
 obtain ⟨t1, rfl⟩ := len1 hl
 refine bb_ ?_
 refine ar_ 0 fun ht1 => ?_
 refine dV_ (fun y3 t2 hy3 ht2 => ?_)
 refine aV_ 3 ?_ (h1 := by simp [ht2.1, ht2.2])
 refine t_N ?_
 intro h s σ hS hH
 obtain rfl := si_1 h
 have hH := hH.up1
 exact of_ (ents := [.own true 4 t2 y3.Kids.t]) (z := false) hH (fO_ (v := .agg [i4 y3.Kind, i4 y3.Num, .str y3.Text, t2]) hS (hH.at 1 rfl) rfl (by kernel_rfl) r_nil) (HL.agg (es1 := [.own true 4 t2 y3.Kids.t]) (es2 := []) (HLi (HLi (HLs (HL.own rfl HL.nil)))) HL.nil) (by simp [pureT, pureL, E_DPattern])
noncomputable def fP_ (a0 : Int) (a1 : (Sl (Iv .u8))) : Option (Sl (Iv .u8)) := ((appS 1 ((⟨false, [⟨(IntKind.u8.wrap a0)⟩]⟩ : Sl (Iv .u8))) a1).bind fun y1 => (some y1))
theorem ka_ (a0 : Int) (a1 : (Sl (Iv .u8))) (r : (Sl (Iv .u8))) (h : fP_ a0 a1 = some r) : eB_ a0 a1 = some r := by
 unfold fP_ at h
 refine k_W ok_12 E_sl_u8_inj h (fun σ0 => ?_)
 refine t_RN ?_
 refine t_RU 2 ?_
 refine k_bs (z := true) (⟨false, [⟨(IntKind.u8.wrap a0)⟩]⟩ : Sl (Iv .u8)) (fun t1 ht1 => ?_)
 refine t_U 1 ?_
 refine pc_ 0 (fun y1 t2 hy1 ht2 => ?_)
 refine t_N ?_
 intro h s σ hS hH
 obtain rfl := si_1 h
 exact of_ (ents := [.own true 1 t2 y1.t]) (z := false) hH (bo_ (v := t2) hS rfl r_nil) (HL.own rfl HL.nil) (by simp [pureT, pureL, E_sl_u8])
noncomputable def bO_ (a0 : ah_) : Option (ByteArray × ah_) := ((aZ_ a0 4).bind fun y1 => (if y1.1 = true then ((a2_ y1.2 (⟨false, [⟨#[]⟩, ⟨#[97]⟩, ⟨#[97, 98]⟩, ⟨#[40, 97, 41, 40, 98, 41]⟩, ⟨#[40, 40, 97, 41, 98, 41]⟩, ⟨#[97, 97, 97, 97]⟩, ⟨#[97, 98, 99, 97, 98, 99]⟩, ⟨#[120, 40, 121]⟩, ⟨#[41, 40]⟩, ⟨#[97, 98, 34, 99]⟩]⟩)).bind fun y2 => (some (y2.1, y2.2.1))) else ((aH_ y1.2 6).bind fun y3 => ((az_ (S := (ByteArray × Int × (Sl (Iv .u8)) × Int × Int)) (R := (ByteArray × (Sl (Iv .u8)) × Int × Int)) (fun st1 => (if (decide (0 < st1.2.1)) = true then ((bz_ (⟨st1.2.2.1, st1.2.2.2.1, st1.2.2.2.2⟩ : ah_)).bind fun y5 => ((catB st1.1 y5.1).bind fun y6 => (some (.inl (y6, (w4 (st1.2.1 - 1)), y5.2.code_, y5.2.at_, y5.2.seed_))))) else (some (.inr (st1.1, st1.2.2.1, st1.2.2.2.1, st1.2.2.2.2))))) (⟨#[]⟩, y3.1, y3.2.code_, y3.2.at_, y3.2.seed_)).bind fun y4 => (some (y4.1, (⟨y4.2.1, y4.2.2.1, y4.2.2.2⟩ : ah_)))))))
theorem hd_ (a0 : ah_) (r : (ByteArray × ah_)) (h : bO_ a0 = some r) (bp0 : Nat) : RawS Tryz.prog md ext 38 [.ptr bp0 0 0 3] 0 (fun hs => E_str r.1) [.box bp0 (ah_.cells a0)] (fun hs => [.box bp0 (ah_.cells r.2)]) := by
 unfold bO_ at h
 refine bW_ rfl rfl ok_38 rfl ?_
 intro σ0 σ F σk s hS hH
 have hS := ae_ (L' := [(0, .ptr bp0 0 0 3)]) hS (by kernel_rfl)
 refine t_go h hS hH ?_
 refine t_RN ?_
 refine t_RU 1 ?_
 refine aI_ (fun y1 hs hy1 hl => ?_) (hr := by exact fun y1 hy1 => cp_ _ _ y1 hy1 bp0)
 obtain rfl := len0 hl
 refine bb_ ?_
 refine t_N ?_
 refine t_if (fun hc1 => ?_) fun hc1 => ?_
 ·refine t_RU 1 ?_
  refine k_bs (z := true) (⟨false, [⟨#[]⟩, ⟨#[97]⟩, ⟨#[97, 98]⟩, ⟨#[40, 97, 41, 40, 98, 41]⟩, ⟨#[40, 40, 97, 41, 98, 41]⟩, ⟨#[97, 97, 97, 97]⟩, ⟨#[97, 98, 99, 97, 98, 99]⟩, ⟨#[120, 40, 121]⟩, ⟨#[41, 40]⟩, ⟨#[97, 98, 34, 99]⟩]⟩ : Sl ByteArray) (fun t1 ht1 => ?_)
  refine t_h Heap.up1 ?_
  refine aI_ (fun y2 hs hy2 hl => ?_) (hr := by exact fun y2 hy2 => c2_ _ _ y2 hy2 bp0 1 t1)
  obtain rfl := len0 hl
  refine bb_ ?_
  refine t_N ?_
  intro h s σ hS hH
  obtain rfl := si_1 h
  exact aP_ [] (bo_ (v := .str y2.1) hS rfl r_nil) rfl rfl (Heap.sel hH [0, 2] rfl (by kernel_rfl))
 refine t_RN ?_
 refine t_RU 1 ?_
 refine aI_ (fun y3 hs hy3 hl => ?_) (hr := by exact fun y3 hy3 => a6_ _ _ y3 hy3 bp0)
 obtain rfl := len0 hl
 refine bb_ ?_
 refine t_N ?_
 refine a3_ (fun st1 fr => Sub [(0, .ptr bp0 0 0 3), (3, .str st1.1), (4, i4 st1.2.1)] fr.s ∧ Heap σ0 fr.σ [.box bp0 [st1.2.2.1.t, i4 st1.2.2.2.1, .int .u64 st1.2.2.2.2], .keep F σk]) (fun y4 e fr => e = (.exit 0) ∧ Sub [(3, .str y4.1)] fr.s ∧ Heap σ0 fr.σ [.box bp0 [y4.2.1.t, i4 y4.2.2.1, .int .u64 y4.2.2.2], .keep F σk]) (fun hS hH => ⟨(ae_ hS (by kernel_rfl)), hH⟩) (fun st1 x fr h HI => ?_) fun y4 e fr h HF => ?_
 ·obtain ⟨s, σ⟩ := fr; obtain ⟨hS, hH⟩ := HI
  refine t_bk h hS hH ?_
  refine t_RN ?_
  refine t_if (fun hc2 => ?_) fun hc2 => ?_
  ·refine t_RU 2 ?_
   refine aI_ (fun y5 hs hy5 hl => ?_) (hr := by exact fun y5 hy5 => fN_ _ y5 hy5 bp0)
   obtain rfl := len0 hl
   refine bb_ ?_
   refine sQ_ fun y6 hy6 => ?_
   refine t_N ?_
   refine t_RN ?_
   exact t_e fun he hS hH => he ▸ ⟨(ae_ hS (by kernel_rfl)), hH⟩
  exact t_e fun he hS hH => he ▸ ⟨rfl, (ae_ hS (by kernel_rfl)), hH⟩
 obtain ⟨s, σ⟩ := fr
 obtain ⟨rfl, hS, hH⟩ := HF
 refine t_bx h hS hH ?_
 refine t_RN ?_
 intro h s σ hS hH
 obtain rfl := si_1 h
 exact aP_ [] (bo_ (v := .str y4.1) hS rfl r_nil) rfl rfl hH
noncomputable def dy_ (a0 : (Sl (Iv .u8))) : Option ByteArray := ((bO_ (⟨a0, 0, 0⟩ : ah_)).bind fun y1 => (some y1.1))
theorem hq_ (a0 : (Sl (Iv .u8))) (r : ByteArray) (h : dy_ a0 = some r) : dM_ a0 = some r := by
 unfold dy_ at h
 refine k_W ok_13 E_str_inj h (fun σ0 => ?_)
 refine t_RN ?_
 refine t_RU 1 ?_
 refine dJ_ ok_33 ?_
 refine t_RN ?_
 refine t_RU 2 ?_
 refine b3_ (fun b1 => ?_)
 refine t_N ?_
 refine k_eI (rT rN) ?_
 refine t_N ?_
 refine t_RU 1 ?_
 refine aI_ (fun y1 hs hy1 hl => ?_) (hr := by exact fun y1 hy1 => hd_ _ y1 hy1 b1)
 obtain rfl := len0 hl
 refine bb_ ?_
 refine t_N ?_
 exact k_eW (rT rN) E_str_p
noncomputable def fe_ (a0 : (Sl (Iv .u8))) (a1 : Int) (a2 : Int) : Option Int := (if (decide (a2 ≤ 1)) = true then (some 0) else (if (decide ((a0.l.length : Int) = 0)) = true then ((remI (w4 (a1 * 7)) a2).bind fun y1 => (some y1)) else ((remI a1 (a0.l.length : Int)).bind fun y2 => ((elt a0 y2).bind fun y3 => ((remI (w4 (a1 + 1)) (a0.l.length : Int)).bind fun y4 => ((elt a0 y4).bind fun y5 => ((quoI .i64 a1 (a0.l.length : Int)).bind fun y6 => ((remI ((w4 ((w4 ((w4 ((w4 y3.v) * 31)) + (w4 y5.v))) + y6))) a2).bind fun y7 => (some y7)))))))))
theorem k6_ (a0 : (Sl (Iv .u8))) (a1 : Int) (a2 : Int) (r : Int) (h : fe_ a0 a1 a2 = some r) : gl_ a0 a1 a2 = some r := by
 unfold fe_ at h
 refine k_W ok_14 E_i64_inj h (fun σ0 => ?_)
 refine t_RN ?_
 refine t_RN ?_
 refine t_if (fun hc1 => ?_) fun hc1 => ?_
 ·refine t_RN ?_
  exact k_eW (rT rN) E_i64_p
 refine t_RN ?_
 refine t_if (fun hc2 => ?_) fun hc2 => ?_
 ·refine t_RU 3 ?_
  intro h s σ hS hH
  obtain ⟨y1, hy1, h⟩ := bind_some h
  refine iD_ rfl hS rfl rfl hy1 ?_; intro s hS
  refine t_bk h hS hH ?_
  refine t_N ?_
  exact k_eW (rT rN) E_i64_p
 refine t_RN ?_
 refine t_D fun mb => ?_
 refine t_U 3 ?_
 intro h s σ hS hH
 obtain ⟨y2, hy2, h⟩ := bind_some h
 refine iD_ rfl hS rfl rfl hy2 ?_; intro s hS
 refine t_bk h hS hH ?_
 refine a9_ fun y3 rest1 hy3 => ?_
 refine t_U 7 ?_
 intro h s σ hS hH
 obtain ⟨y4, hy4, h⟩ := bind_some h
 refine iD_ rfl hS rfl rfl hy4 ?_; intro s hS
 refine t_bk h hS hH ?_
 refine a9_ fun y5 rest2 hy5 => ?_
 refine t_U 5 ?_
 intro h s σ hS hH
 obtain ⟨y6, hy6, h⟩ := bind_some h
 refine r9_ rfl hS rfl rfl hy6 ?_; intro s hS
 refine t_bk h hS hH ?_
 refine t_U 2 ?_
 intro h s σ hS hH
 obtain ⟨y7, hy7, h⟩ := bind_some h
 refine iD_ rfl hS rfl rfl hy7 ?_; intro s hS
 refine t_bk h hS hH ?_
 refine t_N ?_
 exact k_eW (rT rN) E_i64_p
noncomputable def gM_ (a0 : Int) (a1 : ByteArray) (a2 : (Sl DPattern)) : Option DPattern := (some (⟨a0, 0, a1, a2⟩ : DPattern))
theorem i1_ (a0 : Int) (a1 : ByteArray) (a2 : (Sl DPattern)) (r : DPattern) (h : gM_ a0 a1 a2 = some r) : fb_ a0 a1 a2 = some r := by
 unfold gM_ at h
 refine k_W ok_20 E_DPattern_inj h (fun σ0 => ?_)
 refine t_R ?_
 refine bX_ fun b1 => ?_
 refine t_N ?_
 refine t_RU 4 ?_
 refine aV_ 0 ?_
 refine t_N ?_
 exact k_eW (rC 0 rN) E_DPattern_p
noncomputable def dE_ (a0 : (Sl DNamed)) (a1 : DPattern) (a2 : ByteArray) (a3 : Bool) (a4 : Int) : Option ((Sl DMatch) × Int × Bool) := ((cH_ a0 a1 a2 a3 a4).bind fun y1 => ((dN_ a0 a1 a2 a3 a4).bind fun y2 => (if (decide (y1.2 = y2.2)) = true then ((c0_ y1.1 y2.1).bind fun y3 => (some (y1.1, y1.2, y3))) else (some (y1.1, y1.2, false)))))
theorem hx_ (a0 : (Sl DNamed)) (a1 : DPattern) (a2 : ByteArray) (a3 : Bool) (a4 : Int) (r : ((Sl DMatch) × Int × Bool)) (h : dE_ a0 a1 a2 a3 a4 = some r) : dz_ a0 a1 a2 a3 a4 = some r := by
 unfold dE_ at h
 refine k_W ok_23 E_t3_sl_DMatch_i64_bool_inj h (fun σ0 => ?_)
 refine t_R ?_
 refine b3_ (fun b1 => ?_)
 refine t_N ?_
 refine t_RU 1 ?_
 refine ad_ 0 ?_
 refine t_U 3 ?_
 refine au_ fun y1 hy1 => ?_
 refine t_N ?_
 refine t_RU 1 ?_
 refine ad_ 0 ?_
 refine t_U 3 ?_
 refine dV_ (fun y2 t1 hy2 ht1 => ?_)
 refine t_N ?_
 refine t_RU 6 ?_
 refine aD_ 40 (fun hc1 => ?_) fun hc1 => ?_
 ·refine t_U 2 ?_
  refine kT_ (fun y3 hy3 => ?_)
  refine t_N ?_
  exact k_eW (rT (rT (rT rN))) E_t3_sl_DMatch_i64_bool_p
 refine t_N ?_
 exact k_eW (rT (rT (rT rN))) E_t3_sl_DMatch_i64_bool_p
noncomputable def dD_ (a0 : ByteArray) (a1 : DMatch) : Option ByteArray := (if (decide (a1.Start < 0)) = true then (some ⟨#[]⟩) else (if (decide (a1.End < a1.Start)) = true then (some ⟨#[]⟩) else (if (decide ((a0.size : Int) < a1.End)) = true then (some ⟨#[]⟩) else ((subB a0 a1.Start a1.End).bind fun y1 => (some y1)))))
theorem hz_ (a0 : ByteArray) (a1 : DMatch) (r : ByteArray) (h : dD_ a0 a1 = some r) : cI_ a0 a1 = some r := by
 unfold dD_ at h
 refine k_W ok_24 E_str_inj h (fun σ0 => ?_)
 refine t_R ?_
 refine b3_ (fun b1 => ?_)
 refine t_N ?_
 refine t_RU 1 ?_
 refine ad_ 0 ?_
 refine t_U 2 ?_
 refine aD_ 8 (fun hc1 => ?_) fun hc1 => ?_
 ·refine t_N ?_
  refine t_cT rfl ?_
  refine t_RN ?_
  exact k_eW (rT rN) E_str_p
 refine t_U 1 ?_
 refine ad_ 0 ?_
 refine t_U 1 ?_
 refine ad_ 0 ?_
 refine t_U 3 ?_
 refine aD_ 15 (fun hc2 => ?_) fun hc2 => ?_
 ·refine t_N ?_
  refine t_cT rfl ?_
  refine t_RN ?_
  exact k_eW (rT rN) E_str_p
 refine t_U 1 ?_
 refine ad_ 0 ?_
 refine t_N ?_
 refine t_if (fun hc3 => ?_) fun hc3 => ?_
 ·refine t_RN ?_
  exact k_eW (rT rN) E_str_p
 refine t_RU 2 ?_
 refine ad_ 0 ?_
 refine t_U 1 ?_
 refine ad_ 0 ?_
 refine gF_ fun y1 hy1 => ?_
 refine t_N ?_
 exact k_eW (rT rN) E_str_p
noncomputable def cr_ (a0 : ah_) : Option ((Sl DNamed) × ah_) := ((az_ (S := (Int × (Sl (Iv .u8)) × Int × Int × (Sl DNamed))) (R := ((Sl (Iv .u8)) × Int × Int × (Sl DNamed))) (fun st1 => (if (decide (st1.1 < 5)) = true then ((aZ_ (⟨st1.2.1, st1.2.2.1, st1.2.2.2.1⟩ : ah_) 3).bind fun y2 => (if (!y2.1) = true then ((elt (⟨false, [⟨#[120]⟩, ⟨#[121]⟩, ⟨#[122]⟩, ⟨#[80, 97, 116]⟩, ⟨#[97, 95, 49]⟩]⟩ : Sl ByteArray) st1.1).bind fun y3 => ((aH_ y2.2 4).bind fun y4 => ((ca_ y4.2 y4.1).bind fun y5 => ((appS 72 st1.2.2.2.2 (⟨false, [(⟨y3, y5.1⟩ : DNamed)]⟩ : Sl DNamed)).bind fun y6 => (some (.inl ((w4 (st1.1 + 1)), y5.2.code_, y5.2.at_, y5.2.seed_, y6))))))) else (some (.inl ((w4 (st1.1 + 1)), y2.2.code_, y2.2.at_, y2.2.seed_, st1.2.2.2.2))))) else (some (.inr (st1.2.1, st1.2.2.1, st1.2.2.2.1, st1.2.2.2.2))))) (0, a0.code_, a0.at_, a0.seed_, (⟨false, []⟩ : Sl DNamed))).bind fun y1 => (some (y1.2.2.2, (⟨y1.1, y1.2.1, y1.2.2.1⟩ : ah_))))
theorem jj_ (a0 : ah_) (r : ((Sl DNamed) × ah_)) (h : cr_ a0 = some r) (bp0 : Nat) : RawS Tryz.prog md ext 34 [.ptr bp0 0 0 3] Sh_sl_DNamed.n (fun hs => Sh_sl_DNamed.tree hs r.1) [.box bp0 (ah_.cells a0)] (fun hs => Sh_sl_DNamed.en hs r.1 ++ [.box bp0 (ah_.cells r.2)]) := by
 unfold cr_ at h
 refine bW_ rfl rfl ok_34 rfl ?_
 intro σ0 σ F σk s hS hH
 have hS := ae_ (L' := [(0, .ptr bp0 0 0 3)]) hS (by kernel_rfl)
 refine t_go h hS hH ?_
 refine t_RN ?_
 refine t_R ?_
 refine mh_ (α := DNamed) (fun t1 ht1 => ?_)
 refine t_N ?_
 refine t_R ?_
 refine k_bs (z := true) (⟨false, [⟨#[120]⟩, ⟨#[121]⟩, ⟨#[122]⟩, ⟨#[80, 97, 116]⟩, ⟨#[97, 95, 49]⟩]⟩ : Sl ByteArray) (fun t2 ht2 => ?_)
 refine t_N ?_
 refine t_RN ?_
 refine a3_ (fun st1 fr => ∃ t4, am_ t4 ∧ Sub [(0, .ptr bp0 0 0 3), (3, t4), (4, t2), (5, i4 st1.1)] fr.s ∧ Heap σ0 fr.σ [.box bp0 [st1.2.1.t, i4 st1.2.2.1, .int .u64 st1.2.2.2.1], .own true 5 t4 st1.2.2.2.2.t, .own true 1 t2 (Sl.t (⟨false, [⟨#[120]⟩, ⟨#[121]⟩, ⟨#[122]⟩, ⟨#[80, 97, 116]⟩, ⟨#[97, 95, 49]⟩]⟩ : Sl ByteArray)), .keep F σk]) (fun y1 e fr => ∃ t5, am_ t5 ∧ e = (.exit 0) ∧ Sub [(3, t5)] fr.s ∧ Heap σ0 fr.σ [.box bp0 [y1.1.t, i4 y1.2.1, .int .u64 y1.2.2.1], .own true 5 t5 y1.2.2.2.t, .keep F σk]) (fun hS hH => ⟨t1, ht1, (ae_ hS (by kernel_rfl)), (Heap.sel hH [2, 1, 0, 3] rfl (by kernel_rfl))⟩) (fun st1 x fr h HI => ?_) fun y1 e fr h HF => ?_
 ·obtain ⟨s, σ⟩ := fr; obtain ⟨t4, ht4, ⟨hS, hH⟩⟩ := HI
  refine t_bk h hS hH ?_
  refine t_RN ?_
  refine t_if (fun hc1 => ?_) fun hc1 => ?_
  ·refine t_RU 1 ?_
   refine aI_ (fun y2 hs hy2 hl => ?_) (hr := by exact fun y2 hy2 => cp_ _ _ y2 hy2 bp0)
   obtain rfl := len0 hl
   refine bb_ ?_
   refine t_N ?_
   refine t_if (fun hc2 => ?_) fun hc2 => ?_
   ·refine a4_ [(7, (RT t2 RN)), (8, (RT t2 RN)), (11, RN)] ext_x fun mb σs hn0 hlt hlto => ?_
    have hlt_t2 : ∀ b e o n, t2 = .ref b e o n → b < mb := fun b e o n h => hlto _ _ _ _ (List.Mem.tail _ (List.Mem.tail _ (List.Mem.head _))) b e o n h
    refine t_U 3 ?_
    refine lU_ 2 (fun hb1 hb1e y3 hy3 hl_hb1 => ?_) (hlt := by exact (fun b e o n h => Or.inr ⟨hlt_t2 b e o n h, (Wc.cons (.inr (Or.inl ⟨_, _, _, h⟩)) (Wc.cons (.inr (Or.inl ⟨_, _, _, h⟩)) (Wc.cons (.inl (by kernel_rfl)) Wc.nil)))⟩))
    refine k5_ 2 0 hl_hb1 hy3 ?_ (hlt := by exact (fun b e o n h => Or.inr ⟨hlt_t2 b e o n h, (Wc.cons (.inr (Or.inl ⟨_, _, _, h⟩)) (Wc.cons (.inr (Or.inl ⟨_, _, _, h⟩)) (Wc.cons (.inl (by kernel_rfl)) Wc.nil)))⟩))
    refine t_U 2 ?_
    refine dq_ (RT t2 RN) ext_x (Stay.own (List.Mem.tail _ (List.Mem.head _)) Stay.nil) (by exact fun x hx => Or.inr ⟨7, by kernel_rfl, hx⟩) (fun y4 hs hy4 hl => ?_) (hr := by exact fun y4 hy4 => a6_ _ _ y4 hy4 bp0)
    obtain rfl := len0 hl
    refine bb_ ?_
    refine dq_ (RT t2 RN) ext_x (Stay.own (List.Mem.tail _ (List.Mem.head _)) Stay.nil) (by exact fun x hx => Or.inr ⟨8, by kernel_rfl, hx⟩) (fun y5 hs hy5 hl => ?_) (hr := by exact fun y5 hy5 => gd_ _ _ y5 hy5 bp0)
    obtain ⟨t6, rfl⟩ := len1 hl
    refine bb_ ?_
    refine ar_ 0 fun ht6 => ?_
    intro h s σ hS hH
    refine k8_ (qs := [(0, .str y3), (1, .agg [i4 y5.1.Kind, i4 y5.1.Num, .str y5.1.Text, t6])]) (z := [.str ⟨#[]⟩, i4 0, i4 0, .str ⟨#[]⟩, (nt DPattern)]) (r := [.str y3, i4 y5.1.Kind, i4 y5.1.Num, .str y5.1.Text, t6]) [[.str y3], [i4 y5.1.Kind, i4 y5.1.Num, .str y5.1.Text, t6]] rfl hS rfl (by kernel_rfl) (by kernel_rfl) (⟨rfl, (by kernel_rfl), rfl, (by simp [ht6.1, ht6.2]), trivial⟩) (by kernel_rfl) ?_; intro s hS
    refine t_bk h hS hH ?_
    refine k_bs (z := true) (⟨false, [(⟨y3, y5.1⟩ : DNamed)]⟩ : Sl DNamed) (fun t7 ht7 => ?_) (hb := by exact hn0) (h1 := by simp [ht6.1, ht6.2])
    refine kd_ 2 0 (fun y6 t8 hy6 ht8 => ?_) (hb := by exact hn0) (hwr := by exact fun hH b e o n h0 => Or.inr ⟨11, by kernel_rfl, fun h => h⟩)
    refine t_N ?_
    refine t_RN ?_
    exact t_e fun he hS hH => he ▸ ⟨t8, ht8, (ae_ hS (by kernel_rfl)), (Heap.sel hH [1, 0, 2, 3] rfl (by kernel_rfl))⟩
   refine t_RN ?_
   exact t_e fun he hS hH => he ▸ ⟨t4, ht4, (ae_ hS (by kernel_rfl)), hH⟩
  exact t_e fun he hS hH => he ▸ ⟨t4, ht4, rfl, (ae_ hS (by kernel_rfl)), (Heap.sel hH [0, 1, 3] rfl (by kernel_rfl))⟩
 obtain ⟨s, σ⟩ := fr
 obtain ⟨t5, ht5, ⟨rfl, hS, hH⟩⟩ := HF
 refine t_bx h hS hH ?_
 refine t_RN ?_
 intro h s σ hS hH
 obtain rfl := si_1 h
 exact aP_ [t5] (bo_ (v := t5) hS rfl r_nil) rfl rfl (Heap.sel hH [1, 0, 2] rfl (by kernel_rfl))
noncomputable def fF_ (a0 : (Sl (Iv .u8))) : Option (Sl DNamed) := ((cr_ (⟨a0, 0, 0⟩ : ah_)).bind fun y1 => (some y1.1))
theorem j9_ (a0 : (Sl (Iv .u8))) (r : (Sl DNamed)) (h : fF_ a0 = some r) : fI_ a0 = some r := by
 unfold fF_ at h
 refine k_W ok_27 E_sl_DNamed_inj h (fun σ0 => ?_)
 refine t_RN ?_
 refine t_RU 1 ?_
 refine dJ_ ok_33 ?_
 refine t_RN ?_
 refine t_RU 2 ?_
 refine b3_ (fun b1 => ?_)
 refine t_N ?_
 refine k_eI (rT rN) ?_
 refine t_N ?_
 refine t_RU 1 ?_
 refine aI_ (fun y1 hs hy1 hl => ?_) (hr := by exact fun y1 hy1 => jj_ _ y1 hy1 b1)
 obtain ⟨t1, rfl⟩ := len1 hl
 refine bb_ ?_
 refine ar_ 0 fun ht1 => ?_
 refine t_N ?_
 intro h s σ hS hH
 obtain rfl := si_1 h
 exact of_ (ents := [.own true 5 t1 y1.1.t]) (z := false) hH (bo_ (v := t1) hS rfl r_nil) (HL.own rfl HL.nil) (by simp [pureT, pureL, E_sl_DNamed])
noncomputable def ez_ (a0 : DMatch) : Option ((Sl DCapture) × Bool) := ((az_ (S := Int) (R := Int) (fun st1 => (if (decide (st1 < (a0.Captures.l.length : Int))) = true then ((elt a0.Captures st1).bind fun y2 => (if (!decide (y2.Kind = 1)) = true then (some (.inl (w4 (st1 + 1)))) else (some (.inr st1)))) else (some (.inr st1)))) 0).bind fun y1 => ((az_ (S := Int) (R := (Unit ⊕ ((Sl DCapture) × Bool))) (fun st2 => (if (decide (st2 < (a0.Captures.l.length : Int))) = true then ((elt a0.Captures st2).bind fun y4 => (if (!decide (y4.Kind = 1)) = true then (some (.inr (.inr (⟨true, []⟩, false)))) else (some (.inl (w4 (st2 + 1)))))) else (some (.inr (.inl ()))))) y1).bind fun y3 => (Sum.elim (fun y3 => ((subS a0.Captures 0 y1).bind fun y5 => (some (y5, true)))) (fun y3 => (some y3)) y3)))
theorem kn_ (a0 : DMatch) (r : ((Sl DCapture) × Bool)) (h : ez_ a0 = some r) : fR_ a0 = some r := by
 unfold ez_ at h
 refine k_W ok_28 E_t2_sl_DCapture_bool_inj h (fun σ0 => ?_)
 refine t_R ?_
 refine b3_ (fun b1 => ?_)
 refine t_N ?_
 refine t_RN ?_
 refine a3_ (fun st1 fr => Sub [(1, .ptr b1 0 0 3), (4, i4 st1)] fr.s ∧ Heap σ0 fr.σ [.box b1 (DMatch.cells a0)]) (fun y1 e fr => e = (.exit 0) ∧ Sub [(1, .ptr b1 0 0 3), (4, i4 y1)] fr.s ∧ Heap σ0 fr.σ [.box b1 (DMatch.cells a0)]) (fun hS hH => ⟨(ae_ hS (by kernel_rfl)), hH⟩) (fun st1 x fr h HI => ?_) fun y1 e fr h HF => ?_
 ·obtain ⟨s, σ⟩ := fr; obtain ⟨hS, hH⟩ := HI
  refine t_bk h hS hH ?_
  refine t_RU 2 ?_
  refine ad_ 0 ?_
  refine t_U 3 ?_
  refine aD_ 11 (fun hc1 => ?_) fun hc1 => ?_
  ·refine t_U 1 ?_
   refine ad_ 0 ?_
   refine t_U 1 ?_
   refine a9_ fun y2 rest1 hy2 => ?_
   refine t_N ?_
   refine t_if (fun hc2 => ?_) fun hc2 => ?_
   ·refine t_RN ?_
    exact t_e fun he hS hH => he ▸ ⟨(ae_ hS (by kernel_rfl)), hH⟩
   exact t_e fun he hS hH => he ▸ ⟨rfl, (ae_ hS (by kernel_rfl)), hH⟩
  refine t_N ?_
  refine t_cF ff_ne ?_
  exact t_e fun he hS hH => he ▸ ⟨rfl, (ae_ hS (by kernel_rfl)), hH⟩
 obtain ⟨s, σ⟩ := fr
 obtain ⟨rfl, hS, hH⟩ := HF
 refine t_bx h hS hH ?_
 refine t_RN ?_
 refine a3_ (fun st2 fr => Sub [(1, .ptr b1 0 0 3), (4, i4 y1), (5, i4 st2)] fr.s ∧ Heap σ0 fr.σ [.box b1 (DMatch.cells a0)]) (fun y3 e fr => (Sum.elim (fun y => e = (.exit 2) ∧ Sub [(1, .ptr b1 0 0 3), (4, i4 y1)] fr.s ∧ Heap σ0 fr.σ [.box b1 (DMatch.cells a0)]) (fun y => e = .ret ∧ endW Tryz.prog (Tryz.f28.results.toList) σ0 (E_t2_sl_DCapture_bool y) .ret fr)) y3) (fun hS hH => ⟨(ae_ hS (by kernel_rfl)), hH⟩) (fun st2 x fr h HI => ?_) fun y3 e fr h HF => ?_
 ·obtain ⟨s, σ⟩ := fr; obtain ⟨hS, hH⟩ := HI
  refine t_bk h hS hH ?_
  refine t_RU 2 ?_
  refine ad_ 0 ?_
  refine t_N ?_
  refine t_if (fun hc3 => ?_) fun hc3 => ?_
  ·refine t_RU 1 ?_
   refine ad_ 0 ?_
   refine t_U 1 ?_
   refine a9_ fun y4 rest2 hy4 => ?_
   refine t_N ?_
   refine t_if (fun hc4 => ?_) fun hc4 => ?_
   ·refine t_RN ?_
    exact t_e fun he hS hH => he ▸ ⟨rfl, (eW hS hH (rT (rT rN)) E_t2_sl_DCapture_bool_p)⟩
   refine t_RN ?_
   exact t_e fun he hS hH => he ▸ ⟨(ae_ hS (by kernel_rfl)), hH⟩
  exact t_e fun he hS hH => he ▸ ⟨rfl, (ae_ hS (by kernel_rfl)), hH⟩
 obtain ⟨s, σ⟩ := fr
 rcases y3 with y3 | y3
 ·have h := el_l h
  obtain ⟨rfl, hS, hH⟩ := HF
  refine t_bx h hS hH ?_
  refine t_RU 1 ?_
  refine ad_ 0 ?_
  refine t_U 1 ?_
  refine o8_ fun y5 hy5 => ?_
  refine t_N ?_
  exact k_eW (rT (rT rN)) E_t2_sl_DCapture_bool_p
 have h := el_r h
 obtain ⟨rfl, HE⟩ := HF
 obtain rfl := si_1 h; exact HE
noncomputable def dn_ (a0 : DPattern) : Option DPattern := ((bt_ a0).bind fun y1 => (((if (decide (a0.Kind = 14)) = true then (some (decide (a0.Kind = 14))) else (some (decide (a0.Kind = 17)))) : Option Bool).bind fun y2 => (if y2 = true then (some (⟨1, 0, ⟨#[]⟩, ⟨true, []⟩⟩ : DPattern)) else (if (decide (a0.Kind = 15)) = true then (some (⟨16, 0, ⟨#[]⟩, ⟨true, []⟩⟩ : DPattern)) else ((az_ (S := (Int × (Sl DPattern))) (R := (Sl DPattern)) (fun st1 => (if (decide (st1.1 < (a0.Kids.l.length : Int))) = true then ((elt a0.Kids st1.1).bind fun y4 => ((b9_ y4).bind fun y5 => ((elt st1.2 st1.1).bind fun y6 => (some (.inl ((w4 (st1.1 + 1)), (setS st1.2 st1.1 (y5 : DPattern)))))))) else (some (.inr st1.2)))) (0, y1.Kids)).bind fun y3 => (some (⟨y1.Kind, y1.Num, y1.Text, y3⟩ : DPattern)))))))
theorem is_ (a0 : DPattern) (r : DPattern) (h : dn_ a0 = some r) : b9_ a0 = some r := by
 unfold dn_ at h
 refine k_O ok_35 h (fun σ0 => ?_)
 refine t_R ?_
 refine b3_ (fun b1 => ?_)
 refine bX_ fun b2 => ?_
 refine t_N ?_
 refine t_R ?_
 refine ad_ 1 ?_
 refine dV_ (fun y1 t1 hy1 ht1 => ?_)
 refine bX_ fun b3 => ?_
 refine aV_ 0 ?_ (h1 := by simp [ht1.1, ht1.2])
 refine t_N ?_
 refine t_RU 1 ?_
 refine ad_ 3 ?_
 refine t_N ?_
 refine t_RN ?_
 refine es_ 0 (fun y2 e fr => e = .normal ∧ Sub [(1, .ptr b1 0 0 4), (2, .ptr b2 0 0 4), (3, .ptr b3 0 0 4), (8, i4 a0.Kind), (9, .bool y2)] fr.s ∧ Heap σ0 fr.σ [.box b3 [i4 y1.Kind, i4 y1.Num, .str y1.Text, t1], .box b2 [i4 0, i4 0, .str ⟨#[]⟩, (nt DPattern)], .box b1 [i4 a0.Kind, i4 a0.Num, .str a0.Text, a0.Kids.t], .own true 4 t1 y1.Kids.t]) (fun y2 e fr h HF => ?_) fun y2 => ?_
 ·obtain ⟨s, σ⟩ := fr
  obtain ⟨rfl, hS, hH⟩ := HF
  refine t_bx h hS hH ?_
  refine t_if (fun hc1 => ?_) fun hc1 => ?_
  ·refine t_RU 1 ?_
   refine aV_ 1 ?_
   refine t_N ?_
   refine t_h (Heap.addNil · true 4) ?_
   exact k_eO [(T.row true 0 [])] (rC 1 rN)
  refine t_RN ?_
  refine t_if (fun hc2 => ?_) fun hc2 => ?_
  ·refine t_RU 1 ?_
   refine aV_ 1 ?_
   refine t_N ?_
   refine t_h (Heap.addNil · true 4) ?_
   exact k_eO [(T.row true 0 [])] (rC 1 rN)
  refine t_RN ?_
  refine a3_ (fun st1 fr => Sub [(1, .ptr b1 0 0 4), (2, .ptr b2 0 0 4), (3, .ptr b3 0 0 4), (4, i4 st1.1)] fr.s ∧ Heap σ0 fr.σ [.box b3 [i4 y1.Kind, i4 y1.Num, .str y1.Text, t1], .box b2 [i4 0, i4 0, .str ⟨#[]⟩, (nt DPattern)], .box b1 [i4 a0.Kind, i4 a0.Num, .str a0.Text, a0.Kids.t], .own true 4 t1 st1.2.t]) (fun y3 e fr => e = (.exit 1) ∧ Sub [(2, .ptr b2 0 0 4), (3, .ptr b3 0 0 4)] fr.s ∧ Heap σ0 fr.σ [.box b3 [i4 y1.Kind, i4 y1.Num, .str y1.Text, t1], .box b2 [i4 0, i4 0, .str ⟨#[]⟩, (nt DPattern)], .own true 4 t1 y3.t]) (fun hS hH => ⟨(ae_ hS (by kernel_rfl)), hH⟩) (fun st1 x fr h HI => ?_) fun y3 e fr h HF => ?_
  ·obtain ⟨s, σ⟩ := fr; obtain ⟨hS, hH⟩ := HI
   refine t_bk h hS hH ?_
   refine t_RU 2 ?_
   refine ad_ 2 ?_
   refine t_N ?_
   refine t_if (fun hc3 => ?_) fun hc3 => ?_
   ·refine a4_ [(10, RN)] ext_x fun mb σs hn0 hlt hlto => ?_
    have hlt_b3 : b3 < mb := hlt b3 _ (List.Mem.head _)
    refine t_U 1 ?_
    refine ad_ 0 ?_ (hlt := by exact (Or.inr ⟨hlt_b3, (Wc.cons (.inl (by kernel_rfl)) Wc.nil)⟩))
    refine t_U 2 ?_
    refine ad_ 2 ?_ (hlt := by exact (Or.inl (by kernel_rfl)))
    refine t_U 1 ?_
    refine a9_ fun y4 rest1 hy4 => ?_
    refine t_U 1 ?_
    refine dV_ (fun y5 t2 hy5 ht2 => ?_)
    refine lU_ 4 (fun hb1 hb1e y6 hy6 hl_hb1 => ?_) (hlt := by exact (fun _ _ _ _ _ => Or.inl (by kernel_rfl)))
    refine t_h Heap.up4 ?_
    intro h s σ hS hH
    refine np_ rfl (ents := [.own true 4 t2 y5.Kids.t]) (a := st1.2) (j := st1.1) (y := y6) (y' := (y5 : DPattern)) (off := 0) (c := [i4 y6.Kind, i4 y6.Num, .str y6.Text, y6.Kids.t]) (us := [i4 y5.Kind, i4 y5.Num, .str y5.Text, t2]) (vs := [i4 y5.Kind, i4 y5.Num, .str y5.Text, y5.Kids.t]) (v := .agg [i4 y5.Kind, i4 y5.Num, .str y5.Text, t2]) (by exact Or.inr ⟨10, by kernel_rfl, fun h => h⟩) rfl hS hH hl_hb1 rfl rfl rfl (by simp [ht2.1, ht2.2]) (by kernel_rfl) rfl hy6 (DPattern.cells_eq _) (HLi (HLi (HLs (HL.own rfl HL.nil)))) rfl (by rw [DPattern.enc_eq]; rfl) ?_; intro σ s hH hS
    refine t_bk h hS hH ?_
    refine t_N ?_
    refine t_RN ?_
    exact t_e fun he hS hH => he ▸ ⟨(ae_ hS (by kernel_rfl)), (Heap.sel hH [1, 2, 3, 0] rfl (by kernel_rfl))⟩
   exact t_e fun he hS hH => he ▸ ⟨rfl, (ae_ hS (by kernel_rfl)), (Heap.sel hH [0, 1, 3] rfl (by kernel_rfl))⟩
  obtain ⟨s, σ⟩ := fr
  obtain ⟨rfl, hS, hH⟩ := HF
  refine t_bx h hS hH ?_
  refine t_R ?_
  refine ad_ 0 ?_
  refine aV_ 1 ?_ (h1 := by simp [ht1.1, ht1.2])
  refine t_N ?_
  refine t_h Heap.up2 ?_
  exact k_eO [t1] (rC 1 rN)
 refine t_if (fun hc4 => ?_) fun hc4 => ?_
 ·exact t_e fun he hS hH => he ▸ ⟨rfl, (ae_ hS (by kernel_rfl)), (Heap.sel hH [0, 2, 3, 1] rfl (by kernel_rfl))⟩
 refine t_RN ?_
 exact t_e fun he hS hH => he ▸ ⟨rfl, (ae_ hS (by kernel_rfl)), (Heap.sel hH [0, 2, 3, 1] rfl (by kernel_rfl))⟩
noncomputable def fY_ (a0 : (Sl (Iv .i64))) : Option Int := ((az_ (S := Int) (R := (Unit ⊕ Int)) (fun st1 => (if (decide (st1 < (a0.l.length : Int))) = true then ((elt a0 st1).bind fun y2 => (if (!decide (y2.v = 0)) = true then (some (.inr (.inr y2.v))) else (some (.inl (w4 (st1 + 1)))))) else (some (.inr (.inl ()))))) 0).bind fun y1 => (Sum.elim (fun y1 => (some 0)) (fun y1 => (some y1)) y1))
theorem jQ_ (a0 : (Sl (Iv .i64))) (r : Int) (h : fY_ a0 = some r) : fH_ a0 = some r := by
 unfold fY_ at h
 refine k_W ok_40 E_i64_inj h (fun σ0 => ?_)
 refine t_RN ?_
 refine t_RN ?_
 refine a3_ (fun st1 fr => Sub [(5, a0.t), (6, i4 (a0.l.length : Int)), (7, i4 st1)] fr.s ∧ Heap σ0 fr.σ []) (fun y1 e fr => (Sum.elim (fun y => e = (.exit 0) ∧ Sub [] fr.s ∧ Heap σ0 fr.σ []) (fun y => e = .ret ∧ endW Tryz.prog (Tryz.f40.results.toList) σ0 (E_i64 y) .ret fr)) y1) (fun hS hH => ⟨(ae_ hS (by kernel_rfl)), hH⟩) (fun st1 x fr h HI => ?_) fun y1 e fr h HF => ?_
 ·obtain ⟨s, σ⟩ := fr; obtain ⟨hS, hH⟩ := HI
  refine t_bk h hS hH ?_
  refine t_RN ?_
  refine t_if (fun hc1 => ?_) fun hc1 => ?_
  ·refine t_R ?_
   refine a9_ fun y2 rest1 hy2 => ?_
   refine t_N ?_
   refine t_RN ?_
   refine t_if (fun hc2 => ?_) fun hc2 => ?_
   ·refine t_RN ?_
    exact t_e fun he hS hH => he ▸ ⟨rfl, (eW hS hH (rT rN) E_i64_p)⟩
   refine t_RN ?_
   exact t_e fun he hS hH => he ▸ ⟨(ae_ hS (by kernel_rfl)), hH⟩
  exact t_e fun he hS hH => he ▸ ⟨rfl, (ae_ hS (by kernel_rfl)), hH⟩
 obtain ⟨s, σ⟩ := fr
 rcases y1 with y1 | y1
 ·have h := el_l h
  obtain ⟨rfl, hS, hH⟩ := HF
  refine t_bx h hS hH ?_
  refine t_RN ?_
  exact k_eW (rT rN) E_i64_p
 have h := el_r h
 obtain ⟨rfl, HE⟩ := HF
 obtain rfl := si_1 h; exact HE
noncomputable def db_ (a0 : (Sl DNamed)) (a1 : DPattern) (a2 : ByteArray) (a3 : Int) : Option Int := ((((ek_ a0).bind fun y6 => (if y6 = true then ((bU_ a1).bind fun y7 => (if y7 = true then ((cE_ a2).bind fun y8 => (some y8)) else (some false))) else (some false))) : Option Bool).bind fun y1 => ((dT_ y1 1).bind fun y2 => ((bI_ a3 0 20000).bind fun y3 => ((dT_ y3 3).bind fun y4 => ((fH_ (⟨false, [⟨y2⟩, ⟨y4⟩]⟩)).bind fun y5 => (some y5))))))
theorem gY_ (a0 : (Sl DNamed)) (a1 : DPattern) (a2 : ByteArray) (a3 : Int) (r : Int) (h : db_ a0 a1 a2 a3 = some r) : dh_ a0 a1 a2 a3 = some r := by
 unfold db_ at h
 refine k_W ok_41 E_i64_inj h (fun σ0 => ?_)
 refine t_R ?_
 refine b3_ (fun b1 => ?_)
 refine t_N ?_
 refine es_ 0 (fun y1 e fr => e = .normal ∧ Sub [(3, i4 a3), (9, .bool y1)] fr.s ∧ Heap σ0 fr.σ []) (fun y1 e fr h HF => ?_) fun y1 => ?_
 ·obtain ⟨s, σ⟩ := fr
  obtain ⟨rfl, hS, hH⟩ := HF
  refine t_bx h hS hH ?_
  refine t_RU 1 ?_
  refine au_ fun y2 hy2 => ?_
  refine t_U 1 ?_
  refine au_ fun y3 hy3 => ?_
  refine au_ fun y4 hy4 => ?_
  refine k_bs (z := true) (⟨false, [⟨y2⟩, ⟨y4⟩]⟩ : Sl (Iv .i64)) (fun t1 ht1 => ?_)
  refine kT_ (fun y5 hy5 => ?_)
  refine t_N ?_
  exact k_eW (rT rN) E_i64_p
 refine t_RU 1 ?_
 refine au_ fun y6 hy6 => ?_
 refine t_U 1 ?_
 refine aD_ 12 (fun hc1 => ?_) fun hc1 => ?_
 ·refine ad_ 0 ?_
  refine au_ fun y7 hy7 => ?_
  refine t_U 2 ?_
  refine aD_ 16 (fun hc2 => ?_) fun hc2 => ?_
  ·refine t_U 1 ?_
   refine au_ fun y8 hy8 => ?_
   refine t_N ?_
   exact t_e fun he hS hH => he ▸ ⟨rfl, (ae_ hS (by kernel_rfl)), (Heap.sel hH [] rfl (by kernel_rfl))⟩
  refine t_N ?_
  exact t_e fun he hS hH => he ▸ ⟨rfl, (ae_ hS (by kernel_rfl)), (Heap.sel hH [] rfl (by kernel_rfl))⟩
 refine t_N ?_
 exact t_e fun he hS hH => he ▸ ⟨rfl, (ae_ hS (by kernel_rfl)), (Heap.sel hH [] rfl (by kernel_rfl))⟩
noncomputable def fd_ (a0 : Bool) (a1 : Int) : Option Int := (if a0 = true then (some 0) else (some a1))
theorem jd_ (a0 : Bool) (a1 : Int) (r : Int) (h : fd_ a0 a1 = some r) : dT_ a0 a1 = some r := by
 unfold fd_ at h
 refine k_W ok_42 E_i64_inj h (fun σ0 => ?_)
 refine t_RN ?_
 refine t_RN ?_
 refine t_if (fun hc1 => ?_) fun hc1 => ?_
 ·refine t_RN ?_
  exact k_eW (rT rN) E_i64_p
 refine t_RN ?_
 exact k_eW (rT rN) E_i64_p
noncomputable def ft_ (a0 : Int) (a1 : Int) (a2 : Int) : Option Bool := (if (decide (a1 ≤ a0)) = true then (some (decide (a0 ≤ a2))) else (some false))
theorem jK_ (a0 : Int) (a1 : Int) (a2 : Int) (r : Bool) (h : ft_ a0 a1 a2 = some r) : bI_ a0 a1 a2 = some r := by
 unfold ft_ at h
 refine k_W ok_43 E_bool_inj h (fun σ0 => ?_)
 refine t_RN ?_
 refine t_RU 4 ?_
 refine aD_ 10 (fun hc1 => ?_) fun hc1 => ?_
 ·refine t_N ?_
  exact k_eW (rT rN) E_bool_p
 refine t_N ?_
 exact k_eW (rT rN) E_bool_p
end Go.Am
