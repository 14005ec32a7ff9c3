/- Functions of the program. -/
import Derived.Test.YtjgemoaobnokdaaAd0
set_option maxRecDepth 100000
set_option maxHeartbeats 4000000
set_option linter.unusedVariables false
set_option linter.unusedSimpArgs false
namespace Go.Am
open Go.Proofs
noncomputable def dP_ (a0 : (Sl (Iv .u8))) : Option Bool := (if (decide (1048576 < (a0.l.length : Int))) = true then (some true) else ((fW_ a0).bind fun y1 => ((cT_ 1 a0).bind fun y2 => ((da_ y2).bind fun y3 => ((cT_ 2 a0).bind fun y4 => ((da_ y4).bind fun y5 => ((cT_ 3 a0).bind fun y6 => ((da_ y6).bind fun y7 => ((cT_ 4 a0).bind fun y8 => ((dC_ y8).bind fun y9 => ((gk_ a0 5 2).bind fun y10 => ((bU_ y3 y5).bind fun y11 => ((bU_ y11 y7).bind fun y12 => ((bU_ y5 y7).bind fun y13 => ((bU_ y3 y13).bind fun y14 => ((bW_ y3 y5).bind fun y15 => ((bW_ y15 y7).bind fun y16 => ((bW_ y5 y7).bind fun y17 => ((bW_ y3 y17).bind fun y18 => ((dZ_ ⟨#[]⟩).bind fun y19 => ((bU_ y3 y19).bind fun y20 => ((dZ_ ⟨#[]⟩).bind fun y21 => ((bU_ y21 y3).bind fun y22 => ((b0_ 16 ⟨#[]⟩ ⟨true, []⟩).bind fun y23 => ((bW_ y3 y23).bind fun y24 => ((b0_ 16 ⟨#[]⟩ ⟨true, []⟩).bind fun y25 => ((bW_ y25 y3).bind fun y26 => ((az_ (S := Int) (R := (Unit ⊕ Bool)) (fun st1 => (if (decide (st1 < ((⟨false, [y12, y14, y16, y18, y3, y20, y3, y22, y3, y24, y3, y26]⟩ : Sl DPattern).l.length : Int))) = true then ((elt (⟨false, [y12, y14, y16, y18, y3, y20, y3, y22, y3, y24, y3, y26]⟩ : Sl DPattern) st1).bind fun y28 => ((aZ_ y1 y28 y9 (decide (y10 = 0)) 2000).bind fun y29 => ((elt (⟨false, [y12, y14, y16, y18, y3, y20, y3, y22, y3, y24, y3, y26]⟩ : Sl DPattern) (w4 (st1 + 1))).bind fun y30 => ((aZ_ y1 y30 y9 (decide (y10 = 0)) 2000).bind fun y31 => (if (decide (y29.2 = 0)) = true then (if (decide (y31.2 = 0)) = true then ((bm_ y29.1 y31.1).bind fun y32 => (if (!y32) = true then (some (.inr (.inr false))) else (some (.inl (w4 (st1 + 2)))))) else (some (.inl (w4 (st1 + 2))))) else (some (.inl (w4 (st1 + 2))))))))) else (some (.inr (.inl ()))))) 0).bind fun y27 => (Sum.elim (fun y27 => (some true)) (fun y27 => (some y27)) y27)))))))))))))))))))))))))))))
theorem hy_ (a0 : (Sl (Iv .u8))) (r : Bool) (h : dP_ a0 = some r) : fv_ a0 = some r := by
 unfold dP_ at h
 refine k_W ok_3 E_bool_inj h (fun σ0 => ?_)
 refine t_RN ?_
 refine t_RN ?_
 refine t_if (fun hc1 => ?_) fun hc1 => ?_
 ·refine t_RN ?_
  exact k_eW (rT rN) E_bool_p
 refine t_RU 1 ?_
 refine ap_ fun y1 hy1 => ?_
 refine t_N ?_
 refine t_RU 1 ?_
 refine ap_ fun y2 hy2 => ?_
 refine ap_ fun y3 hy3 => ?_
 refine bp_ fun b1 => ?_
 refine aL_ 0 ?_
 refine t_N ?_
 refine t_RU 1 ?_
 refine ap_ fun y4 hy4 => ?_
 refine ap_ fun y5 hy5 => ?_
 refine bp_ fun b2 => ?_
 refine aL_ 0 ?_
 refine t_N ?_
 refine t_RU 1 ?_
 refine ap_ fun y6 hy6 => ?_
 refine ap_ fun y7 hy7 => ?_
 refine bp_ fun b3 => ?_
 refine aL_ 0 ?_
 refine t_N ?_
 refine t_RU 1 ?_
 refine ap_ fun y8 hy8 => ?_
 refine ap_ fun y9 hy9 => ?_
 refine t_N ?_
 refine t_RU 1 ?_
 refine ap_ fun y10 hy10 => ?_
 refine t_N ?_
 refine a8_ [] ext_x fun mb σs hn0 hlt hlto => ?_
 have hlt_b3 : b3 < mb := hlt b3 _ (List.Mem.head _)
 have hlt_b2 : b2 < mb := hlt b2 _ (List.Mem.tail _ (List.Mem.head _))
 have hlt_b1 : b1 < mb := hlt b1 _ (List.Mem.tail _ (List.Mem.tail _ (List.Mem.head _)))
 refine ad_ 2 ?_ (hlt := by exact (Or.inl (by kernel_rfl)))
 refine ad_ 1 ?_ (hlt := by exact (Or.inl (by kernel_rfl)))
 refine ap_ fun y11 hy11 => ?_
 refine ad_ 0 ?_ (hlt := by exact (Or.inr ⟨hlt_b3, Wc.nil⟩))
 refine ap_ fun y12 hy12 => ?_
 refine ad_ 2 ?_ (hlt := by exact (Or.inr ⟨hlt_b1, Wc.nil⟩))
 refine ad_ 1 ?_ (hlt := by exact (Or.inr ⟨hlt_b2, Wc.nil⟩))
 refine ad_ 0 ?_ (hlt := by exact (Or.inr ⟨hlt_b3, Wc.nil⟩))
 refine ap_ fun y13 hy13 => ?_
 refine ap_ fun y14 hy14 => ?_
 refine ad_ 2 ?_ (hlt := by exact (Or.inr ⟨hlt_b1, Wc.nil⟩))
 refine ad_ 1 ?_ (hlt := by exact (Or.inr ⟨hlt_b2, Wc.nil⟩))
 refine ap_ fun y15 hy15 => ?_
 refine ad_ 0 ?_ (hlt := by exact (Or.inr ⟨hlt_b3, Wc.nil⟩))
 refine ap_ fun y16 hy16 => ?_
 refine ad_ 2 ?_ (hlt := by exact (Or.inr ⟨hlt_b1, Wc.nil⟩))
 refine ad_ 1 ?_ (hlt := by exact (Or.inr ⟨hlt_b2, Wc.nil⟩))
 refine ad_ 0 ?_ (hlt := by exact (Or.inr ⟨hlt_b3, Wc.nil⟩))
 refine ap_ fun y17 hy17 => ?_
 refine ap_ fun y18 hy18 => ?_
 refine ad_ 2 ?_ (hlt := by exact (Or.inr ⟨hlt_b1, Wc.nil⟩))
 refine ad_ 2 ?_ (hlt := by exact (Or.inr ⟨hlt_b1, Wc.nil⟩))
 refine ap_ fun y19 hy19 => ?_
 refine ap_ fun y20 hy20 => ?_
 refine ad_ 2 ?_ (hlt := by exact (Or.inr ⟨hlt_b1, Wc.nil⟩))
 refine ap_ fun y21 hy21 => ?_
 refine ad_ 2 ?_ (hlt := by exact (Or.inr ⟨hlt_b1, Wc.nil⟩))
 refine ap_ fun y22 hy22 => ?_
 refine ad_ 2 ?_ (hlt := by exact (Or.inr ⟨hlt_b1, Wc.nil⟩))
 refine ad_ 2 ?_ (hlt := by exact (Or.inr ⟨hlt_b1, Wc.nil⟩))
 refine ap_ fun y23 hy23 => ?_
 refine ap_ fun y24 hy24 => ?_
 refine ad_ 2 ?_ (hlt := by exact (Or.inr ⟨hlt_b1, Wc.nil⟩))
 refine ap_ fun y25 hy25 => ?_
 refine ad_ 2 ?_ (hlt := by exact (Or.inr ⟨hlt_b1, Wc.nil⟩))
 refine ap_ fun y26 hy26 => ?_
 refine jv_ (⟨false, [y12, y14, y16, y18, y3, y20, y3, y22, y3, y24, y3, y26]⟩ : Sl DPattern) (fun t1 ht1 => ?_) (hb := by exact hn0)
 refine t_N ?_
 refine t_RN ?_
 refine a6_ (fun st1 fr => Sub [(3, y1.t), (7, .str y9), (8, .bool (decide (y10 = 0))), (9, t1), (10, i4 st1)] fr.s ∧ Heap σ0 fr.σ [.flt 4 t1 (Sl.t (⟨false, [y12, y14, y16, y18, y3, y20, y3, y22, y3, y24, y3, y26]⟩ : Sl DPattern))]) (fun y27 e fr => (Sum.elim (fun y => e = (.exit 0) ∧ Sub [] fr.s ∧ Heap σ0 fr.σ []) (fun y => e = .ret ∧ endW Try.prog (Try.f3.results.toList) σ0 (E_bool y) .ret fr)) y27) (fun hS hH => ⟨(ae_ hS (by kernel_rfl)), (Heap.sel hH [0] rfl (by kernel_rfl))⟩) (fun st1 x fr h HI => ?_) fun y27 e fr h HF => ?_
 ·obtain ⟨s, σ⟩ := fr; obtain ⟨hS, hH⟩ := HI
  refine t_bk h hS hH ?_
  refine t_RU 2 ?_
  refine dx_ (a := (⟨false, [y12, y14, y16, y18, y3, y20, y3, y22, y3, y24, y3, y26]⟩ : Sl DPattern)) 0 ?_
  refine t_N ?_
  refine t_if (fun hc2 => ?_) fun hc2 => ?_
  ·refine t_RU 3 ?_
   refine m6_ 0 (fun hb1 hb1e y28 hy28 hl_hb1 => ?_)
   refine k5_ 0 0 hl_hb1 hy28 ?_
   refine t_U 2 ?_
   refine ap_ fun y29 hy29 => ?_
   refine t_N ?_
   refine t_RU 4 ?_
   refine m6_ 0 (fun hb2 hb2e y30 hy30 hl_hb2 => ?_)
   refine k5_ 0 0 hl_hb2 hy30 ?_
   refine t_U 2 ?_
   refine ap_ fun y31 hy31 => ?_
   refine t_N ?_
   refine t_RU 3 ?_
   refine aP_ 103 (fun hc3 => ?_) fun hc3 => ?_
   ·refine t_U 4 ?_
    refine aP_ 107 (fun hc4 => ?_) fun hc4 => ?_
    ·refine t_U 2 ?_
     refine ap_ fun y32 hy32 => ?_
     refine t_N ?_
     refine t_if (fun hc5 => ?_) fun hc5 => ?_
     ·refine t_RN ?_
      exact t_e fun he hS hH => he ▸ ⟨rfl, (eW hS hH (rT rN) E_bool_p)⟩
     refine t_RN ?_
     exact t_e fun he hS hH => he ▸ ⟨(ae_ hS (by kernel_rfl)), hH⟩
    refine t_N ?_
    refine t_cF ff_ne ?_
    refine t_RN ?_
    exact t_e fun he hS hH => he ▸ ⟨(ae_ hS (by kernel_rfl)), hH⟩
   refine t_N ?_
   refine t_cF ff_ne ?_
   refine t_RN ?_
   exact t_e fun he hS hH => he ▸ ⟨(ae_ hS (by kernel_rfl)), hH⟩
  exact t_e fun he hS hH => he ▸ ⟨rfl, (ae_ hS (by kernel_rfl)), (Heap.sel hH [] rfl (by kernel_rfl))⟩
 obtain ⟨s, σ⟩ := fr
 rcases y27 with y27 | y27
 ·have h := el_l h
  obtain ⟨rfl, hS, hH⟩ := HF
  refine t_bx h hS hH ?_
  refine t_RN ?_
  exact k_eW (rT rN) E_bool_p
 have h := el_r h
 obtain ⟨rfl, HE⟩ := HF
 obtain rfl := si_1 h; exact HE
noncomputable def bn_ (a0 : ag_) : Option (Int × ag_) := (((if (decide (a0.at_ < (a0.code_.l.length : Int))) = true then ((elt a0.code_ a0.at_).bind fun y2 => (some (w4 y2.v))) else (some 0)) : Option Int).bind fun y1 => (if ((decide ((w4 (a0.at_ + 1)) ≤ (a0.code_.l.length : Int)))) = true then (some (y1, (⟨a0.code_, (w4 (a0.at_ + 1)), (IntKind.u64.wrap ((IntKind.u64.wrap ((IntKind.u64.wrap (a0.seed_ * 6364136223846793005)) + (IntKind.u64.wrap y1))) + 1442695040888963407))⟩ : ag_))) else (some ((w4 ((andI .u64 ((((IntKind.u64.wrap ((IntKind.u64.wrap ((IntKind.u64.wrap (a0.seed_ * 6364136223846793005)) + (IntKind.u64.wrap y1))) + 1442695040888963407))).fdiv (2 ^ 40))) 255))), (⟨a0.code_, (w4 (a0.at_ + 1)), (IntKind.u64.wrap ((IntKind.u64.wrap ((IntKind.u64.wrap (a0.seed_ * 6364136223846793005)) + (IntKind.u64.wrap y1))) + 1442695040888963407))⟩ : ag_)))))
theorem eD_ (a0 : ag_) (r : (Int × ag_)) (h : bn_ a0 = some r) (bp0 : Nat) : RawS Try.prog md ext 109 [.ptr bp0 0 0 3] 0 (fun hs => E_i64 r.1) [.box bp0 (ag_.cells a0)] (fun hs => [.box bp0 (ag_.cells r.2)]) := by
 unfold bn_ at h
 refine b3_ rfl rfl ok_109 rfl ?_
 intro σ0 σ F σk s hS hH
 have hS := ae_ (L' := [(0, .ptr bp0 0 0 3)]) hS (by kernel_rfl)
 refine t_go h hS hH ?_
 refine t_RN ?_
 refine t_RN ?_
 refine t_D fun mb => ?_
 refine t_U 3 ?_
 refine ad_ 0 ?_
 refine t_U 3 ?_
 refine ad_ 0 ?_
 refine t_N ?_
 refine eu_ 0 (fun y1 e fr => e = .normal ∧ Sub [(0, .ptr bp0 0 0 3), (3, i4 y1)] fr.s ∧ Heap σ0 fr.σ [.box bp0 (ag_.cells a0), .keep F σk]) (fun y1 e fr h HF => ?_) fun y1 => ?_
 ·obtain ⟨s, σ⟩ := fr
  obtain ⟨rfl, hS, hH⟩ := HF
  refine t_bx h hS hH ?_
  refine t_RU 3 ?_
  refine ad_ 0 ?_
  refine t_U 3 ?_
  refine aI_ 0 ?_
  refine t_N ?_
  refine t_RU 4 ?_
  refine ad_ 0 ?_
  refine t_U 7 ?_
  refine aI_ 0 ?_
  refine t_N ?_
  refine t_D fun mb => ?_
  refine t_U 3 ?_
  refine ad_ 0 ?_
  refine t_U 3 ?_
  refine ad_ 0 ?_
  refine t_N ?_
  refine t_if (fun hc1 => ?_) fun hc1 => ?_
  ·refine t_RN ?_
   intro h s σ hS hH
   obtain rfl := si_1 h
   exact aO_ [] (bq_ (v := i4 y1) hS rfl r_nil) rfl rfl hH
  refine t_RU 3 ?_
  refine ad_ 0 ?_
  refine t_N ?_
  intro h s σ hS hH
  obtain rfl := si_1 h
  exact aO_ [] (bq_ (v := i4 ((w4 ((andI .u64 ((((IntKind.u64.wrap ((IntKind.u64.wrap ((IntKind.u64.wrap (a0.seed_ * 6364136223846793005)) + (IntKind.u64.wrap y1))) + 1442695040888963407))).fdiv (2 ^ 40))) 255))))) hS rfl r_nil) rfl rfl hH
 refine t_if (fun hc2 => ?_) fun hc2 => ?_
 ·refine t_D fun mb => ?_
  refine t_U 3 ?_
  refine ad_ 0 ?_
  refine t_U 3 ?_
  refine ad_ 0 ?_
  refine ci_ fun y2 rest1 hy2 => ?_
  refine t_N ?_
  exact t_e fun he hS hH => he ▸ ⟨rfl, (ae_ hS (by kernel_rfl)), hH⟩
 exact t_e fun he hS hH => he ▸ ⟨rfl, (ae_ hS (by kernel_rfl)), hH⟩
noncomputable def aF_ (a0 : ag_) (a1 : Int) : Option (Int × ag_) := (if (decide (a1 ≤ 1)) = true then (some (0, a0)) else ((bn_ a0).bind fun y1 => (if (decide (200 < a1)) = true then ((bn_ y1.2).bind fun y2 => ((remI (w4 ((w4 (y1.1 * 256)) + y2.1)) a1).bind fun y3 => (some (y3, y2.2)))) else ((remI y1.1 a1).bind fun y4 => (some (y4, y1.2))))))
theorem a7_ (a0 : ag_) (a1 : Int) (r : (Int × ag_)) (h : aF_ a0 a1 = some r) (bp0 : Nat) : RawS Try.prog md ext 66 [.ptr bp0 0 0 3, i4 a1] 0 (fun hs => E_i64 r.1) [.box bp0 (ag_.cells a0)] (fun hs => [.box bp0 (ag_.cells r.2)]) := by
 unfold aF_ at h
 refine b3_ rfl rfl ok_66 rfl ?_
 intro σ0 σ F σk s hS hH
 have hS := ae_ (L' := [(0, .ptr bp0 0 0 3), (1, i4 a1)]) hS (by kernel_rfl)
 refine t_go h hS hH ?_
 refine t_RN ?_
 refine t_RN ?_
 refine t_if (fun hc1 => ?_) fun hc1 => ?_
 ·refine t_RN ?_
  intro h s σ hS hH
  obtain rfl := si_1 h
  exact aO_ [] (bq_ (v := i4 0) hS rfl r_nil) rfl rfl hH
 refine t_RU 1 ?_
 refine aH_ (fun y1 hs hy1 hl => ?_) (hr := by exact fun y1 hy1 => eD_ _ y1 hy1 bp0)
 obtain rfl := len0 hl
 refine bf_ ?_
 refine t_N ?_
 refine t_RN ?_
 refine t_if (fun hc2 => ?_) fun hc2 => ?_
 ·refine t_RU 3 ?_
  refine aH_ (fun y2 hs hy2 hl => ?_) (hr := by exact fun y2 hy2 => eD_ _ y2 hy2 bp0)
  obtain rfl := len0 hl
  refine bf_ ?_
  refine t_N ?_
  refine t_RU 2 ?_
  intro h s σ hS hH
  obtain ⟨y3, hy3, h⟩ := bind_some h
  refine iS_ rfl hS rfl rfl hy3 ?_; intro s hS
  refine t_bk h hS hH ?_
  refine t_N ?_
  intro h s σ hS hH
  obtain rfl := si_1 h
  exact aO_ [] (bq_ (v := i4 y3) hS rfl r_nil) rfl rfl hH
 refine t_RU 2 ?_
 intro h s σ hS hH
 obtain ⟨y4, hy4, h⟩ := bind_some h
 refine iS_ rfl hS rfl rfl hy4 ?_; intro s hS
 refine t_bk h hS hH ?_
 refine t_N ?_
 intro h s σ hS hH
 obtain rfl := si_1 h
 exact aO_ [] (bq_ (v := i4 y4) hS rfl r_nil) rfl rfl hH
noncomputable def a1_ (a0 : ag_) (a1 : Int) : Option (Bool × ag_) := ((aF_ a0 a1).bind fun y1 => (some ((decide (y1.1 = 0)), y1.2)))
theorem cA_ (a0 : ag_) (a1 : Int) (r : (Bool × ag_)) (h : a1_ a0 a1 = some r) (bp0 : Nat) : RawS Try.prog md ext 103 [.ptr bp0 0 0 3, i4 a1] 0 (fun hs => E_bool r.1) [.box bp0 (ag_.cells a0)] (fun hs => [.box bp0 (ag_.cells r.2)]) := by
 unfold a1_ at h
 refine b3_ rfl rfl ok_103 rfl ?_
 intro σ0 σ F σk s hS hH
 have hS := ae_ (L' := [(0, .ptr bp0 0 0 3), (1, i4 a1)]) hS (by kernel_rfl)
 refine t_go h hS hH ?_
 refine t_RN ?_
 refine t_RU 2 ?_
 refine aH_ (fun y1 hs hy1 hl => ?_) (hr := by exact fun y1 hy1 => a7_ _ _ y1 hy1 bp0)
 obtain rfl := len0 hl
 refine bf_ ?_
 refine t_N ?_
 intro h s σ hS hH
 obtain rfl := si_1 h
 exact aO_ [] (bq_ (v := .bool (decide (y1.1 = 0))) hS rfl r_nil) rfl rfl hH
noncomputable def a4_ (a0 : ag_) (a1 : (Sl ByteArray)) : Option (ByteArray × ag_ × (Sl ByteArray)) := ((aF_ a0 (a1.l.length : Int)).bind fun y1 => ((elt a1 y1.1).bind fun y2 => (some (y2, y1.2, a1))))
theorem c5_ (a0 : ag_) (a1 : (Sl ByteArray)) (r : (ByteArray × ag_ × (Sl ByteArray))) (h : a4_ a0 a1 = some r) (bp0 : Nat) (wp1_1 : Nat) (p1_1 : T) : RawS Try.prog md ext 110 [.ptr bp0 0 0 3, p1_1] 0 (fun hs => E_str r.1) [.box bp0 (ag_.cells a0), .own true wp1_1 p1_1 a1.t] (fun hs => [.box bp0 (ag_.cells r.2.1), .own true wp1_1 p1_1 r.2.2.t]) := by
 unfold a4_ at h
 refine b3_ rfl rfl ok_110 rfl ?_
 intro σ0 σ F σk s hS hH
 have hp1_1 : ao_ p1_1 := Heap.one (hH.at 1 rfl)
 have hS := ae_ (L' := [(0, .ptr bp0 0 0 3), (1, p1_1)]) hS (by kernel_rfl)
 refine t_go h hS hH ?_
 refine t_RN ?_
 refine t_RU 3 ?_
 refine ks_ (a := a1) 1 ?_
 refine aH_ (fun y1 hs hy1 hl => ?_) (hr := by exact fun y1 hy1 => a7_ _ _ y1 hy1 bp0)
 obtain rfl := len0 hl
 refine bf_ ?_
 refine lX_ 1 (fun hb1 hb1e y2 hy2 hl_hb1 => ?_)
 refine kY_ 1 0 hl_hb1 hy2 ?_
 refine t_N ?_
 intro h s σ hS hH
 obtain rfl := si_1 h
 exact aO_ [] (bq_ (v := .str y2) hS rfl r_nil) rfl rfl hH
noncomputable def bA_ (a0 : ag_) : Option (ByteArray × ag_) := ((a4_ a0 (⟨false, [⟨#[97]⟩, ⟨#[98]⟩, ⟨#[97, 98]⟩, ⟨#[98, 97]⟩, ⟨#[97, 98, 99]⟩, ⟨#[40]⟩, ⟨#[41]⟩, ⟨#[40, 41]⟩, ⟨#[120]⟩, ⟨#[97, 97]⟩, ⟨#[99]⟩, ⟨#[34]⟩, ⟨#[97, 34, 98]⟩, ⟨#[0]⟩, ⟨#[120, 121]⟩, ⟨#[98, 99]⟩]⟩)).bind fun y1 => (some (y1.1, y1.2.1)))
theorem fM_ (a0 : ag_) (r : (ByteArray × ag_)) (h : bA_ a0 = some r) (bp0 : Nat) : RawS Try.prog md ext 87 [.ptr bp0 0 0 3] 0 (fun hs => E_str r.1) [.box bp0 (ag_.cells a0)] (fun hs => [.box bp0 (ag_.cells r.2)]) := by
 unfold bA_ at h
 refine b3_ rfl rfl ok_87 rfl ?_
 intro σ0 σ F σk s hS hH
 have hS := ae_ (L' := [(0, .ptr bp0 0 0 3)]) hS (by kernel_rfl)
 refine t_go h hS hH ?_
 refine t_RN ?_
 refine t_RU 1 ?_
 refine k_bs (z := true) (⟨false, [⟨#[97]⟩, ⟨#[98]⟩, ⟨#[97, 98]⟩, ⟨#[98, 97]⟩, ⟨#[97, 98, 99]⟩, ⟨#[40]⟩, ⟨#[41]⟩, ⟨#[40, 41]⟩, ⟨#[120]⟩, ⟨#[97, 97]⟩, ⟨#[99]⟩, ⟨#[34]⟩, ⟨#[97, 34, 98]⟩, ⟨#[0]⟩, ⟨#[120, 121]⟩, ⟨#[98, 99]⟩]⟩ : Sl ByteArray) (fun t1 ht1 => ?_)
 refine t_h Heap.up1 ?_
 refine aH_ (fun y1 hs hy1 hl => ?_) (hr := by exact fun y1 hy1 => c5_ _ _ y1 hy1 bp0 1 t1)
 obtain rfl := len0 hl
 refine bf_ ?_
 refine t_N ?_
 intro h s σ hS hH
 obtain rfl := si_1 h
 exact aO_ [] (bq_ (v := .str y1.1) hS rfl r_nil) rfl rfl (Heap.sel hH [0, 2] rfl (by kernel_rfl))
noncomputable def bg_ (a0 : ag_) (a1 : (Sl (Iv .i64))) : Option (Int × ag_ × (Sl (Iv .i64))) := ((aF_ a0 (a1.l.length : Int)).bind fun y1 => ((elt a1 y1.1).bind fun y2 => (some (y2.v, y1.2, a1))))
theorem en_ (a0 : ag_) (a1 : (Sl (Iv .i64))) (r : (Int × ag_ × (Sl (Iv .i64)))) (h : bg_ a0 a1 = some r) (bp0 : Nat) (wp1_1 : Nat) (p1_1 : T) : RawS Try.prog md ext 106 [.ptr bp0 0 0 3, p1_1] 0 (fun hs => E_i64 r.1) [.box bp0 (ag_.cells a0), .own true wp1_1 p1_1 a1.t] (fun hs => [.box bp0 (ag_.cells r.2.1), .own true wp1_1 p1_1 r.2.2.t]) := by
 unfold bg_ at h
 refine b3_ rfl rfl ok_106 rfl ?_
 intro σ0 σ F σk s hS hH
 have hp1_1 : ao_ p1_1 := Heap.one (hH.at 1 rfl)
 have hS := ae_ (L' := [(0, .ptr bp0 0 0 3), (1, p1_1)]) hS (by kernel_rfl)
 refine t_go h hS hH ?_
 refine t_RN ?_
 refine t_RU 3 ?_
 refine ks_ (a := a1) 1 ?_
 refine aH_ (fun y1 hs hy1 hl => ?_) (hr := by exact fun y1 hy1 => a7_ _ _ y1 hy1 bp0)
 obtain rfl := len0 hl
 refine bf_ ?_
 refine lX_ 1 (fun hb1 hb1e y2 hy2 hl_hb1 => ?_)
 refine kY_ 1 0 hl_hb1 hy2 ?_
 refine t_N ?_
 intro h s σ hS hH
 obtain rfl := si_1 h
 exact aO_ [] (bq_ (v := i4 y2.v) hS rfl r_nil) rfl rfl hH
noncomputable def cg_ (a0 : ag_) : Option (ByteArray × ag_) := ((a4_ a0 (⟨false, [⟨#[120]⟩, ⟨#[121]⟩, ⟨#[122]⟩, ⟨#[80, 97, 116]⟩, ⟨#[97, 95, 49]⟩]⟩)).bind fun y1 => (some (y1.1, y1.2.1)))
theorem gi_ (a0 : ag_) (r : (ByteArray × ag_)) (h : cg_ a0 = some r) (bp0 : Nat) : RawS Try.prog md ext 108 [.ptr bp0 0 0 3] 0 (fun hs => E_str r.1) [.box bp0 (ag_.cells a0)] (fun hs => [.box bp0 (ag_.cells r.2)]) := by
 unfold cg_ at h
 refine b3_ rfl rfl ok_108 rfl ?_
 intro σ0 σ F σk s hS hH
 have hS := ae_ (L' := [(0, .ptr bp0 0 0 3)]) hS (by kernel_rfl)
 refine t_go h hS hH ?_
 refine t_RN ?_
 refine t_RU 1 ?_
 refine k_bs (z := true) (⟨false, [⟨#[120]⟩, ⟨#[121]⟩, ⟨#[122]⟩, ⟨#[80, 97, 116]⟩, ⟨#[97, 95, 49]⟩]⟩ : Sl ByteArray) (fun t1 ht1 => ?_)
 refine t_h Heap.up1 ?_
 refine aH_ (fun y1 hs hy1 hl => ?_) (hr := by exact fun y1 hy1 => c5_ _ _ y1 hy1 bp0 1 t1)
 obtain rfl := len0 hl
 refine bf_ ?_
 refine t_N ?_
 intro h s σ hS hH
 obtain rfl := si_1 h
 exact aO_ [] (bq_ (v := .str y1.1) hS rfl r_nil) rfl rfl (Heap.sel hH [0, 2] rfl (by kernel_rfl))
noncomputable def b9_ (a0 : ag_) : Option (DPattern × ag_) := ((bg_ a0 (⟨false, [⟨1⟩, ⟨1⟩, ⟨1⟩, ⟨2⟩, ⟨3⟩, ⟨4⟩, ⟨5⟩, ⟨6⟩, ⟨6⟩, ⟨7⟩, ⟨8⟩, ⟨9⟩, ⟨10⟩, ⟨11⟩, ⟨12⟩, ⟨12⟩, ⟨13⟩, ⟨14⟩, ⟨15⟩, ⟨16⟩, ⟨17⟩, ⟨23⟩, ⟨24⟩, ⟨24⟩]⟩)).bind fun y1 => ((ch_ y1.1).bind fun y2 => (if (decide (y2.2 = (⟨#[115]⟩ : ByteArray))) = true then ((bA_ y1.2.1).bind fun y3 => (((if (decide (y1.1 = 1)) = true then ((a1_ y3.2 4).bind fun y5 => (some (y5.1, y5.2.code_, y5.2.at_, y5.2.seed_))) else (some (false, y3.2.code_, y3.2.at_, y3.2.seed_))) : Option (Bool × (Sl (Iv .u8)) × Int × Int)).bind fun y4 => (if y4.1 = true then (some ((⟨y1.1, 0, ⟨#[]⟩, ⟨true, []⟩⟩ : DPattern), (⟨y4.2.1, y4.2.2.1, y4.2.2.2⟩ : ag_))) else (some ((⟨y1.1, 0, y3.1, ⟨true, []⟩⟩ : DPattern), (⟨y4.2.1, y4.2.2.1, y4.2.2.2⟩ : ag_)))))) else (if (decide (y2.2 = (⟨#[110]⟩ : ByteArray))) = true then ((aF_ y1.2.1 4).bind fun y6 => (some ((⟨y1.1, y6.1, ⟨#[]⟩, ⟨true, []⟩⟩ : DPattern), y6.2))) else (if (decide (y2.2 = (⟨#[120]⟩ : ByteArray))) = true then ((cg_ y1.2.1).bind fun y7 => (some ((⟨y1.1, 0, y7.1, ⟨true, []⟩⟩ : DPattern), y7.2))) else (some ((⟨y1.1, 0, ⟨#[]⟩, ⟨true, []⟩⟩ : DPattern), y1.2.1)))))))
theorem ga_ (a0 : ag_) (r : (DPattern × ag_)) (h : b9_ a0 = some r) (bp0 : Nat) : RawS Try.prog md ext 105 [.ptr bp0 0 0 3] Sh_DPattern.n (fun hs => Sh_DPattern.tree hs r.1) [.box bp0 (ag_.cells a0)] (fun hs => Sh_DPattern.en hs r.1 ++ [.box bp0 (ag_.cells r.2)]) := by
 unfold b9_ at h
 refine b3_ rfl rfl ok_105 rfl ?_
 intro σ0 σ F σk s hS hH
 have hS := ae_ (L' := [(0, .ptr bp0 0 0 3)]) hS (by kernel_rfl)
 refine t_go h hS hH ?_
 refine t_R ?_
 refine bp_ fun b1 => ?_
 refine t_N ?_
 refine t_RU 1 ?_
 refine k_bs (z := true) (⟨false, [⟨1⟩, ⟨1⟩, ⟨1⟩, ⟨2⟩, ⟨3⟩, ⟨4⟩, ⟨5⟩, ⟨6⟩, ⟨6⟩, ⟨7⟩, ⟨8⟩, ⟨9⟩, ⟨10⟩, ⟨11⟩, ⟨12⟩, ⟨12⟩, ⟨13⟩, ⟨14⟩, ⟨15⟩, ⟨16⟩, ⟨17⟩, ⟨23⟩, ⟨24⟩, ⟨24⟩]⟩ : Sl (Iv .i64)) (fun t1 ht1 => ?_)
 refine t_h Heap.up2 ?_
 refine aH_ (fun y1 hs hy1 hl => ?_) (hr := by exact fun y1 hy1 => en_ _ _ y1 hy1 bp0 1 t1)
 obtain rfl := len0 hl
 refine bf_ ?_
 refine t_N ?_
 refine t_RU 2 ?_
 refine bp_ fun b2 => ?_
 refine aL_ 0 ?_
 refine t_N ?_
 refine t_RU 1 ?_
 refine ap_ fun y2 hy2 => ?_
 refine t_N ?_
 refine t_RN ?_
 refine t_RN ?_
 refine t_if (fun hc1 => ?_) fun hc1 => ?_
 ·refine t_RU 1 ?_
  refine t_h Heap.up1 ?_
  refine aH_ (fun y3 hs hy3 hl => ?_) (hr := by exact fun y3 hy3 => fM_ _ y3 hy3 bp0)
  obtain rfl := len0 hl
  refine bf_ ?_
  refine t_U 1 ?_
  refine aI_ 1 ?_
  refine t_N ?_
  refine eu_ 0 (fun y4 e fr => e = .normal ∧ Sub [(2, .ptr b1 0 0 4), (4, .ptr b2 0 0 4), (28, .bool y4.1)] fr.s ∧ Heap σ0 fr.σ [.box b2 [i4 y1.1, i4 0, .str y3.1, (nt DPattern)], .box bp0 [y4.2.1.t, i4 y4.2.2.1, .int .u64 y4.2.2.2], .box b1 [i4 0, i4 0, .str ⟨#[]⟩, (nt DPattern)], .keep F σk]) (fun y4 e fr h HF => ?_) fun y4 => ?_
  ·obtain ⟨s, σ⟩ := fr
   obtain ⟨rfl, hS, hH⟩ := HF
   refine t_bx h hS hH ?_
   refine t_if (fun hc2 => ?_) fun hc2 => ?_
   ·refine t_RU 1 ?_
    refine aI_ 0 ?_
    refine t_N ?_
    refine t_R ?_
    refine ad_ 0 ?_
    refine aL_ 2 ?_
    refine t_N ?_
    intro h s σ hS hH
    obtain rfl := si_1 h
    have hH := Heap.addNil hH true 4
    exact aO_ [(T.row true 0 [])] (fS_ (v := .agg [i4 y1.1, i4 0, .str ⟨#[]⟩, (nt DPattern)]) hS (hH.at 1 rfl) rfl (by kernel_rfl) r_nil) rfl rfl (Heap.sel hH [0, 3, 4] rfl (by kernel_rfl))
   refine t_R ?_
   refine ad_ 0 ?_
   refine aL_ 2 ?_
   refine t_N ?_
   intro h s σ hS hH
   obtain rfl := si_1 h
   have hH := Heap.addNil hH true 4
   exact aO_ [(T.row true 0 [])] (fS_ (v := .agg [i4 y1.1, i4 0, .str y3.1, (nt DPattern)]) hS (hH.at 1 rfl) rfl (by kernel_rfl) r_nil) rfl rfl (Heap.sel hH [0, 3, 4] rfl (by kernel_rfl))
  refine t_RU 3 ?_
  refine aP_ 25 (fun hc3 => ?_) fun hc3 => ?_
  ·refine t_U 1 ?_
   refine t_h Heap.up1 ?_
   refine aH_ (fun y5 hs hy5 hl => ?_) (hr := by exact fun y5 hy5 => cA_ _ _ y5 hy5 bp0)
   obtain rfl := len0 hl
   refine bf_ ?_
   refine t_N ?_
   exact t_e fun he hS hH => he ▸ ⟨rfl, (ae_ hS (by kernel_rfl)), (Heap.sel hH [1, 0, 3, 4] rfl (by kernel_rfl))⟩
  refine t_N ?_
  exact t_e fun he hS hH => he ▸ ⟨rfl, (ae_ hS (by kernel_rfl)), (Heap.sel hH [0, 1, 3, 4] rfl (by kernel_rfl))⟩
 refine t_RN ?_
 refine t_if (fun hc4 => ?_) fun hc4 => ?_
 ·refine t_RU 1 ?_
  refine t_h Heap.up1 ?_
  refine aH_ (fun y6 hs hy6 hl => ?_) (hr := by exact fun y6 hy6 => a7_ _ _ y6 hy6 bp0)
  obtain rfl := len0 hl
  refine bf_ ?_
  refine t_U 1 ?_
  refine aI_ 1 ?_
  refine t_N ?_
  refine t_R ?_
  refine ad_ 0 ?_
  refine aL_ 3 ?_
  refine t_N ?_
  intro h s σ hS hH
  obtain rfl := si_1 h
  have hH := Heap.addNil hH true 4
  exact aO_ [(T.row true 0 [])] (fS_ (v := .agg [i4 y1.1, i4 y6.1, .str ⟨#[]⟩, (nt DPattern)]) hS (hH.at 1 rfl) rfl (by kernel_rfl) r_nil) rfl rfl (Heap.sel hH [0, 3, 5] rfl (by kernel_rfl))
 refine t_RN ?_
 refine t_if (fun hc5 => ?_) fun hc5 => ?_
 ·refine t_RU 1 ?_
  refine t_h Heap.up1 ?_
  refine aH_ (fun y7 hs hy7 hl => ?_) (hr := by exact fun y7 hy7 => gi_ _ y7 hy7 bp0)
  obtain rfl := len0 hl
  refine bf_ ?_
  refine t_U 1 ?_
  refine aI_ 1 ?_
  refine t_N ?_
  refine t_R ?_
  refine ad_ 0 ?_
  refine aL_ 3 ?_
  refine t_N ?_
  intro h s σ hS hH
  obtain rfl := si_1 h
  have hH := Heap.addNil hH true 4
  exact aO_ [(T.row true 0 [])] (fS_ (v := .agg [i4 y1.1, i4 0, .str y7.1, (nt DPattern)]) hS (hH.at 1 rfl) rfl (by kernel_rfl) r_nil) rfl rfl (Heap.sel hH [0, 3, 5] rfl (by kernel_rfl))
 refine t_R ?_
 refine ad_ 0 ?_
 refine aL_ 3 ?_
 refine t_N ?_
 intro h s σ hS hH
 obtain rfl := si_1 h
 have hH := Heap.addNil hH true 4
 exact aO_ [(T.row true 0 [])] (fS_ (v := .agg [i4 y1.1, i4 0, .str ⟨#[]⟩, (nt DPattern)]) hS (hH.at 1 rfl) rfl (by kernel_rfl) r_nil) rfl rfl (Heap.sel hH [0, 3, 5] rfl (by kernel_rfl))
def eg_ (R : ag_ → Int → Option (DPattern × ag_)) : Prop := ∀ (a0 : ag_) (a1 : Int) (r : (DPattern × ag_)), R a0 a1 = some r → ∀ (bp0 : Nat), RawS Try.prog md ext 65 [.ptr bp0 0 0 3, i4 a1] Sh_DPattern.n (fun hs => Sh_DPattern.tree hs r.1) [.box bp0 (ag_.cells a0)] (fun hs => Sh_DPattern.en hs r.1 ++ [.box bp0 (ag_.cells r.2)])
noncomputable def bx_ (R_65 : ag_ → Int → Option (DPattern × ag_)) (a0 : ag_) (a1 : Int) : Option (DPattern × ag_) := (if (decide (a1 ≤ 0)) = true then ((b9_ a0).bind fun y1 => (some (y1.1, y1.2))) else ((a1_ a0 4).bind fun y2 => (if y2.1 = true then ((b9_ y2.2).bind fun y3 => (some (y3.1, y3.2))) else ((bg_ y2.2 (⟨false, [⟨18⟩, ⟨18⟩, ⟨19⟩, ⟨19⟩, ⟨19⟩, ⟨20⟩, ⟨21⟩, ⟨22⟩]⟩)).bind fun y4 => ((ch_ y4.1).bind fun y5 => ((az_ (S := (Int × (Sl (Iv .u8)) × Int × Int × (Sl DPattern))) (R := ((Sl (Iv .u8)) × Int × Int × (Sl DPattern))) (fun st1 => (if (decide (st1.1 < y5.1)) = true then ((R_65 (⟨st1.2.1, st1.2.2.1, st1.2.2.2.1⟩ : ag_) (w4 (a1 - 1))).bind fun y7 => ((appS 56 st1.2.2.2.2 (⟨false, [y7.1]⟩ : Sl DPattern)).bind fun y8 => (some (.inl ((w4 (st1.1 + 1)), y7.2.code_, y7.2.at_, y7.2.seed_, y8))))) else (some (.inr (st1.2.1, st1.2.2.1, st1.2.2.2.1, st1.2.2.2.2))))) (0, y4.2.1.code_, y4.2.1.at_, y4.2.1.seed_, (⟨true, []⟩ : Sl DPattern))).bind fun y6 => (if (decide (y5.2 = (⟨#[120]⟩ : ByteArray))) = true then ((cg_ (⟨y6.1, y6.2.1, y6.2.2.1⟩ : ag_)).bind fun y9 => (some ((⟨y4.1, 0, y9.1, y6.2.2.2⟩ : DPattern), y9.2))) else (some ((⟨y4.1, 0, ⟨#[]⟩, y6.2.2.2⟩ : DPattern), (⟨y6.1, y6.2.1, y6.2.2.1⟩ : ag_))))))))))
theorem hS_ (R_65 : ag_ → Int → Option (DPattern × ag_)) (hR_65 : eg_ R_65) : eg_ (bx_ R_65) := by
 intro a0 a1 r h bp0
 unfold bx_ at h
 refine b3_ rfl rfl ok_65 rfl ?_
 intro σ0 σ F σk s hS hH
 have hS := ae_ (L' := [(0, .ptr bp0 0 0 3), (1, i4 a1)]) hS (by kernel_rfl)
 refine t_go h hS hH ?_
 refine t_R ?_
 refine bp_ fun b1 => ?_
 refine t_N ?_
 refine t_RU 3 ?_
 refine aP_ 12 (fun hc1 => ?_) fun hc1 => ?_
 ·refine t_N ?_
  refine t_cT rfl ?_
  refine t_RU 1 ?_
  refine t_h Heap.up1 ?_
  refine aH_ (fun y1 hs hy1 hl => ?_) (hr := by exact fun y1 hy1 => ga_ _ y1 hy1 bp0)
  obtain ⟨t1, rfl⟩ := len1 hl
  refine bf_ ?_
  refine au_ 0 fun ht1 => ?_
  refine aL_ 2 ?_ (h1 := by simp [ht1.1, ht1.2])
  refine t_N ?_
  intro h s σ hS hH
  obtain rfl := si_1 h
  exact aO_ [t1] (fS_ (v := .agg [i4 y1.1.Kind, i4 y1.1.Num, .str y1.1.Text, t1]) hS hH rfl (by kernel_rfl) r_nil) rfl rfl (Heap.sel hH [1, 2, 3] rfl (by kernel_rfl))
 refine t_U 1 ?_
 refine t_h Heap.up1 ?_
 refine aH_ (fun y2 hs hy2 hl => ?_) (hr := by exact fun y2 hy2 => cA_ _ _ y2 hy2 bp0)
 obtain rfl := len0 hl
 refine bf_ ?_
 refine t_N ?_
 refine t_if (fun hc2 => ?_) fun hc2 => ?_
 ·refine t_RU 1 ?_
  refine aH_ (fun y3 hs hy3 hl => ?_) (hr := by exact fun y3 hy3 => ga_ _ y3 hy3 bp0)
  obtain ⟨t2, rfl⟩ := len1 hl
  refine bf_ ?_
  refine au_ 0 fun ht2 => ?_
  refine aL_ 2 ?_ (h1 := by simp [ht2.1, ht2.2])
  refine t_N ?_
  intro h s σ hS hH
  obtain rfl := si_1 h
  exact aO_ [t2] (fS_ (v := .agg [i4 y3.1.Kind, i4 y3.1.Num, .str y3.1.Text, t2]) hS hH rfl (by kernel_rfl) r_nil) rfl rfl (Heap.sel hH [1, 2, 3] rfl (by kernel_rfl))
 refine t_RU 1 ?_
 refine k_bs (z := true) (⟨false, [⟨18⟩, ⟨18⟩, ⟨19⟩, ⟨19⟩, ⟨19⟩, ⟨20⟩, ⟨21⟩, ⟨22⟩]⟩ : Sl (Iv .i64)) (fun t3 ht3 => ?_)
 refine t_h Heap.up1 ?_
 refine aH_ (fun y4 hs hy4 hl => ?_) (hr := by exact fun y4 hy4 => en_ _ _ y4 hy4 bp0 1 t3)
 obtain rfl := len0 hl
 refine bf_ ?_
 refine t_N ?_
 refine t_RU 2 ?_
 refine bp_ fun b2 => ?_
 refine aL_ 0 ?_
 refine t_N ?_
 refine t_RU 1 ?_
 refine ap_ fun y5 hy5 => ?_
 refine t_N ?_
 refine t_RN ?_
 refine t_h (Heap.addNil · true 4) ?_
 refine a6_ (fun st1 fr => ∃ t5, ao_ t5 ∧ Sub [(0, .ptr bp0 0 0 3), (1, i4 a1), (4, .ptr b1 0 0 4), (6, .ptr b2 0 0 4), (7, i4 y5.1), (8, .str y5.2), (9, i4 st1.1)] fr.s ∧ Heap σ0 fr.σ [.box b2 [i4 y4.1, i4 0, .str ⟨#[]⟩, t5], .box bp0 [st1.2.1.t, i4 st1.2.2.1, .int .u64 st1.2.2.2.1], .box b1 [i4 0, i4 0, .str ⟨#[]⟩, (nt DPattern)], .own true 4 t5 st1.2.2.2.2.t, .keep F σk]) (fun y6 e fr => ∃ t6, ao_ t6 ∧ e = (.exit 0) ∧ Sub [(0, .ptr bp0 0 0 3), (4, .ptr b1 0 0 4), (6, .ptr b2 0 0 4), (8, .str y5.2)] fr.s ∧ Heap σ0 fr.σ [.box b2 [i4 y4.1, i4 0, .str ⟨#[]⟩, t6], .box bp0 [y6.1.t, i4 y6.2.1, .int .u64 y6.2.2.1], .box b1 [i4 0, i4 0, .str ⟨#[]⟩, (nt DPattern)], .own true 4 t6 y6.2.2.2.t, .keep F σk]) (fun hS hH => ⟨(T.row true 0 []), ⟨rfl, rfl⟩, (ae_ hS (by kernel_rfl)), (Heap.sel hH [1, 2, 4, 0, 5] rfl (by kernel_rfl))⟩) (fun st1 x fr h HI => ?_) fun y6 e fr h HF => ?_
 ·obtain ⟨s, σ⟩ := fr; obtain ⟨t5, ht5, ⟨hS, hH⟩⟩ := HI
  refine t_bk h hS hH ?_
  refine t_RN ?_
  refine t_if (fun hc3 => ?_) fun hc3 => ?_
  ·refine a8_ [(5, (RB b2 RN)), (7, RN), (9, RN)] ext_x fun mb σs hn0 hlt hlto => ?_
   have hlt_b2 : b2 < mb := hlt b2 _ (List.Mem.head _)
   refine t_U 1 ?_
   refine ad_ 0 ?_ (hlt := by exact (Or.inr ⟨hlt_b2, (Wc.cons (.inr (Or.inl rfl)) (Wc.cons (.inl (by kernel_rfl)) (Wc.cons (.inl (by kernel_rfl)) Wc.nil)))⟩))
   refine t_U 3 ?_
   refine t_h Heap.up1 ?_
   refine dS_ (RB b2 RN) ext_x (Stay.box (List.Mem.head _) Stay.nil) (by exact fun x hx => Or.inr ⟨5, by kernel_rfl, hx⟩) (fun y7 hs hy7 hl => ?_) (hr := by exact fun y7 hy7 => hR_65 _ _ y7 hy7 bp0)
   obtain ⟨t7, rfl⟩ := len1 hl
   refine bf_ ?_
   refine au_ 0 fun ht7 => ?_
   refine k_bs (z := true) (⟨false, [y7.1]⟩ : Sl DPattern) (fun t8 ht8 => ?_) (hb := by exact hn0) (h1 := by simp [ht7.1, ht7.2])
   refine k0_ 4 0 (fun y8 t9 hy8 ht9 => ?_) (hb := by exact hn0) (hwr := by exact fun hH b e o n h0 => Or.inr ⟨7, by kernel_rfl, fun h => h⟩)
   refine t_U 1 ?_
   refine bX_ 2 ht9 ?_ (hwr := by exact fun hH => Or.inr ⟨9, by kernel_rfl, fun h => h⟩)
   refine t_N ?_
   refine t_RN ?_
   exact t_e fun he hS hH => he ▸ ⟨t9, ht9, (ae_ hS (by kernel_rfl)), (Heap.sel hH [0, 2, 3, 1, 4] rfl (by kernel_rfl))⟩
  exact t_e fun he hS hH => he ▸ ⟨t5, ht5, rfl, (ae_ hS (by kernel_rfl)), hH⟩
 obtain ⟨s, σ⟩ := fr
 obtain ⟨t6, ht6, ⟨rfl, hS, hH⟩⟩ := HF
 refine t_bx h hS hH ?_
 refine t_RN ?_
 refine t_if (fun hc4 => ?_) fun hc4 => ?_
 ·refine t_RU 1 ?_
  refine t_h Heap.up1 ?_
  refine aH_ (fun y9 hs hy9 hl => ?_) (hr := by exact fun y9 hy9 => gi_ _ y9 hy9 bp0)
  obtain rfl := len0 hl
  refine bf_ ?_
  refine t_U 1 ?_
  refine aI_ 1 ?_
  refine t_N ?_
  refine t_R ?_
  refine ad_ 0 ?_
  refine aL_ 2 ?_ (h1 := by simp [ht6.1, ht6.2])
  refine t_N ?_
  intro h s σ hS hH
  obtain rfl := si_1 h
  exact aO_ [t6] (fS_ (v := .agg [i4 y4.1, i4 0, .str y9.1, t6]) hS hH rfl (by kernel_rfl) r_nil) rfl rfl (Heap.sel hH [3, 2, 4] rfl (by kernel_rfl))
 refine t_R ?_
 refine ad_ 0 ?_
 refine aL_ 2 ?_ (h1 := by simp [ht6.1, ht6.2])
 refine t_N ?_
 intro h s σ hS hH
 obtain rfl := si_1 h
 exact aO_ [t6] (fS_ (v := .agg [i4 y4.1, i4 0, .str ⟨#[]⟩, t6]) hS hH rfl (by kernel_rfl) r_nil) rfl rfl (Heap.sel hH [3, 2, 4] rfl (by kernel_rfl))
noncomputable def BG_spec_l11Draw : Nat → (ag_ → Int → Option (DPattern × ag_))
 | 0 => (fun _ _ => none)
 | n + 1 => bx_ (BG_spec_l11Draw n)
theorem uBG_spec_l11Draw : ∀ n, eg_ ((BG_spec_l11Draw n))
 | 0 => (by intro _ _ r h; have h : none = some r := h; cases h)
 | n + 1 => hS_ (BG_spec_l11Draw n) (uBG_spec_l11Draw n)
noncomputable def ca_ (a0 : ag_) (a1 : Int) : Option (DPattern × ag_) := (BG_spec_l11Draw bigN) a0 a1
theorem gc_ (a0 : ag_) (a1 : Int) (r : (DPattern × ag_)) (h : ca_ a0 a1 = some r) (bp0 : Nat) : RawS Try.prog md ext 65 [.ptr bp0 0 0 3, i4 a1] Sh_DPattern.n (fun hs => Sh_DPattern.tree hs r.1) [.box bp0 (ag_.cells a0)] (fun hs => Sh_DPattern.en hs r.1 ++ [.box bp0 (ag_.cells r.2)]) := (uBG_spec_l11Draw bigN) a0 a1 r h bp0
noncomputable def cv_ (a0 : ag_) : Option ((Sl DNamed) × ag_) := ((az_ (S := (Int × (Sl (Iv .u8)) × Int × Int × (Sl DNamed))) (R := ((Sl (Iv .u8)) × Int × Int × (Sl DNamed))) (fun st1 => (if (decide (st1.1 < 5)) = true then ((a1_ (⟨st1.2.1, st1.2.2.1, st1.2.2.2.1⟩ : ag_) 3).bind fun y2 => (if (!y2.1) = true then ((elt (⟨false, [⟨#[120]⟩, ⟨#[121]⟩, ⟨#[122]⟩, ⟨#[80, 97, 116]⟩, ⟨#[97, 95, 49]⟩]⟩ : Sl ByteArray) st1.1).bind fun y3 => ((aF_ y2.2 4).bind fun y4 => ((ca_ y4.2 y4.1).bind fun y5 => ((appS 72 st1.2.2.2.2 (⟨false, [(⟨y3, y5.1⟩ : DNamed)]⟩ : Sl DNamed)).bind fun y6 => (some (.inl ((w4 (st1.1 + 1)), y5.2.code_, y5.2.at_, y5.2.seed_, y6))))))) else (some (.inl ((w4 (st1.1 + 1)), y2.2.code_, y2.2.at_, y2.2.seed_, st1.2.2.2.2))))) else (some (.inr (st1.2.1, st1.2.2.1, st1.2.2.2.1, st1.2.2.2.2))))) (0, a0.code_, a0.at_, a0.seed_, (⟨false, []⟩ : Sl DNamed))).bind fun y1 => (some (y1.2.2.2, (⟨y1.1, y1.2.1, y1.2.2.1⟩ : ag_))))
theorem jq_ (a0 : ag_) (r : ((Sl DNamed) × ag_)) (h : cv_ a0 = some r) (bp0 : Nat) : RawS Try.prog md ext 63 [.ptr bp0 0 0 3] Sh_sl_DNamed.n (fun hs => Sh_sl_DNamed.tree hs r.1) [.box bp0 (ag_.cells a0)] (fun hs => Sh_sl_DNamed.en hs r.1 ++ [.box bp0 (ag_.cells r.2)]) := by
 unfold cv_ at h
 refine b3_ rfl rfl ok_63 rfl ?_
 intro σ0 σ F σk s hS hH
 have hS := ae_ (L' := [(0, .ptr bp0 0 0 3)]) hS (by kernel_rfl)
 refine t_go h hS hH ?_
 refine t_RN ?_
 refine t_R ?_
 refine r8_ (α := DNamed) (fun t1 ht1 => ?_)
 refine t_N ?_
 refine t_R ?_
 refine k_bs (z := true) (⟨false, [⟨#[120]⟩, ⟨#[121]⟩, ⟨#[122]⟩, ⟨#[80, 97, 116]⟩, ⟨#[97, 95, 49]⟩]⟩ : Sl ByteArray) (fun t2 ht2 => ?_)
 refine t_N ?_
 refine t_RN ?_
 refine a6_ (fun st1 fr => ∃ t4, ao_ t4 ∧ Sub [(0, .ptr bp0 0 0 3), (3, t4), (4, t2), (5, i4 st1.1)] fr.s ∧ Heap σ0 fr.σ [.box bp0 [st1.2.1.t, i4 st1.2.2.1, .int .u64 st1.2.2.2.1], .own true 5 t4 st1.2.2.2.2.t, .own true 1 t2 (Sl.t (⟨false, [⟨#[120]⟩, ⟨#[121]⟩, ⟨#[122]⟩, ⟨#[80, 97, 116]⟩, ⟨#[97, 95, 49]⟩]⟩ : Sl ByteArray)), .keep F σk]) (fun y1 e fr => ∃ t5, ao_ t5 ∧ e = (.exit 0) ∧ Sub [(3, t5)] fr.s ∧ Heap σ0 fr.σ [.box bp0 [y1.1.t, i4 y1.2.1, .int .u64 y1.2.2.1], .own true 5 t5 y1.2.2.2.t, .keep F σk]) (fun hS hH => ⟨t1, ht1, (ae_ hS (by kernel_rfl)), (Heap.sel hH [2, 1, 0, 3] rfl (by kernel_rfl))⟩) (fun st1 x fr h HI => ?_) fun y1 e fr h HF => ?_
 ·obtain ⟨s, σ⟩ := fr; obtain ⟨t4, ht4, ⟨hS, hH⟩⟩ := HI
  refine t_bk h hS hH ?_
  refine t_RN ?_
  refine t_if (fun hc1 => ?_) fun hc1 => ?_
  ·refine t_RU 1 ?_
   refine aH_ (fun y2 hs hy2 hl => ?_) (hr := by exact fun y2 hy2 => cA_ _ _ y2 hy2 bp0)
   obtain rfl := len0 hl
   refine bf_ ?_
   refine t_N ?_
   refine t_if (fun hc2 => ?_) fun hc2 => ?_
   ·refine a8_ [(7, (RT t2 RN)), (8, (RT t2 RN)), (11, RN)] ext_x fun mb σs hn0 hlt hlto => ?_
    have hlt_t2 : ∀ b e o n, t2 = .ref b e o n → b < mb := fun b e o n h => hlto _ _ _ _ (List.Mem.tail _ (List.Mem.tail _ (List.Mem.head _))) b e o n h
    refine t_U 3 ?_
    refine lX_ 2 (fun hb1 hb1e y3 hy3 hl_hb1 => ?_) (hlt := by exact (fun b e o n h => Or.inr ⟨hlt_t2 b e o n h, (Wc.cons (.inr (Or.inl ⟨_, _, _, h⟩)) (Wc.cons (.inr (Or.inl ⟨_, _, _, h⟩)) (Wc.cons (.inl (by kernel_rfl)) Wc.nil)))⟩))
    refine kY_ 2 0 hl_hb1 hy3 ?_ (hlt := by exact (fun b e o n h => Or.inr ⟨hlt_t2 b e o n h, (Wc.cons (.inr (Or.inl ⟨_, _, _, h⟩)) (Wc.cons (.inr (Or.inl ⟨_, _, _, h⟩)) (Wc.cons (.inl (by kernel_rfl)) Wc.nil)))⟩))
    refine t_U 2 ?_
    refine dS_ (RT t2 RN) ext_x (Stay.own (List.Mem.tail _ (List.Mem.head _)) Stay.nil) (by exact fun x hx => Or.inr ⟨7, by kernel_rfl, hx⟩) (fun y4 hs hy4 hl => ?_) (hr := by exact fun y4 hy4 => a7_ _ _ y4 hy4 bp0)
    obtain rfl := len0 hl
    refine bf_ ?_
    refine dS_ (RT t2 RN) ext_x (Stay.own (List.Mem.tail _ (List.Mem.head _)) Stay.nil) (by exact fun x hx => Or.inr ⟨8, by kernel_rfl, hx⟩) (fun y5 hs hy5 hl => ?_) (hr := by exact fun y5 hy5 => gc_ _ _ y5 hy5 bp0)
    obtain ⟨t6, rfl⟩ := len1 hl
    refine bf_ ?_
    refine au_ 0 fun ht6 => ?_
    intro h s σ hS hH
    refine ln_ (qs := [(0, .str y3), (1, .agg [i4 y5.1.Kind, i4 y5.1.Num, .str y5.1.Text, t6])]) (z := [.str ⟨#[]⟩, i4 0, i4 0, .str ⟨#[]⟩, (nt DPattern)]) (r := [.str y3, i4 y5.1.Kind, i4 y5.1.Num, .str y5.1.Text, t6]) [[.str y3], [i4 y5.1.Kind, i4 y5.1.Num, .str y5.1.Text, t6]] rfl hS rfl (by kernel_rfl) (by kernel_rfl) (⟨rfl, (by kernel_rfl), rfl, (by simp [ht6.1, ht6.2]), trivial⟩) (by kernel_rfl) ?_; intro s hS
    refine t_bk h hS hH ?_
    refine k_bs (z := true) (⟨false, [(⟨y3, y5.1⟩ : DNamed)]⟩ : Sl DNamed) (fun t7 ht7 => ?_) (hb := by exact hn0) (h1 := by simp [ht6.1, ht6.2])
    refine k0_ 2 0 (fun y6 t8 hy6 ht8 => ?_) (hb := by exact hn0) (hwr := by exact fun hH b e o n h0 => Or.inr ⟨11, by kernel_rfl, fun h => h⟩)
    refine t_N ?_
    refine t_RN ?_
    exact t_e fun he hS hH => he ▸ ⟨t8, ht8, (ae_ hS (by kernel_rfl)), (Heap.sel hH [1, 0, 2, 3] rfl (by kernel_rfl))⟩
   refine t_RN ?_
   exact t_e fun he hS hH => he ▸ ⟨t4, ht4, (ae_ hS (by kernel_rfl)), hH⟩
  exact t_e fun he hS hH => he ▸ ⟨t4, ht4, rfl, (ae_ hS (by kernel_rfl)), (Heap.sel hH [0, 1, 3] rfl (by kernel_rfl))⟩
 obtain ⟨s, σ⟩ := fr
 obtain ⟨t5, ht5, ⟨rfl, hS, hH⟩⟩ := HF
 refine t_bx h hS hH ?_
 refine t_RN ?_
 intro h s σ hS hH
 obtain rfl := si_1 h
 exact aO_ [t5] (bq_ (v := t5) hS rfl r_nil) rfl rfl (Heap.sel hH [1, 0, 2] rfl (by kernel_rfl))
noncomputable def fV_ (a0 : (Sl (Iv .u8))) : Option (Sl DNamed) := ((cv_ (⟨a0, 0, 0⟩ : ag_)).bind fun y1 => (some y1.1))
theorem kT_ (a0 : (Sl (Iv .u8))) (r : (Sl DNamed)) (h : fV_ a0 = some r) : fW_ a0 = some r := by
 unfold fV_ at h
 refine k_W ok_15 E_sl_DNamed_inj h (fun σ0 => ?_)
 refine t_RN ?_
 refine t_RU 1 ?_
 refine er_ ok_62 ?_
 refine t_RN ?_
 refine t_RU 2 ?_
 refine ct_ (fun b1 => ?_)
 refine t_N ?_
 refine k_eI (rT rN) ?_
 refine t_N ?_
 refine t_RU 1 ?_
 refine aH_ (fun y1 hs hy1 hl => ?_) (hr := by exact fun y1 hy1 => jq_ _ y1 hy1 b1)
 obtain ⟨t1, rfl⟩ := len1 hl
 refine bf_ ?_
 refine au_ 0 fun ht1 => ?_
 refine t_N ?_
 intro h s σ hS hH
 obtain rfl := si_1 h
 exact oX_ (ents := [.own true 5 t1 y1.1.t]) (z := false) hH (bq_ (v := t1) hS rfl r_nil) (HL.own rfl HL.nil) (by simp [pureT, pureL, E_sl_DNamed])
noncomputable def fd_ (a0 : (Sl (Iv .u8))) : Option DPattern := ((aF_ (⟨a0, 0, 0⟩ : ag_) 3).bind fun y1 => ((ca_ y1.2 y1.1).bind fun y2 => ((cf_ y2.1).bind fun y3 => (some y3))))
theorem jk_ (a0 : (Sl (Iv .u8))) (r : DPattern) (h : fd_ a0 = some r) : da_ a0 = some r := by
 unfold fd_ at h
 refine k_W ok_16 E_DPattern_inj h (fun σ0 => ?_)
 refine t_R ?_
 refine bp_ fun b1 => ?_
 refine t_N ?_
 refine t_RU 1 ?_
 refine er_ ok_62 ?_
 refine t_RN ?_
 refine t_RU 2 ?_
 refine ct_ (fun b2 => ?_)
 refine t_N ?_
 refine k_eI (rT rN) ?_
 refine t_N ?_
 refine t_RU 2 ?_
 refine aH_ (fun y1 hs hy1 hl => ?_) (hr := by exact fun y1 hy1 => a7_ _ _ y1 hy1 b2)
 obtain rfl := len0 hl
 refine bf_ ?_
 refine aH_ (fun y2 hs hy2 hl => ?_) (hr := by exact fun y2 hy2 => gc_ _ _ y2 hy2 b2)
 obtain ⟨t1, rfl⟩ := len1 hl
 refine bf_ ?_
 refine au_ 0 fun ht1 => ?_
 refine f4_ (fun y3 t2 hy3 ht2 => ?_)
 refine aL_ 3 ?_ (h1 := by simp [ht2.1, ht2.2])
 refine t_N ?_
 intro h s σ hS hH
 obtain rfl := si_1 h
 have hH := hH.up1
 exact oX_ (ents := [.own true 4 t2 y3.Kids.t]) (z := false) hH (fS_ (v := .agg [i4 y3.Kind, i4 y3.Num, .str y3.Text, t2]) hS (hH.at 1 rfl) rfl (by kernel_rfl) r_nil) (HL.agg (es1 := [.own true 4 t2 y3.Kids.t]) (es2 := []) (HLi (HLi (HLs (HL.own rfl HL.nil)))) HL.nil) (by simp [pureT, pureL, E_DPattern])
noncomputable def fC_ (a0 : Int) (a1 : (Sl (Iv .u8))) : Option (Sl (Iv .u8)) := ((appS 1 ((⟨false, [⟨(IntKind.u8.wrap a0)⟩]⟩ : Sl (Iv .u8))) a1).bind fun y1 => (some y1))
theorem j7_ (a0 : Int) (a1 : (Sl (Iv .u8))) (r : (Sl (Iv .u8))) (h : fC_ a0 a1 = some r) : cT_ a0 a1 = some r := by
 unfold fC_ at h
 refine k_W ok_17 E_sl_u8_inj h (fun σ0 => ?_)
 refine t_RN ?_
 refine t_RU 2 ?_
 refine k_bs (z := true) (⟨false, [⟨(IntKind.u8.wrap a0)⟩]⟩ : Sl (Iv .u8)) (fun t1 ht1 => ?_)
 refine t_U 1 ?_
 refine pK_ 0 (fun y1 t2 hy1 ht2 => ?_)
 refine t_N ?_
 intro h s σ hS hH
 obtain rfl := si_1 h
 exact oX_ (ents := [.own true 1 t2 y1.t]) (z := false) hH (bq_ (v := t2) hS rfl r_nil) (HL.own rfl HL.nil) (by simp [pureT, pureL, E_sl_u8])
noncomputable def bM_ (a0 : ag_) : Option (ByteArray × ag_) := ((a1_ a0 4).bind fun y1 => (if y1.1 = true then ((a4_ y1.2 (⟨false, [⟨#[]⟩, ⟨#[97]⟩, ⟨#[97, 98]⟩, ⟨#[40, 97, 41, 40, 98, 41]⟩, ⟨#[40, 40, 97, 41, 98, 41]⟩, ⟨#[97, 97, 97, 97]⟩, ⟨#[97, 98, 99, 97, 98, 99]⟩, ⟨#[120, 40, 121]⟩, ⟨#[41, 40]⟩, ⟨#[97, 98, 34, 99]⟩]⟩)).bind fun y2 => (some (y2.1, y2.2.1))) else ((aF_ y1.2 6).bind fun y3 => ((az_ (S := (ByteArray × Int × (Sl (Iv .u8)) × Int × Int)) (R := (ByteArray × (Sl (Iv .u8)) × Int × Int)) (fun st1 => (if (decide (0 < st1.2.1)) = true then ((bA_ (⟨st1.2.2.1, st1.2.2.2.1, st1.2.2.2.2⟩ : ag_)).bind fun y5 => ((catB st1.1 y5.1).bind fun y6 => (some (.inl (y6, (w4 (st1.2.1 - 1)), y5.2.code_, y5.2.at_, y5.2.seed_))))) else (some (.inr (st1.1, st1.2.2.1, st1.2.2.2.1, st1.2.2.2.2))))) (⟨#[]⟩, y3.1, y3.2.code_, y3.2.at_, y3.2.seed_)).bind fun y4 => (some (y4.1, (⟨y4.2.1, y4.2.2.1, y4.2.2.2⟩ : ag_)))))))
theorem hh_ (a0 : ag_) (r : (ByteArray × ag_)) (h : bM_ a0 = some r) (bp0 : Nat) : RawS Try.prog md ext 67 [.ptr bp0 0 0 3] 0 (fun hs => E_str r.1) [.box bp0 (ag_.cells a0)] (fun hs => [.box bp0 (ag_.cells r.2)]) := by
 unfold bM_ at h
 refine b3_ rfl rfl ok_67 rfl ?_
 intro σ0 σ F σk s hS hH
 have hS := ae_ (L' := [(0, .ptr bp0 0 0 3)]) hS (by kernel_rfl)
 refine t_go h hS hH ?_
 refine t_RN ?_
 refine t_RU 1 ?_
 refine aH_ (fun y1 hs hy1 hl => ?_) (hr := by exact fun y1 hy1 => cA_ _ _ y1 hy1 bp0)
 obtain rfl := len0 hl
 refine bf_ ?_
 refine t_N ?_
 refine t_if (fun hc1 => ?_) fun hc1 => ?_
 ·refine t_RU 1 ?_
  refine k_bs (z := true) (⟨false, [⟨#[]⟩, ⟨#[97]⟩, ⟨#[97, 98]⟩, ⟨#[40, 97, 41, 40, 98, 41]⟩, ⟨#[40, 40, 97, 41, 98, 41]⟩, ⟨#[97, 97, 97, 97]⟩, ⟨#[97, 98, 99, 97, 98, 99]⟩, ⟨#[120, 40, 121]⟩, ⟨#[41, 40]⟩, ⟨#[97, 98, 34, 99]⟩]⟩ : Sl ByteArray) (fun t1 ht1 => ?_)
  refine t_h Heap.up1 ?_
  refine aH_ (fun y2 hs hy2 hl => ?_) (hr := by exact fun y2 hy2 => c5_ _ _ y2 hy2 bp0 1 t1)
  obtain rfl := len0 hl
  refine bf_ ?_
  refine t_N ?_
  intro h s σ hS hH
  obtain rfl := si_1 h
  exact aO_ [] (bq_ (v := .str y2.1) hS rfl r_nil) rfl rfl (Heap.sel hH [0, 2] rfl (by kernel_rfl))
 refine t_RN ?_
 refine t_RU 1 ?_
 refine aH_ (fun y3 hs hy3 hl => ?_) (hr := by exact fun y3 hy3 => a7_ _ _ y3 hy3 bp0)
 obtain rfl := len0 hl
 refine bf_ ?_
 refine t_N ?_
 refine a6_ (fun st1 fr => Sub [(0, .ptr bp0 0 0 3), (3, .str st1.1), (4, i4 st1.2.1)] fr.s ∧ Heap σ0 fr.σ [.box bp0 [st1.2.2.1.t, i4 st1.2.2.2.1, .int .u64 st1.2.2.2.2], .keep F σk]) (fun y4 e fr => e = (.exit 0) ∧ Sub [(3, .str y4.1)] fr.s ∧ Heap σ0 fr.σ [.box bp0 [y4.2.1.t, i4 y4.2.2.1, .int .u64 y4.2.2.2], .keep F σk]) (fun hS hH => ⟨(ae_ hS (by kernel_rfl)), hH⟩) (fun st1 x fr h HI => ?_) fun y4 e fr h HF => ?_
 ·obtain ⟨s, σ⟩ := fr; obtain ⟨hS, hH⟩ := HI
  refine t_bk h hS hH ?_
  refine t_RN ?_
  refine t_if (fun hc2 => ?_) fun hc2 => ?_
  ·refine t_RU 2 ?_
   refine aH_ (fun y5 hs hy5 hl => ?_) (hr := by exact fun y5 hy5 => fM_ _ y5 hy5 bp0)
   obtain rfl := len0 hl
   refine bf_ ?_
   refine s8_ fun y6 hy6 => ?_
   refine t_N ?_
   refine t_RN ?_
   exact t_e fun he hS hH => he ▸ ⟨(ae_ hS (by kernel_rfl)), hH⟩
  exact t_e fun he hS hH => he ▸ ⟨rfl, (ae_ hS (by kernel_rfl)), hH⟩
 obtain ⟨s, σ⟩ := fr
 obtain ⟨rfl, hS, hH⟩ := HF
 refine t_bx h hS hH ?_
 refine t_RN ?_
 intro h s σ hS hH
 obtain rfl := si_1 h
 exact aO_ [] (bq_ (v := .str y4.1) hS rfl r_nil) rfl rfl hH
noncomputable def dD_ (a0 : (Sl (Iv .u8))) : Option ByteArray := ((bM_ (⟨a0, 0, 0⟩ : ag_)).bind fun y1 => (some y1.1))
theorem hv_ (a0 : (Sl (Iv .u8))) (r : ByteArray) (h : dD_ a0 = some r) : dC_ a0 = some r := by
 unfold dD_ at h
 refine k_W ok_18 E_str_inj h (fun σ0 => ?_)
 refine t_RN ?_
 refine t_RU 1 ?_
 refine er_ ok_62 ?_
 refine t_RN ?_
 refine t_RU 2 ?_
 refine ct_ (fun b1 => ?_)
 refine t_N ?_
 refine k_eI (rT rN) ?_
 refine t_N ?_
 refine t_RU 1 ?_
 refine aH_ (fun y1 hs hy1 hl => ?_) (hr := by exact fun y1 hy1 => hh_ _ y1 hy1 b1)
 obtain rfl := len0 hl
 refine bf_ ?_
 refine t_N ?_
 exact k_eW (rT rN) E_str_p
noncomputable def fa_ (a0 : (Sl (Iv .u8))) (a1 : Int) (a2 : Int) : Option Int := (if (decide (a2 ≤ 1)) = true then (some 0) else (if (decide ((a0.l.length : Int) = 0)) = true then ((remI (w4 (a1 * 7)) a2).bind fun y1 => (some y1)) else ((remI a1 (a0.l.length : Int)).bind fun y2 => ((elt a0 y2).bind fun y3 => ((remI (w4 (a1 + 1)) (a0.l.length : Int)).bind fun y4 => ((elt a0 y4).bind fun y5 => ((quoI .i64 a1 (a0.l.length : Int)).bind fun y6 => ((remI ((w4 ((w4 ((w4 ((w4 y3.v) * 31)) + (w4 y5.v))) + y6))) a2).bind fun y7 => (some y7)))))))))
theorem k4_ (a0 : (Sl (Iv .u8))) (a1 : Int) (a2 : Int) (r : Int) (h : fa_ a0 a1 a2 = some r) : gk_ a0 a1 a2 = some r := by
 unfold fa_ at h
 refine k_W ok_19 E_i64_inj h (fun σ0 => ?_)
 refine t_RN ?_
 refine t_RN ?_
 refine t_if (fun hc1 => ?_) fun hc1 => ?_
 ·refine t_RN ?_
  exact k_eW (rT rN) E_i64_p
 refine t_RN ?_
 refine t_if (fun hc2 => ?_) fun hc2 => ?_
 ·refine t_RU 3 ?_
  intro h s σ hS hH
  obtain ⟨y1, hy1, h⟩ := bind_some h
  refine iS_ rfl hS rfl rfl hy1 ?_; intro s hS
  refine t_bk h hS hH ?_
  refine t_N ?_
  exact k_eW (rT rN) E_i64_p
 refine t_RN ?_
 refine t_D fun mb => ?_
 refine t_U 3 ?_
 intro h s σ hS hH
 obtain ⟨y2, hy2, h⟩ := bind_some h
 refine iS_ rfl hS rfl rfl hy2 ?_; intro s hS
 refine t_bk h hS hH ?_
 refine ci_ fun y3 rest1 hy3 => ?_
 refine t_U 7 ?_
 intro h s σ hS hH
 obtain ⟨y4, hy4, h⟩ := bind_some h
 refine iS_ rfl hS rfl rfl hy4 ?_; intro s hS
 refine t_bk h hS hH ?_
 refine ci_ fun y5 rest2 hy5 => ?_
 refine t_U 5 ?_
 intro h s σ hS hH
 obtain ⟨y6, hy6, h⟩ := bind_some h
 refine sw_ rfl hS rfl rfl hy6 ?_; intro s hS
 refine t_bk h hS hH ?_
 refine t_U 2 ?_
 intro h s σ hS hH
 obtain ⟨y7, hy7, h⟩ := bind_some h
 refine iS_ rfl hS rfl rfl hy7 ?_; intro s hS
 refine t_bk h hS hH ?_
 refine t_N ?_
 exact k_eW (rT rN) E_i64_p
noncomputable def fY_ (a0 : DPattern) (a1 : DPattern) : Option DPattern := ((b0_ 19 ⟨#[]⟩ ⟨false, [a0, a1]⟩).bind fun y1 => (some y1))
theorem kf_ (a0 : DPattern) (a1 : DPattern) (r : DPattern) (h : fY_ a0 a1 = some r) : bU_ a0 a1 = some r := by
 unfold fY_ at h
 refine k_W ok_20 E_DPattern_inj h (fun σ0 => ?_)
 refine t_R ?_
 refine ct_ (fun b1 => ?_)
 refine ct_ (fun b2 => ?_)
 refine bp_ fun b3 => ?_
 refine t_N ?_
 refine t_R ?_
 refine ad_ 2 ?_
 refine ad_ 1 ?_
 refine k_bs (z := false) (⟨false, [a0, a1]⟩ : Sl DPattern) (fun t1 ht1 => ?_)
 intro h s σ hS hH
 obtain ⟨y1, hy1, h⟩ := bind_some h
 refine l1_ (ents := [.own false 4 t1 (Sl.t (⟨false, [a0, a1]⟩ : Sl DPattern))]) (z := false) (ts := [i4 19, .str ⟨#[]⟩, t1]) (vs := [i4 19, .str ⟨#[]⟩, (Sl.t (⟨false, [a0, a1]⟩ : Sl DPattern))]) rfl hS rfl rfl rfl hH rfl (HLi (HLs (HL.own rfl HL.nil))) hy1 (by kernel_rfl) ?_; intro σ s hH hS
 have hH : Heap σ0 σ [.own false 4 t1 (Sl.t (⟨false, [a0, a1]⟩ : Sl DPattern)), .box b3 [i4 0, i4 0, .str ⟨#[]⟩, (nt DPattern)], .box b2 [i4 a1.Kind, i4 a1.Num, .str a1.Text, a1.Kids.t], .box b1 [i4 a0.Kind, i4 a0.Num, .str a0.Text, a0.Kids.t]] := hH
 refine t_bk h hS hH ?_
 refine aL_ 1 ?_
 refine t_N ?_
 exact k_eW (rC 0 rN) E_DPattern_p
noncomputable def fG_ (a0 : DPattern) (a1 : DPattern) : Option DPattern := ((b0_ 18 ⟨#[]⟩ ⟨false, [a0, a1]⟩).bind fun y1 => (some y1))
theorem kg_ (a0 : DPattern) (a1 : DPattern) (r : DPattern) (h : fG_ a0 a1 = some r) : bW_ a0 a1 = some r := by
 unfold fG_ at h
 refine k_W ok_21 E_DPattern_inj h (fun σ0 => ?_)
 refine t_R ?_
 refine ct_ (fun b1 => ?_)
 refine ct_ (fun b2 => ?_)
 refine bp_ fun b3 => ?_
 refine t_N ?_
 refine t_R ?_
 refine ad_ 2 ?_
 refine ad_ 1 ?_
 refine k_bs (z := false) (⟨false, [a0, a1]⟩ : Sl DPattern) (fun t1 ht1 => ?_)
 intro h s σ hS hH
 obtain ⟨y1, hy1, h⟩ := bind_some h
 refine l1_ (ents := [.own false 4 t1 (Sl.t (⟨false, [a0, a1]⟩ : Sl DPattern))]) (z := false) (ts := [i4 18, .str ⟨#[]⟩, t1]) (vs := [i4 18, .str ⟨#[]⟩, (Sl.t (⟨false, [a0, a1]⟩ : Sl DPattern))]) rfl hS rfl rfl rfl hH rfl (HLi (HLs (HL.own rfl HL.nil))) hy1 (by kernel_rfl) ?_; intro σ s hH hS
 have hH : Heap σ0 σ [.own false 4 t1 (Sl.t (⟨false, [a0, a1]⟩ : Sl DPattern)), .box b3 [i4 0, i4 0, .str ⟨#[]⟩, (nt DPattern)], .box b2 [i4 a1.Kind, i4 a1.Num, .str a1.Text, a1.Kids.t], .box b1 [i4 a0.Kind, i4 a0.Num, .str a0.Text, a0.Kids.t]] := hH
 refine t_bk h hS hH ?_
 refine aL_ 1 ?_
 refine t_N ?_
 exact k_eW (rC 0 rN) E_DPattern_p
noncomputable def g0_ (a0 : ByteArray) : Option DPattern := (some (⟨1, 0, a0, ⟨true, []⟩⟩ : DPattern))
theorem ji_ (a0 : ByteArray) (r : DPattern) (h : g0_ a0 = some r) : dZ_ a0 = some r := by
 unfold g0_ at h
 refine k_W ok_22 E_DPattern_inj h (fun σ0 => ?_)
 refine t_R ?_
 refine bp_ fun b1 => ?_
 refine t_N ?_
 refine t_RU 2 ?_
 refine aL_ 0 ?_
 refine t_N ?_
 exact k_eW (rC 0 rN) E_DPattern_p
noncomputable def gH_ (a0 : Int) (a1 : ByteArray) (a2 : (Sl DPattern)) : Option DPattern := (some (⟨a0, 0, a1, a2⟩ : DPattern))
theorem gK_ (a0 : Int) (a1 : ByteArray) (a2 : (Sl DPattern)) (r : DPattern) (h : gH_ a0 a1 a2 = some r) : b0_ a0 a1 a2 = some r := by
 unfold gH_ at h
 refine k_W ok_23 E_DPattern_inj h (fun σ0 => ?_)
 refine t_R ?_
 refine bp_ fun b1 => ?_
 refine t_N ?_
 refine t_RU 4 ?_
 refine aL_ 0 ?_
 refine t_N ?_
 exact k_eW (rC 0 rN) E_DPattern_p
noncomputable def dO_ (a0 : (Sl DNamed)) (a1 : DPattern) (a2 : ByteArray) (a3 : Bool) (a4 : Int) : Option ((Sl DMatch) × Int) := ((df_ a0 a1 a2 a4).bind fun y1 => (if (!decide (y1 = 0)) = true then (some (⟨true, []⟩, y1)) else ((c6_ a2 a3).bind fun y2 => ((cl_ a0 a1 a2 y2 a4).bind fun y3 => (some (y3.1, y3.2))))))
theorem hq_ (a0 : (Sl DNamed)) (a1 : DPattern) (a2 : ByteArray) (a3 : Bool) (a4 : Int) (r : ((Sl DMatch) × Int)) (h : dO_ a0 a1 a2 a3 a4 = some r) : aZ_ a0 a1 a2 a3 a4 = some r := by
 unfold dO_ at h
 refine k_W ok_24 E_t2_sl_DMatch_i64_inj h (fun σ0 => ?_)
 refine t_R ?_
 refine ct_ (fun b1 => ?_)
 refine t_N ?_
 refine t_RU 1 ?_
 refine ad_ 0 ?_
 refine t_U 2 ?_
 refine ap_ fun y1 hy1 => ?_
 refine t_N ?_
 refine t_RN ?_
 refine t_if (fun hc1 => ?_) fun hc1 => ?_
 ·refine t_RN ?_
  exact k_eW (rT (rT rN)) E_t2_sl_DMatch_i64_p
 refine a8_ [] ext_x fun mb σs hn0 hlt hlto => ?_
 have hlt_b1 : b1 < mb := hlt b1 _ (List.Mem.head _)
 refine t_U 1 ?_
 refine ad_ 0 ?_ (hlt := by exact (Or.inr ⟨hlt_b1, Wc.nil⟩))
 refine t_U 3 ?_
 refine f4_ (fun y2 t1 hy2 ht1 => ?_)
 refine t_U 1 ?_
 refine f4_ (fun y3 t2 hy3 ht2 => ?_)
 refine t_N ?_
 intro h s σ hS hH
 obtain rfl := si_1 h
 exact oX_ (ents := [.own true 3 t2 y3.1.t]) (z := false) hH (bq_ (v := t2) hS rfl (bq_ (v := i4 y3.2) hS rfl r_nil)) (HL.tup (es1 := [.own true 3 t2 y3.1.t]) (es2 := []) (HL.own rfl (HLi HL.nil)) HL.nil) (by simp [pureT, pureL, E_t2_sl_DMatch_i64])
noncomputable def cZ_ (a0 : (Sl DMatch)) (a1 : (Sl DMatch)) : Option Bool := ((bS_ a0 a1 (T.fn 72 [] [])).bind fun y1 => (some y1))
theorem gA_ (a0 : (Sl DMatch)) (a1 : (Sl DMatch)) (r : Bool) (h : cZ_ a0 a1 = some r) : bm_ a0 a1 = some r := by
 unfold cZ_ at h
 refine k_W ok_25 E_bool_inj h (fun σ0 => ?_)
 refine t_RN ?_
 refine t_RU 2 ?_
 refine ap_ fun y1 hy1 => ?_
 refine t_N ?_
 exact k_eW (rT rN) E_bool_p
noncomputable def cR_ (a0 : DPattern) : Option Bool := ((aA_ a0 0).bind fun y1 => (some (decide (y1 ≤ 60))))
theorem gs_ (a0 : DPattern) (r : Bool) (h : cR_ a0 = some r) : b2_ a0 = some r := by
 unfold cR_ at h
 refine k_W ok_33 E_bool_inj h (fun σ0 => ?_)
 refine t_R ?_
 refine ct_ (fun b1 => ?_)
 refine t_N ?_
 refine t_R ?_
 refine ad_ 0 ?_
 refine ap_ fun y1 hy1 => ?_
 refine t_N ?_
 exact k_eW (rT rN) E_bool_p
noncomputable def dv_ (a0 : DPattern) : Option DPattern := ((bu_ a0).bind fun y1 => (((if (decide (a0.Kind = 14)) = true then (some (decide (a0.Kind = 14))) else (some (decide (a0.Kind = 17)))) : Option Bool).bind fun y2 => (if y2 = true then (some (⟨1, 0, ⟨#[]⟩, ⟨true, []⟩⟩ : DPattern)) else (if (decide (a0.Kind = 15)) = true then (some (⟨16, 0, ⟨#[]⟩, ⟨true, []⟩⟩ : DPattern)) else ((az_ (S := (Int × (Sl DPattern))) (R := (Sl DPattern)) (fun st1 => (if (decide (st1.1 < (a0.Kids.l.length : Int))) = true then ((elt a0.Kids st1.1).bind fun y4 => ((cf_ y4).bind fun y5 => ((elt st1.2 st1.1).bind fun y6 => (some (.inl ((w4 (st1.1 + 1)), (setS st1.2 st1.1 (y5 : DPattern)))))))) else (some (.inr st1.2)))) (0, y1.Kids)).bind fun y3 => (some (⟨y1.Kind, y1.Num, y1.Text, y3⟩ : DPattern)))))))
theorem iz_ (a0 : DPattern) (r : DPattern) (h : dv_ a0 = some r) : cf_ a0 = some r := by
 unfold dv_ at h
 refine k_O ok_64 h (fun σ0 => ?_)
 refine t_R ?_
 refine ct_ (fun b1 => ?_)
 refine bp_ fun b2 => ?_
 refine t_N ?_
 refine t_R ?_
 refine ad_ 1 ?_
 refine f4_ (fun y1 t1 hy1 ht1 => ?_)
 refine bp_ fun b3 => ?_
 refine aL_ 0 ?_ (h1 := by simp [ht1.1, ht1.2])
 refine t_N ?_
 refine t_RU 1 ?_
 refine ad_ 3 ?_
 refine t_N ?_
 refine t_RN ?_
 refine eu_ 0 (fun y2 e fr => e = .normal ∧ Sub [(1, .ptr b1 0 0 4), (2, .ptr b2 0 0 4), (3, .ptr b3 0 0 4), (8, i4 a0.Kind), (9, .bool y2)] fr.s ∧ Heap σ0 fr.σ [.box b3 [i4 y1.Kind, i4 y1.Num, .str y1.Text, t1], .box b2 [i4 0, i4 0, .str ⟨#[]⟩, (nt DPattern)], .box b1 [i4 a0.Kind, i4 a0.Num, .str a0.Text, a0.Kids.t], .own true 4 t1 y1.Kids.t]) (fun y2 e fr h HF => ?_) fun y2 => ?_
 ·obtain ⟨s, σ⟩ := fr
  obtain ⟨rfl, hS, hH⟩ := HF
  refine t_bx h hS hH ?_
  refine t_if (fun hc1 => ?_) fun hc1 => ?_
  ·refine t_RU 1 ?_
   refine aL_ 1 ?_
   refine t_N ?_
   refine t_h (Heap.addNil · true 4) ?_
   exact k_eO [(T.row true 0 [])] (rC 1 rN)
  refine t_RN ?_
  refine t_if (fun hc2 => ?_) fun hc2 => ?_
  ·refine t_RU 1 ?_
   refine aL_ 1 ?_
   refine t_N ?_
   refine t_h (Heap.addNil · true 4) ?_
   exact k_eO [(T.row true 0 [])] (rC 1 rN)
  refine t_RN ?_
  refine a6_ (fun st1 fr => Sub [(1, .ptr b1 0 0 4), (2, .ptr b2 0 0 4), (3, .ptr b3 0 0 4), (4, i4 st1.1)] fr.s ∧ Heap σ0 fr.σ [.box b3 [i4 y1.Kind, i4 y1.Num, .str y1.Text, t1], .box b2 [i4 0, i4 0, .str ⟨#[]⟩, (nt DPattern)], .box b1 [i4 a0.Kind, i4 a0.Num, .str a0.Text, a0.Kids.t], .own true 4 t1 st1.2.t]) (fun y3 e fr => e = (.exit 1) ∧ Sub [(2, .ptr b2 0 0 4), (3, .ptr b3 0 0 4)] fr.s ∧ Heap σ0 fr.σ [.box b3 [i4 y1.Kind, i4 y1.Num, .str y1.Text, t1], .box b2 [i4 0, i4 0, .str ⟨#[]⟩, (nt DPattern)], .own true 4 t1 y3.t]) (fun hS hH => ⟨(ae_ hS (by kernel_rfl)), hH⟩) (fun st1 x fr h HI => ?_) fun y3 e fr h HF => ?_
  ·obtain ⟨s, σ⟩ := fr; obtain ⟨hS, hH⟩ := HI
   refine t_bk h hS hH ?_
   refine t_RU 2 ?_
   refine ad_ 2 ?_
   refine t_N ?_
   refine t_if (fun hc3 => ?_) fun hc3 => ?_
   ·refine a8_ [(10, RN)] ext_x fun mb σs hn0 hlt hlto => ?_
    have hlt_b3 : b3 < mb := hlt b3 _ (List.Mem.head _)
    refine t_U 1 ?_
    refine ad_ 0 ?_ (hlt := by exact (Or.inr ⟨hlt_b3, (Wc.cons (.inl (by kernel_rfl)) Wc.nil)⟩))
    refine t_U 2 ?_
    refine ad_ 2 ?_ (hlt := by exact (Or.inl (by kernel_rfl)))
    refine t_U 1 ?_
    refine ci_ fun y4 rest1 hy4 => ?_
    refine t_U 1 ?_
    refine f4_ (fun y5 t2 hy5 ht2 => ?_)
    refine lX_ 4 (fun hb1 hb1e y6 hy6 hl_hb1 => ?_) (hlt := by exact (fun _ _ _ _ _ => Or.inl (by kernel_rfl)))
    refine t_h Heap.up4 ?_
    intro h s σ hS hH
    refine mW_ rfl (ents := [.own true 4 t2 y5.Kids.t]) (a := st1.2) (j := st1.1) (y := y6) (y' := (y5 : DPattern)) (off := 0) (c := [i4 y6.Kind, i4 y6.Num, .str y6.Text, y6.Kids.t]) (us := [i4 y5.Kind, i4 y5.Num, .str y5.Text, t2]) (vs := [i4 y5.Kind, i4 y5.Num, .str y5.Text, y5.Kids.t]) (v := .agg [i4 y5.Kind, i4 y5.Num, .str y5.Text, t2]) (by exact Or.inr ⟨10, by kernel_rfl, fun h => h⟩) rfl hS hH hl_hb1 rfl rfl rfl (by simp [ht2.1, ht2.2]) (by kernel_rfl) rfl hy6 (DPattern.cells_eq _) (HLi (HLi (HLs (HL.own rfl HL.nil)))) rfl (by rw [DPattern.enc_eq]; rfl) ?_; intro σ s hH hS
    refine t_bk h hS hH ?_
    refine t_N ?_
    refine t_RN ?_
    exact t_e fun he hS hH => he ▸ ⟨(ae_ hS (by kernel_rfl)), (Heap.sel hH [1, 2, 3, 0] rfl (by kernel_rfl))⟩
   exact t_e fun he hS hH => he ▸ ⟨rfl, (ae_ hS (by kernel_rfl)), (Heap.sel hH [0, 1, 3] rfl (by kernel_rfl))⟩
  obtain ⟨s, σ⟩ := fr
  obtain ⟨rfl, hS, hH⟩ := HF
  refine t_bx h hS hH ?_
  refine t_R ?_
  refine ad_ 0 ?_
  refine aL_ 1 ?_ (h1 := by simp [ht1.1, ht1.2])
  refine t_N ?_
  refine t_h Heap.up2 ?_
  exact k_eO [t1] (rC 1 rN)
 refine t_if (fun hc4 => ?_) fun hc4 => ?_
 ·exact t_e fun he hS hH => he ▸ ⟨rfl, (ae_ hS (by kernel_rfl)), (Heap.sel hH [0, 2, 3, 1] rfl (by kernel_rfl))⟩
 refine t_RN ?_
 exact t_e fun he hS hH => he ▸ ⟨rfl, (ae_ hS (by kernel_rfl)), (Heap.sel hH [0, 2, 3, 1] rfl (by kernel_rfl))⟩
noncomputable def do_ (a0 : (Sl DNamed)) (a1 : DPattern) (a2 : ByteArray) (a3 : Int) : Option Int := ((((ed_ a0).bind fun y6 => (if y6 = true then ((b2_ a1).bind fun y7 => (if y7 = true then ((cI_ a2).bind fun y8 => (some y8)) else (some false))) else (some false))) : Option Bool).bind fun y1 => ((dV_ y1 1).bind fun y2 => ((bI_ a3 0 20000).bind fun y3 => ((dV_ y3 3).bind fun y4 => ((fB_ (⟨false, [⟨y2⟩, ⟨y4⟩]⟩)).bind fun y5 => (some y5))))))
theorem hg_ (a0 : (Sl DNamed)) (a1 : DPattern) (a2 : ByteArray) (a3 : Int) (r : Int) (h : do_ a0 a1 a2 a3 = some r) : df_ a0 a1 a2 a3 = some r := by
 unfold do_ at h
 refine k_W ok_68 E_i64_inj h (fun σ0 => ?_)
 refine t_R ?_
 refine ct_ (fun b1 => ?_)
 refine t_N ?_
 refine eu_ 0 (fun y1 e fr => e = .normal ∧ Sub [(3, i4 a3), (9, .bool y1)] fr.s ∧ Heap σ0 fr.σ []) (fun y1 e fr h HF => ?_) fun y1 => ?_
 ·obtain ⟨s, σ⟩ := fr
  obtain ⟨rfl, hS, hH⟩ := HF
  refine t_bx h hS hH ?_
  refine t_RU 1 ?_
  refine ap_ fun y2 hy2 => ?_
  refine t_U 1 ?_
  refine ap_ fun y3 hy3 => ?_
  refine ap_ fun y4 hy4 => ?_
  refine k_bs (z := true) (⟨false, [⟨y2⟩, ⟨y4⟩]⟩ : Sl (Iv .i64)) (fun t1 ht1 => ?_)
  refine mU_ (fun y5 hy5 => ?_)
  refine t_N ?_
  exact k_eW (rT rN) E_i64_p
 refine t_RU 1 ?_
 refine ap_ fun y6 hy6 => ?_
 refine t_U 1 ?_
 refine aP_ 12 (fun hc1 => ?_) fun hc1 => ?_
 ·refine ad_ 0 ?_
  refine ap_ fun y7 hy7 => ?_
  refine t_U 2 ?_
  refine aP_ 16 (fun hc2 => ?_) fun hc2 => ?_
  ·refine t_U 1 ?_
   refine ap_ fun y8 hy8 => ?_
   refine t_N ?_
   exact t_e fun he hS hH => he ▸ ⟨rfl, (ae_ hS (by kernel_rfl)), (Heap.sel hH [] rfl (by kernel_rfl))⟩
  refine t_N ?_
  exact t_e fun he hS hH => he ▸ ⟨rfl, (ae_ hS (by kernel_rfl)), (Heap.sel hH [] rfl (by kernel_rfl))⟩
 refine t_N ?_
 exact t_e fun he hS hH => he ▸ ⟨rfl, (ae_ hS (by kernel_rfl)), (Heap.sel hH [] rfl (by kernel_rfl))⟩
end Go.Am
