/- Functions of the program. -/
import Derived.Test.YtohkcdkmpencnaaDoorAd0
set_option maxRecDepth 100000
set_option maxHeartbeats 4000000
set_option linter.unusedVariables false
set_option linter.unusedSimpArgs false
namespace Go.Am
open Go.Proofs
noncomputable def B_laws_FnTraceLines (a0 : (Sl (Iv .u8))) : Option Bool := ((F_laws_b10Long a0).bind fun y1 => (if y1 = true then (some true) else ((F_spec_DrawAddTrace a0).bind fun y2 => ((F_impl_TraceText y2.2.1 y2.2.2.1 y2.2.2.2.1 y2.2.2.2.2).bind fun y3 => ((F_impl_AddTrace y2.1 y2.2.1 y2.2.2.1 y2.2.2.2.1 y2.2.2.2.2).bind fun y4 => (if (!decide (y4.2 = 0)) = true then (some true) else (if (!decide (y3 = (⟨#[]⟩ : ByteArray))) = true then (if (decide ((y3.size : Int) ≤ 1300)) = true then (if ((decide ((y4.1.Trace.l.length : Int) = (IntKind.i64.wrap ((y2.1.Trace.l.length : Int) + 1))))) = true then ((elt y4.1.Trace (y2.1.Trace.l.length : Int)).bind fun y5 => (if (decide (y5 = y3)) = true then ((subS y4.1.Trace 0 (y2.1.Trace.l.length : Int)).bind fun y6 => ((F_laws_b10Texts y6 y2.1.Trace).bind fun y7 => (if y7 = true then ((F_spec_ValidConsole y4.1).bind fun y8 => (some y8)) else (some false)))) else (some false))) else (some false)) else (some false)) else (some false))))))))
theorem u_laws_FnTraceLines (a0 : (Sl (Iv .u8))) (r : Bool) (h : B_laws_FnTraceLines a0 = some r) : F_laws_FnTraceLines a0 = some r := by
 unfold B_laws_FnTraceLines at h
 refine k_W ok_3 E_bool_inj h (fun σ0 => ?_)
 refine t_RN ?_
 refine t_RU 1 ?_
 refine k_call fun y1 hy1 => ?_
 refine t_N ?_
 refine t_if (fun hc1 => ?_) fun hc1 => ?_
 ·refine t_RN ?_
  exact k_eW (rT rN) E_bool_p
 refine t_RU 1 ?_
 refine k_call fun y2 hy2 => ?_
 refine t_U 6 ?_
 refine k_alloc fun b1 => ?_
 refine k_alloc fun b2 => ?_
 refine k_storeA 1 ?_
 refine t_U 3 ?_
 refine k_storeA 1 ?_
 refine t_N ?_
 refine t_RU 3 ?_
 refine k_load 0 ?_
 refine k_call fun y3 hy3 => ?_
 refine t_N ?_
 refine t_R ?_
 refine k_load 1 ?_
 refine t_U 3 ?_
 refine k_load 0 ?_
 refine k_call fun y4 hy4 => ?_
 refine t_U 3 ?_
 refine k_alloc fun b3 => ?_
 refine k_storeA 0 ?_
 refine t_N ?_
 refine t_RN ?_
 refine t_if (fun hc2 => ?_) fun hc2 => ?_
 ·refine t_RN ?_
  exact k_eW (rT rN) E_bool_p
 refine t_RU 1 ?_
 refine k_load 2 ?_
 refine t_N ?_
 refine t_D fun mb => ?_
 refine t_U 3 ?_
 refine t_gif 43 (fun hc3 => ?_) fun hc3 => ?_
 ·refine t_U 5 ?_
  refine t_gif 48 (fun hc4 => ?_) fun hc4 => ?_
  ·refine t_U 1 ?_
   refine k_load 0 ?_
   refine t_U 6 ?_
   refine t_gif 56 (fun hc5 => ?_) fun hc5 => ?_
   ·refine t_U 1 ?_
    refine k_load 0 ?_
    refine t_U 1 ?_
    refine k_elt fun y5 rest1 hy5 => ?_
    refine t_U 5 ?_
    refine t_gif 65 (fun hc6 => ?_) fun hc6 => ?_
    ·refine t_U 1 ?_
     refine k_load 0 ?_
     refine t_U 1 ?_
     refine k_subS fun y6 hy6 => ?_
     refine t_U 1 ?_
     refine k_load 2 ?_
     refine k_call fun y7 hy7 => ?_
     refine t_U 2 ?_
     refine t_gif 74 (fun hc7 => ?_) fun hc7 => ?_
     ·refine k_load 0 ?_
      refine k_call fun y8 hy8 => ?_
      refine t_N ?_
      exact k_eW (rT rN) E_bool_p
     refine t_N ?_
     exact k_eW (rT rN) E_bool_p
    refine t_N ?_
    exact k_eW (rT rN) E_bool_p
   refine t_N ?_
   exact k_eW (rT rN) E_bool_p
  refine t_N ?_
  exact k_eW (rT rN) E_bool_p
 refine t_N ?_
 exact k_eW (rT rN) E_bool_p
noncomputable def B_laws_b10Long (a0 : (Sl (Iv .u8))) : Option Bool := (some (decide (1048576 < (a0.l.length : Int))))
theorem u_laws_b10Long (a0 : (Sl (Iv .u8))) (r : Bool) (h : B_laws_b10Long a0 = some r) : F_laws_b10Long a0 = some r := by
 unfold B_laws_b10Long at h
 refine k_W ok_6 E_bool_inj h (fun σ0 => ?_)
 refine t_RN ?_
 refine t_RN ?_
 exact k_eW (rT rN) E_bool_p
noncomputable def B_spec_l00Src_next (a0 : DL00Src) : Option (Int × DL00Src) := (((if (decide (a0.at_ < (a0.code_.l.length : Int))) = true then ((elt a0.code_ a0.at_).bind fun y2 => (some (IntKind.i64.wrap y2.v))) else (some 0)) : Option Int).bind fun y1 => (if ((decide ((IntKind.i64.wrap (a0.at_ + 1)) ≤ (a0.code_.l.length : Int)))) = true then (some (y1, (⟨a0.code_, (IntKind.i64.wrap (a0.at_ + 1)), (IntKind.u64.wrap ((IntKind.u64.wrap ((IntKind.u64.wrap (a0.seed_ * 6364136223846793005)) + (IntKind.u64.wrap y1))) + 1442695040888963407))⟩ : DL00Src))) else (some ((IntKind.i64.wrap ((andI .u64 ((((IntKind.u64.wrap ((IntKind.u64.wrap ((IntKind.u64.wrap (a0.seed_ * 6364136223846793005)) + (IntKind.u64.wrap y1))) + 1442695040888963407))).fdiv (2 ^ 40))) 255))), (⟨a0.code_, (IntKind.i64.wrap (a0.at_ + 1)), (IntKind.u64.wrap ((IntKind.u64.wrap ((IntKind.u64.wrap (a0.seed_ * 6364136223846793005)) + (IntKind.u64.wrap y1))) + 1442695040888963407))⟩ : DL00Src)))))
theorem u_spec_l00Src_next (a0 : DL00Src) (r : (Int × DL00Src)) (h : B_spec_l00Src_next a0 = some r) (bp0 : Nat) : RawS Tryd.prog md ext 51 [.ptr bp0 0 0 3] 0 (fun hs => E_i64 r.1) [.box bp0 (DL00Src.cells a0)] (fun hs => [.box bp0 (DL00Src.cells r.2)]) := by
 unfold B_spec_l00Src_next at h
 refine rawS_of rfl rfl ok_51 rfl ?_
 intro σ0 σ F σk s hS hH
 have hS := sub_to (L' := [(0, .ptr bp0 0 0 3)]) hS (by kernel_rfl)
 refine t_go h hS hH ?_
 refine t_RN ?_
 refine t_RN ?_
 refine t_D fun mb => ?_
 refine t_U 3 ?_
 refine k_load 0 ?_
 refine t_U 3 ?_
 refine k_load 0 ?_
 refine t_N ?_
 refine t_cut 0 (fun y1 e fr => e = .normal ∧ Sub [(0, .ptr bp0 0 0 3), (3, i4 y1)] fr.s ∧ Heap σ0 fr.σ [.box bp0 (DL00Src.cells a0), .keep F σk]) (fun y1 e fr h HF => ?_) fun y1 => ?_
 ·obtain ⟨s, σ⟩ := fr
  obtain ⟨rfl, hS, hH⟩ := HF
  refine t_bx h hS hH ?_
  refine t_RU 3 ?_
  refine k_load 0 ?_
  refine t_U 3 ?_
  refine k_store 0 ?_
  refine t_N ?_
  refine t_RU 4 ?_
  refine k_load 0 ?_
  refine t_U 7 ?_
  refine k_store 0 ?_
  refine t_N ?_
  refine t_D fun mb => ?_
  refine t_U 3 ?_
  refine k_load 0 ?_
  refine t_U 3 ?_
  refine k_load 0 ?_
  refine t_N ?_
  refine t_if (fun hc1 => ?_) fun hc1 => ?_
  ·refine t_RN ?_
   intro h s σ hS hH
   injection h with h; subst h
   exact end_M [] (r_tmp (v := i4 y1) hS rfl r_nil) rfl rfl hH
  refine t_RU 3 ?_
  refine k_load 0 ?_
  refine t_N ?_
  intro h s σ hS hH
  injection h with h; subst h
  exact end_M [] (r_tmp (v := i4 ((IntKind.i64.wrap ((andI .u64 ((((IntKind.u64.wrap ((IntKind.u64.wrap ((IntKind.u64.wrap (a0.seed_ * 6364136223846793005)) + (IntKind.u64.wrap y1))) + 1442695040888963407))).fdiv (2 ^ 40))) 255))))) hS rfl r_nil) rfl rfl hH
 refine t_if (fun hc2 => ?_) fun hc2 => ?_
 ·refine t_D fun mb => ?_
  refine t_U 3 ?_
  refine k_load 0 ?_
  refine t_U 3 ?_
  refine k_load 0 ?_
  refine k_elt fun y2 rest1 hy2 => ?_
  refine t_N ?_
  exact t_e fun he hS hH => he ▸ And.intro rfl (And.intro (sub_to hS (by kernel_rfl)) hH)
 exact t_e fun he hS hH => he ▸ And.intro rfl (And.intro (sub_to hS (by kernel_rfl)) hH)
noncomputable def B_spec_l00Src_pick (a0 : DL00Src) (a1 : Int) : Option (Int × DL00Src) := (if (decide (a1 ≤ 1)) = true then (some (0, a0)) else ((B_spec_l00Src_next a0).bind fun y1 => (if (decide (200 < a1)) = true then ((B_spec_l00Src_next y1.2).bind fun y2 => ((remI (IntKind.i64.wrap ((IntKind.i64.wrap (y1.1 * 256)) + y2.1)) a1).bind fun y3 => (some (y3, y2.2)))) else ((remI y1.1 a1).bind fun y4 => (some (y4, y1.2))))))
theorem u_spec_l00Src_pick (a0 : DL00Src) (a1 : Int) (r : (Int × DL00Src)) (h : B_spec_l00Src_pick a0 a1 = some r) (bp0 : Nat) : RawS Tryd.prog md ext 24 [.ptr bp0 0 0 3, i4 a1] 0 (fun hs => E_i64 r.1) [.box bp0 (DL00Src.cells a0)] (fun hs => [.box bp0 (DL00Src.cells r.2)]) := by
 unfold B_spec_l00Src_pick at h
 refine rawS_of rfl rfl ok_24 rfl ?_
 intro σ0 σ F σk s hS hH
 have hS := sub_to (L' := [(0, .ptr bp0 0 0 3), (1, i4 a1)]) hS (by kernel_rfl)
 refine t_go h hS hH ?_
 refine t_RN ?_
 refine t_RN ?_
 refine t_if (fun hc1 => ?_) fun hc1 => ?_
 ·refine t_RN ?_
  intro h s σ hS hH
  injection h with h; subst h
  exact end_M [] (r_tmp (v := i4 0) hS rfl r_nil) rfl rfl hH
 refine t_RU 1 ?_
 refine k_callR (fun y1 hs hy1 hl => ?_) (hr := by exact fun y1 hy1 => u_spec_l00Src_next _ y1 hy1 bp0)
 obtain rfl := len0 hl
 refine t_lit ?_
 refine t_N ?_
 refine t_RN ?_
 refine t_if (fun hc2 => ?_) fun hc2 => ?_
 ·refine t_RU 3 ?_
  refine k_callR (fun y2 hs hy2 hl => ?_) (hr := by exact fun y2 hy2 => u_spec_l00Src_next _ y2 hy2 bp0)
  obtain rfl := len0 hl
  refine t_lit ?_
  refine t_N ?_
  refine t_RU 2 ?_
  intro h s σ hS hH
  obtain ⟨y3, hy3, h⟩ := bind_some h
  refine q_remO rfl hS rfl rfl hy3 ?_; intro s hS
  refine t_bk h hS hH ?_
  refine t_N ?_
  intro h s σ hS hH
  injection h with h; subst h
  exact end_M [] (r_tmp (v := i4 y3) hS rfl r_nil) rfl rfl hH
 refine t_RU 2 ?_
 intro h s σ hS hH
 obtain ⟨y4, hy4, h⟩ := bind_some h
 refine q_remO rfl hS rfl rfl hy4 ?_; intro s hS
 refine t_bk h hS hH ?_
 refine t_N ?_
 intro h s σ hS hH
 injection h with h; subst h
 exact end_M [] (r_tmp (v := i4 y4) hS rfl r_nil) rfl rfl hH
noncomputable def B_spec_l00Src_among (a0 : DL00Src) (a1 : (Sl (Iv .i64))) : Option (Int × DL00Src × (Sl (Iv .i64))) := ((B_spec_l00Src_pick a0 (a1.l.length : Int)).bind fun y1 => ((elt a1 y1.1).bind fun y2 => (some (y2.v, y1.2, a1))))
theorem u_spec_l00Src_among (a0 : DL00Src) (a1 : (Sl (Iv .i64))) (r : (Int × DL00Src × (Sl (Iv .i64)))) (h : B_spec_l00Src_among a0 a1 = some r) (bp0 : Nat) (wp1_1 : Nat) (p1_1 : T) : RawS Tryd.prog md ext 25 [.ptr bp0 0 0 3, p1_1] 0 (fun hs => E_i64 r.1) [.box bp0 (DL00Src.cells a0), .own true wp1_1 p1_1 a1.t] (fun hs => [.box bp0 (DL00Src.cells r.2.1), .own true wp1_1 p1_1 r.2.2.t]) := by
 unfold B_spec_l00Src_among at h
 refine rawS_of rfl rfl ok_25 rfl ?_
 intro σ0 σ F σk s hS hH
 have hp1_1 : IsOne p1_1 := Heap.one (hH.at 1 rfl)
 have hS := sub_to (L' := [(0, .ptr bp0 0 0 3), (1, p1_1)]) hS (by kernel_rfl)
 refine t_go h hS hH ?_
 refine t_RN ?_
 refine t_RU 3 ?_
 refine k_lenH (a := a1) 1 ?_
 refine k_callR (fun y1 hs hy1 hl => ?_) (hr := by exact fun y1 hy1 => u_spec_l00Src_pick _ _ y1 hy1 bp0)
 obtain rfl := len0 hl
 refine t_lit ?_
 refine k_hidx 1 (fun hb1 hb1e y2 hy2 hl_hb1 => ?_)
 refine k_hload 1 0 hl_hb1 hy2 ?_
 refine t_N ?_
 intro h s σ hS hH
 injection h with h; subst h
 exact end_M [] (r_tmp (v := i4 y2.v) hS rfl r_nil) rfl rfl hH
noncomputable def B_spec_l00Src_one (a0 : DL00Src) (a1 : Int) : Option (Bool × DL00Src) := ((B_spec_l00Src_pick a0 a1).bind fun y1 => (some ((decide (y1.1 = 0)), y1.2)))
theorem u_spec_l00Src_one (a0 : DL00Src) (a1 : Int) (r : (Bool × DL00Src)) (h : B_spec_l00Src_one a0 a1 = some r) (bp0 : Nat) : RawS Tryd.prog md ext 49 [.ptr bp0 0 0 3, i4 a1] 0 (fun hs => E_bool r.1) [.box bp0 (DL00Src.cells a0)] (fun hs => [.box bp0 (DL00Src.cells r.2)]) := by
 unfold B_spec_l00Src_one at h
 refine rawS_of rfl rfl ok_49 rfl ?_
 intro σ0 σ F σk s hS hH
 have hS := sub_to (L' := [(0, .ptr bp0 0 0 3), (1, i4 a1)]) hS (by kernel_rfl)
 refine t_go h hS hH ?_
 refine t_RN ?_
 refine t_RU 2 ?_
 refine k_callR (fun y1 hs hy1 hl => ?_) (hr := by exact fun y1 hy1 => u_spec_l00Src_pick _ _ y1 hy1 bp0)
 obtain rfl := len0 hl
 refine t_lit ?_
 refine t_N ?_
 intro h s σ hS hH
 injection h with h; subst h
 exact end_M [] (r_tmp (v := .bool (decide (y1.1 = 0))) hS rfl r_nil) rfl rfl hH
noncomputable def B_spec_l00Src_text (a0 : DL00Src) (a1 : (Sl ByteArray)) : Option (ByteArray × DL00Src × (Sl ByteArray)) := ((B_spec_l00Src_pick a0 (a1.l.length : Int)).bind fun y1 => ((elt a1 y1.1).bind fun y2 => (some (y2, y1.2, a1))))
theorem u_spec_l00Src_text (a0 : DL00Src) (a1 : (Sl ByteArray)) (r : (ByteArray × DL00Src × (Sl ByteArray))) (h : B_spec_l00Src_text a0 a1 = some r) (bp0 : Nat) (wp1_1 : Nat) (p1_1 : T) : RawS Tryd.prog md ext 50 [.ptr bp0 0 0 3, p1_1] 0 (fun hs => E_str r.1) [.box bp0 (DL00Src.cells a0), .own true wp1_1 p1_1 a1.t] (fun hs => [.box bp0 (DL00Src.cells r.2.1), .own true wp1_1 p1_1 r.2.2.t]) := by
 unfold B_spec_l00Src_text at h
 refine rawS_of rfl rfl ok_50 rfl ?_
 intro σ0 σ F σk s hS hH
 have hp1_1 : IsOne p1_1 := Heap.one (hH.at 1 rfl)
 have hS := sub_to (L' := [(0, .ptr bp0 0 0 3), (1, p1_1)]) hS (by kernel_rfl)
 refine t_go h hS hH ?_
 refine t_RN ?_
 refine t_RU 3 ?_
 refine k_lenH (a := a1) 1 ?_
 refine k_callR (fun y1 hs hy1 hl => ?_) (hr := by exact fun y1 hy1 => u_spec_l00Src_pick _ _ y1 hy1 bp0)
 obtain rfl := len0 hl
 refine t_lit ?_
 refine k_hidx 1 (fun hb1 hb1e y2 hy2 hl_hb1 => ?_)
 refine k_hload 1 0 hl_hb1 hy2 ?_
 refine t_N ?_
 intro h s σ hS hH
 injection h with h; subst h
 exact end_M [] (r_tmp (v := .str y2) hS rfl r_nil) rfl rfl hH
noncomputable def B_spec_l21DrawLine (a0 : DL00Src) : Option (ByteArray × DL00Src) := ((B_spec_l00Src_text a0 (⟨false, [⟨#[]⟩, ⟨#[97]⟩, ⟨#[108, 105, 110, 101, 32, 116, 119, 111]⟩, ⟨#[120, 32, 61, 32, 49]⟩, ⟨#[10]⟩, ⟨#[0, 255]⟩, ⟨#[49, 50]⟩, ⟨#[69, 78, 68]⟩]⟩)).bind fun y1 => (some (y1.1, y1.2.1)))
theorem u_spec_l21DrawLine (a0 : DL00Src) (r : (ByteArray × DL00Src)) (h : B_spec_l21DrawLine a0 = some r) (bp0 : Nat) : RawS Tryd.prog md ext 113 [.ptr bp0 0 0 3] 0 (fun hs => E_str r.1) [.box bp0 (DL00Src.cells a0)] (fun hs => [.box bp0 (DL00Src.cells r.2)]) := by
 unfold B_spec_l21DrawLine at h
 refine rawS_of rfl rfl ok_113 rfl ?_
 intro σ0 σ F σk s hS hH
 have hS := sub_to (L' := [(0, .ptr bp0 0 0 3)]) hS (by kernel_rfl)
 refine t_go h hS hH ?_
 refine t_RN ?_
 refine t_RU 1 ?_
 refine k_bs (z := true) (⟨false, [⟨#[]⟩, ⟨#[97]⟩, ⟨#[108, 105, 110, 101, 32, 116, 119, 111]⟩, ⟨#[120, 32, 61, 32, 49]⟩, ⟨#[10]⟩, ⟨#[0, 255]⟩, ⟨#[49, 50]⟩, ⟨#[69, 78, 68]⟩]⟩ : Sl ByteArray) (fun t1 ht1 => ?_)
 refine t_h Heap.up1 ?_
 refine k_callR (fun y1 hs hy1 hl => ?_) (hr := by exact fun y1 hy1 => u_spec_l00Src_text _ _ y1 hy1 bp0 1 t1)
 obtain rfl := len0 hl
 refine t_lit ?_
 refine t_N ?_
 intro h s σ hS hH
 injection h with h; subst h
 exact end_M [] (r_tmp (v := .str y1.1) hS rfl r_nil) rfl rfl (Heap.sel hH [0, 2] rfl (by kernel_rfl))
noncomputable def B_spec_l21DrawLines (a0 : DL00Src) (a1 : Int) : Option ((Sl ByteArray) × DL00Src) := ((B_spec_l00Src_pick a0 4).bind fun y1 => ((B_spec_l00Src_one y1.2 9).bind fun y2 => (((if y2.1 = true then ((B_spec_l00Src_pick y2.2 2).bind fun y7 => (some ((IntKind.i64.wrap (a1 - y7.1)), y7.2.code_, y7.2.at_, y7.2.seed_))) else (some (y1.1, y2.2.code_, y2.2.at_, y2.2.seed_))) : Option (Int × (Sl (Iv .u8)) × Int × Int)).bind fun y3 => ((loopO (S := (Int × (Sl (Iv .u8)) × Int × Int × (Sl ByteArray))) (R := ((Sl (Iv .u8)) × Int × Int × (Sl ByteArray))) (fun st1 => (if (decide (0 < st1.1)) = true then ((B_spec_l21DrawLine (⟨st1.2.1, st1.2.2.1, st1.2.2.2.1⟩ : DL00Src)).bind fun y5 => ((appS 16 st1.2.2.2.2 (⟨false, [y5.1]⟩ : Sl ByteArray)).bind fun y6 => (some (.inl ((IntKind.i64.wrap (st1.1 - 1)), y5.2.code_, y5.2.at_, y5.2.seed_, y6))))) else (some (.inr (st1.2.1, st1.2.2.1, st1.2.2.2.1, st1.2.2.2.2))))) (y3.1, y3.2.1, y3.2.2.1, y3.2.2.2, (⟨false, []⟩ : Sl ByteArray))).bind fun y4 => (some (y4.2.2.2, (⟨y4.1, y4.2.1, y4.2.2.1⟩ : DL00Src)))))))
theorem u_spec_l21DrawLines (a0 : DL00Src) (a1 : Int) (r : ((Sl ByteArray) × DL00Src)) (h : B_spec_l21DrawLines a0 a1 = some r) (bp0 : Nat) : RawS Tryd.prog md ext 89 [.ptr bp0 0 0 3, i4 a1] Sh_sl_str.n (fun hs => Sh_sl_str.tree hs r.1) [.box bp0 (DL00Src.cells a0)] (fun hs => Sh_sl_str.en hs r.1 ++ [.box bp0 (DL00Src.cells r.2)]) := by
 unfold B_spec_l21DrawLines at h
 refine rawS_of rfl rfl ok_89 rfl ?_
 intro σ0 σ F σk s hS hH
 have hS := sub_to (L' := [(0, .ptr bp0 0 0 3), (1, i4 a1)]) hS (by kernel_rfl)
 refine t_go h hS hH ?_
 refine t_RN ?_
 refine t_R ?_
 refine k_bs0 (α := ByteArray) (fun t1 ht1 => ?_)
 refine t_N ?_
 refine t_RU 1 ?_
 refine t_h Heap.up1 ?_
 refine k_callR (fun y1 hs hy1 hl => ?_) (hr := by exact fun y1 hy1 => u_spec_l00Src_pick _ _ y1 hy1 bp0)
 obtain rfl := len0 hl
 refine t_lit ?_
 refine t_N ?_
 refine t_RU 1 ?_
 refine k_callR (fun y2 hs hy2 hl => ?_) (hr := by exact fun y2 hy2 => u_spec_l00Src_one _ _ y2 hy2 bp0)
 obtain rfl := len0 hl
 refine t_lit ?_
 refine t_N ?_
 refine t_cut 0 (fun y3 e fr => e = .normal ∧ Sub [(0, .ptr bp0 0 0 3), (5, t1), (6, i4 y3.1)] fr.s ∧ Heap σ0 fr.σ [.box bp0 [y3.2.1.t, i4 y3.2.2.1, .int .u64 y3.2.2.2], .own true 1 t1 (Sl.t (⟨false, []⟩ : Sl ByteArray)), .keep F σk]) (fun y3 e fr h HF => ?_) fun y3 => ?_
 ·obtain ⟨s, σ⟩ := fr
  obtain ⟨rfl, hS, hH⟩ := HF
  refine t_bx h hS hH ?_
  refine t_loop (fun st1 fr => ∃ t3, IsOne t3 ∧ Sub [(0, .ptr bp0 0 0 3), (5, t3), (6, i4 st1.1)] fr.s ∧ Heap σ0 fr.σ [.box bp0 [st1.2.1.t, i4 st1.2.2.1, .int .u64 st1.2.2.2.1], .own true 1 t3 st1.2.2.2.2.t, .keep F σk]) (fun y4 e fr => ∃ t4, IsOne t4 ∧ e = (.exit 0) ∧ Sub [(5, t4)] fr.s ∧ Heap σ0 fr.σ [.box bp0 [y4.1.t, i4 y4.2.1, .int .u64 y4.2.2.1], .own true 1 t4 y4.2.2.2.t, .keep F σk]) (fun hS hH => Exists.intro t1 (And.intro ht1 (And.intro (sub_to hS (by kernel_rfl)) hH))) (fun st1 x fr h HI => ?_) fun y4 e fr h HF => ?_
  ·obtain ⟨s, σ⟩ := fr; obtain ⟨t3, ht3, ⟨hS, hH⟩⟩ := HI
   refine t_bk h hS hH ?_
   refine t_RN ?_
   refine t_if (fun hc1 => ?_) fun hc1 => ?_
   ·refine t_RU 2 ?_
    refine k_callR (fun y5 hs hy5 hl => ?_) (hr := by exact fun y5 hy5 => u_spec_l21DrawLine _ y5 hy5 bp0)
    obtain rfl := len0 hl
    refine t_lit ?_
    refine k_bs (z := true) (⟨false, [y5.1]⟩ : Sl ByteArray) (fun t5 ht5 => ?_)
    refine k_app 2 0 (fun y6 t6 hy6 ht6 => ?_)
    refine t_N ?_
    refine t_RN ?_
    exact t_e fun he hS hH => he ▸ Exists.intro t6 (And.intro ht6 (And.intro (sub_to hS (by kernel_rfl)) (Heap.sel hH [1, 0, 2] rfl (by kernel_rfl))))
   exact t_e fun he hS hH => he ▸ Exists.intro t3 (And.intro ht3 (And.intro rfl (And.intro (sub_to hS (by kernel_rfl)) hH)))
  obtain ⟨s, σ⟩ := fr
  obtain ⟨t4, ht4, ⟨rfl, hS, hH⟩⟩ := HF
  refine t_bx h hS hH ?_
  refine t_RN ?_
  intro h s σ hS hH
  injection h with h; subst h
  exact end_M [t4] (r_tmp (v := t4) hS rfl r_nil) rfl rfl (Heap.sel hH [1, 0, 2] rfl (by kernel_rfl))
 refine t_if (fun hc2 => ?_) fun hc2 => ?_
 ·refine t_RU 2 ?_
  refine k_callR (fun y7 hs hy7 hl => ?_) (hr := by exact fun y7 hy7 => u_spec_l00Src_pick _ _ y7 hy7 bp0)
  obtain rfl := len0 hl
  refine t_lit ?_
  refine t_N ?_
  exact t_e fun he hS hH => he ▸ And.intro rfl (And.intro (sub_to hS (by kernel_rfl)) hH)
 exact t_e fun he hS hH => he ▸ And.intro rfl (And.intro (sub_to hS (by kernel_rfl)) hH)
noncomputable def B_spec_l21DrawConsole (a0 : DL00Src) : Option (DConsole × DL00Src) := ((B_spec_l21DrawLines a0 100).bind fun y1 => ((B_spec_l21DrawLines y1.2 100).bind fun y2 => ((B_spec_l00Src_pick y2.2 (IntKind.i64.wrap ((y1.1.l.length : Int) + 1))).bind fun y3 => ((B_spec_l00Src_pick y3.2 4).bind fun y4 => ((B_spec_l00Src_one y4.2 6).bind fun y5 => (((if y5.1 = true then (some 6) else (some y4.1)) : Option Int).bind fun y6 => ((F_spec_l21Names ).bind fun y7 => ((loopO (S := (Int × (Sl (Iv .u8)) × Int × Int × (Sl DFile))) (R := ((Sl (Iv .u8)) × Int × Int × (Sl DFile))) (fun st1 => (if (decide (st1.1 < y6)) = true then ((elt y7 st1.1).bind fun y9 => ((B_spec_l21DrawLines (⟨st1.2.1, st1.2.2.1, st1.2.2.2.1⟩ : DL00Src) 40).bind fun y10 => ((B_spec_l00Src_pick y10.2 4).bind fun y11 => (if (decide (y11.1 = 1)) = true then ((B_spec_l00Src_pick y11.2 (IntKind.i64.wrap ((y10.1.l.length : Int) + 1))).bind fun y12 => ((appS 56 st1.2.2.2.2 (⟨false, [(⟨y9, y10.1, y11.1, y12.1⟩ : DFile)]⟩ : Sl DFile)).bind fun y13 => (some (.inl ((IntKind.i64.wrap (st1.1 + 1)), y12.2.code_, y12.2.at_, y12.2.seed_, y13))))) else ((appS 56 st1.2.2.2.2 (⟨false, [(⟨y9, y10.1, y11.1, 0⟩ : DFile)]⟩ : Sl DFile)).bind fun y14 => (some (.inl ((IntKind.i64.wrap (st1.1 + 1)), y11.2.code_, y11.2.at_, y11.2.seed_, y14)))))))) else (some (.inr (st1.2.1, st1.2.2.1, st1.2.2.2.1, st1.2.2.2.2))))) (0, y5.2.code_, y5.2.at_, y5.2.seed_, (⟨true, []⟩ : Sl DFile))).bind fun y8 => ((B_spec_l00Src_pick (⟨y8.1, y8.2.1, y8.2.2.1⟩ : DL00Src) 3).bind fun y15 => ((loopO (S := (Int × (Sl ByteArray))) (R := (Sl ByteArray)) (fun st2 => (if (decide (0 < st2.1)) = true then ((appS 16 st2.2 (⟨false, [⟨#[49, 58, 32, 103, 111, 116, 111, 32, 76]⟩]⟩ : Sl ByteArray)).bind fun y17 => (some (.inl ((IntKind.i64.wrap (st2.1 - 1)), y17)))) else (some (.inr st2.2)))) (y15.1, (⟨true, []⟩ : Sl ByteArray))).bind fun y16 => ((B_spec_l00Src_one y15.2 12).bind fun y18 => (if y18.1 = true then ((loopO (S := (Sl ByteArray)) (R := (Sl ByteArray)) (fun st3 => (if (decide ((st3.l.length : Int) < 200)) = true then ((appS 16 st3 (⟨false, [⟨#[50, 58, 32, 99, 97, 108, 108, 32, 70]⟩]⟩ : Sl ByteArray)).bind fun y20 => (some (.inl y20))) else (some (.inr st3)))) y16).bind fun y19 => (some ((⟨y1.1, y3.1, y2.1, y8.2.2.2, y19⟩ : DConsole), y18.2))) else (some ((⟨y1.1, y3.1, y2.1, y8.2.2.2, y16⟩ : DConsole), y18.2))))))))))))))
theorem u_spec_l21DrawConsole (a0 : DL00Src) (r : (DConsole × DL00Src)) (h : B_spec_l21DrawConsole a0 = some r) (bp0 : Nat) : RawS Tryd.prog md ext 48 [.ptr bp0 0 0 3] Sh_DConsole.n (fun hs => Sh_DConsole.tree hs r.1) [.box bp0 (DL00Src.cells a0)] (fun hs => Sh_DConsole.en hs r.1 ++ [.box bp0 (DL00Src.cells r.2)]) := by
 unfold B_spec_l21DrawConsole at h
 refine rawS_of rfl rfl ok_48 rfl ?_
 intro σ0 σ F σk s hS hH
 have hS := sub_to (L' := [(0, .ptr bp0 0 0 3)]) hS (by kernel_rfl)
 refine t_go h hS hH ?_
 refine t_R ?_
 refine k_alloc fun b1 => ?_
 refine t_N ?_
 refine t_RU 1 ?_
 refine t_h Heap.up1 ?_
 refine k_callR (fun y1 hs hy1 hl => ?_) (hr := by exact fun y1 hy1 => u_spec_l21DrawLines _ _ y1 hy1 bp0)
 obtain ⟨t1, rfl⟩ := len1 hl
 refine t_lit ?_
 refine t_one 0 fun ht1 => ?_
 refine t_U 1 ?_
 refine t_h Heap.up1 ?_
 refine k_callR (fun y2 hs hy2 hl => ?_) (hr := by exact fun y2 hy2 => u_spec_l21DrawLines _ _ y2 hy2 bp0)
 obtain ⟨t2, rfl⟩ := len1 hl
 refine t_lit ?_
 refine t_one 0 fun ht2 => ?_
 intro h s σ hS hH
 refine q_build (qs := [(0, t1), (2, t2)]) (z := [(nt ByteArray), i4 0, (nt ByteArray), (nt DFile), (nt ByteArray)]) (r := [t1, i4 0, t2, (nt DFile), (nt ByteArray)]) [[t1], [t2]] rfl hS rfl (by kernel_rfl) (by kernel_rfl) (And.intro (by simp [ht1.1, ht1.2]) (And.intro (by simp [ht1.1, ht1.2]) (And.intro (by simp [ht2.1, ht2.2]) (And.intro (by simp [ht2.1, ht2.2]) trivial)))) (by kernel_rfl) ?_; intro s hS
 refine t_bk h hS hH ?_
 refine k_alloc fun b2 => ?_
 refine k_storeA 0 ?_ (h1 := by simp [ht1.1, ht1.2, ht2.1, ht2.2])
 refine t_N ?_
 refine t_RU 2 ?_
 refine k_load 0 ?_
 refine k_lenH (a := y1.1) 3 ?_
 refine t_U 1 ?_
 refine t_h Heap.up2 ?_
 refine k_callR (fun y3 hs hy3 hl => ?_) (hr := by exact fun y3 hy3 => u_spec_l00Src_pick _ _ y3 hy3 bp0)
 obtain rfl := len0 hl
 refine t_lit ?_
 refine t_U 1 ?_
 refine k_store 1 ?_
 refine t_N ?_
 refine t_RU 1 ?_
 refine t_h Heap.up1 ?_
 refine k_callR (fun y4 hs hy4 hl => ?_) (hr := by exact fun y4 hy4 => u_spec_l00Src_pick _ _ y4 hy4 bp0)
 obtain rfl := len0 hl
 refine t_lit ?_
 refine t_N ?_
 refine t_RU 1 ?_
 refine k_callR (fun y5 hs hy5 hl => ?_) (hr := by exact fun y5 hy5 => u_spec_l00Src_one _ _ y5 hy5 bp0)
 obtain rfl := len0 hl
 refine t_lit ?_
 refine t_N ?_
 refine t_cut 0 (fun y6 e fr => e = .normal ∧ Sub [(0, .ptr bp0 0 0 3), (2, .ptr b1 0 0 5), (3, .ptr b2 0 0 5), (4, i4 y6)] fr.s ∧ Heap σ0 fr.σ [.box bp0 (DL00Src.cells y5.2), .box b2 [t1, i4 y3.1, t2, (nt DFile), (nt ByteArray)], .box b1 [(nt ByteArray), i4 0, (nt ByteArray), (nt DFile), (nt ByteArray)], .own true 1 t1 y1.1.t, .own true 1 t2 y2.1.t, .keep F σk]) (fun y6 e fr h HF => ?_) fun y6 => ?_
 ·obtain ⟨s, σ⟩ := fr
  obtain ⟨rfl, hS, hH⟩ := HF
  refine t_bx h hS hH ?_
  refine t_R ?_
  refine k_callO1 (fun y7 t3 hy7 ht3 => ?_)
  refine t_N ?_
  refine t_RN ?_
  refine t_h (Heap.addNil · true 4) ?_
  refine t_loop (fun st1 fr => ∃ t5, IsOne t5 ∧ Sub [(0, .ptr bp0 0 0 3), (2, .ptr b1 0 0 5), (3, .ptr b2 0 0 5), (4, i4 y6), (5, t3), (6, i4 st1.1)] fr.s ∧ Heap σ0 fr.σ [.box bp0 [st1.2.1.t, i4 st1.2.2.1, .int .u64 st1.2.2.2.1], .box b2 [t1, i4 y3.1, t2, t5, (nt ByteArray)], .box b1 [(nt ByteArray), i4 0, (nt ByteArray), (nt DFile), (nt ByteArray)], .own true 1 t3 y7.t, .own true 1 t1 y1.1.t, .own true 1 t2 y2.1.t, .own true 4 t5 st1.2.2.2.2.t, .keep F σk]) (fun y8 e fr => ∃ t6, IsOne t6 ∧ e = (.exit 0) ∧ Sub [(0, .ptr bp0 0 0 3), (2, .ptr b1 0 0 5), (3, .ptr b2 0 0 5)] fr.s ∧ Heap σ0 fr.σ [.box bp0 [y8.1.t, i4 y8.2.1, .int .u64 y8.2.2.1], .box b2 [t1, i4 y3.1, t2, t6, (nt ByteArray)], .box b1 [(nt ByteArray), i4 0, (nt ByteArray), (nt DFile), (nt ByteArray)], .own true 1 t1 y1.1.t, .own true 1 t2 y2.1.t, .own true 4 t6 y8.2.2.2.t, .keep F σk]) (fun hS hH => Exists.intro (T.row true 0 []) (And.intro ⟨rfl, rfl⟩ (And.intro (sub_to hS (by kernel_rfl)) (Heap.sel hH [2, 3, 4, 1, 5, 6, 0, 7] rfl (by kernel_rfl))))) (fun st1 x fr h HI => ?_) fun y8 e fr h HF => ?_
  ·obtain ⟨s, σ⟩ := fr; obtain ⟨t5, ht5, ⟨hS, hH⟩⟩ := HI
   refine t_bk h hS hH ?_
   refine t_RN ?_
   refine t_if (fun hc1 => ?_) fun hc1 => ?_
   ·refine t_chain [(5, (RT t3 RN)), (7, (RT t3 RN)), (10, RN)] ext_x fun mb σs hn0 hlt hlto => ?_
    have hlt_t3 : ∀ b e o n, t3 = .ref b e o n → b < mb := fun b e o n h => hlto _ _ _ _ (List.Mem.tail _ (List.Mem.tail _ (List.Mem.tail _ (List.Mem.head _)))) b e o n h
    refine t_U 2 ?_
    refine k_hidx 3 (fun hb1 hb1e y9 hy9 hl_hb1 => ?_) (hlt := by exact (fun b e o n h => Or.inr ⟨hlt_t3 b e o n h, (Wc.cons (.inr (Or.inl ⟨_, _, _, h⟩)) (Wc.cons (.inr (Or.inl ⟨_, _, _, h⟩)) (Wc.cons (.inl (by kernel_rfl)) Wc.nil)))⟩))
    refine k_hload 3 0 hl_hb1 hy9 ?_ (hlt := by exact (fun b e o n h => Or.inr ⟨hlt_t3 b e o n h, (Wc.cons (.inr (Or.inl ⟨_, _, _, h⟩)) (Wc.cons (.inr (Or.inl ⟨_, _, _, h⟩)) (Wc.cons (.inl (by kernel_rfl)) Wc.nil)))⟩))
    refine t_U 1 ?_
    refine k_callRX (RT t3 RN) ext_x (Stay.own (List.Mem.tail _ (List.Mem.tail _ (List.Mem.head _))) Stay.nil) (by exact fun x hx => Or.inr ⟨5, by kernel_rfl, hx⟩) (fun y10 hs hy10 hl => ?_) (hr := by exact fun y10 hy10 => u_spec_l21DrawLines _ _ y10 hy10 bp0)
    obtain ⟨t7, rfl⟩ := len1 hl
    refine t_lit ?_
    refine t_one 0 fun ht7 => ?_
    refine t_U 1 ?_
    refine t_h Heap.up1 ?_
    refine k_callRX (RT t3 RN) ext_x (Stay.own (List.Mem.tail _ (List.Mem.tail _ (List.Mem.tail _ (List.Mem.head _)))) Stay.nil) (by exact fun x hx => Or.inr ⟨7, by kernel_rfl, hx⟩) (fun y11 hs hy11 hl => ?_) (hr := by exact fun y11 hy11 => u_spec_l00Src_pick _ _ y11 hy11 bp0)
    obtain rfl := len0 hl
    refine t_lit ?_
    intro h s σ hS hH
    refine q_build (qs := [(0, .str y9), (1, t7), (2, i4 y11.1)]) (z := [.str ⟨#[]⟩, (nt ByteArray), i4 0, i4 0]) (r := [.str y9, t7, i4 y11.1, i4 0]) [[.str y9], [t7], [i4 y11.1]] rfl hS rfl (by kernel_rfl) (by kernel_rfl) (And.intro rfl (And.intro (by kernel_rfl) (And.intro (by simp [ht7.1, ht7.2]) (And.intro (by simp [ht7.1, ht7.2]) (And.intro rfl (And.intro (by kernel_rfl) trivial)))))) (by kernel_rfl) ?_; intro s hS
    refine t_bk h hS hH ?_
    refine k_allocC (by exact hn0) fun b3 hwr_b3 => ?_
    refine k_storeA 0 ?_ (h1 := by simp [ht7.1, ht7.2]) (hwr := by exact fun _ => Or.inl hwr_b3)
    refine t_N ?_
    refine t_RU 1 ?_
    refine k_load 0 ?_
    refine t_N ?_
    refine t_if (fun hc2 => ?_) fun hc2 => ?_
    ·refine t_RU 2 ?_
     refine k_load 0 ?_
     refine k_lenH (a := y10.1) 2 ?_
     refine t_U 1 ?_
     refine t_h Heap.up1 ?_
     refine k_callR (fun y12 hs hy12 hl => ?_) (hr := by exact fun y12 hy12 => u_spec_l00Src_pick _ _ y12 hy12 bp0)
     obtain rfl := len0 hl
     refine t_lit ?_
     refine t_U 1 ?_
     refine k_store 1 ?_
     refine t_N ?_
     refine t_RU 1 ?_
     refine k_load 3 ?_
     refine k_load 0 ?_
     refine t_h Heap.up2 ?_
     refine k_bs (z := true) (⟨false, [(⟨y9, y10.1, y11.1, y12.1⟩ : DFile)]⟩ : Sl DFile) (fun t8 ht8 => ?_) (h1 := by simp [ht7.1, ht7.2])
     refine k_app 8 0 (fun y13 t9 hy13 ht9 => ?_)
     refine t_U 1 ?_
     refine k_storeT 3 ht9 ?_
     refine t_N ?_
     refine t_RN ?_
     exact t_e fun he hS hH => he ▸ Exists.intro t9 (And.intro ht9 (And.intro (sub_to hS (by kernel_rfl)) (Heap.sel hH [3, 0, 4, 5, 6, 7, 1, 8] rfl (by kernel_rfl))))
    refine t_RU 1 ?_
    refine k_load 3 ?_
    refine k_load 0 ?_
    refine t_h Heap.up2 ?_
    refine k_bs (z := true) (⟨false, [(⟨y9, y10.1, y11.1, 0⟩ : DFile)]⟩ : Sl DFile) (fun t10 ht10 => ?_) (h1 := by simp [ht7.1, ht7.2])
    refine k_app 8 0 (fun y14 t11 hy14 ht11 => ?_)
    refine t_U 1 ?_
    refine k_storeT 3 ht11 ?_
    refine t_N ?_
    refine t_RN ?_
    exact t_e fun he hS hH => he ▸ Exists.intro t11 (And.intro ht11 (And.intro (sub_to hS (by kernel_rfl)) (Heap.sel hH [3, 0, 4, 5, 6, 7, 1, 8] rfl (by kernel_rfl))))
   exact t_e fun he hS hH => he ▸ Exists.intro t5 (And.intro ht5 (And.intro rfl (And.intro (sub_to hS (by kernel_rfl)) (Heap.sel hH [0, 1, 2, 4, 5, 6, 7] rfl (by kernel_rfl)))))
  obtain ⟨s, σ⟩ := fr
  obtain ⟨t6, ht6, ⟨rfl, hS, hH⟩⟩ := HF
  refine t_bx h hS hH ?_
  refine t_RU 1 ?_
  refine k_callR (fun y15 hs hy15 hl => ?_) (hr := by exact fun y15 hy15 => u_spec_l00Src_pick _ _ y15 hy15 bp0)
  obtain rfl := len0 hl
  refine t_lit ?_
  refine t_N ?_
  refine t_h (Heap.addNil · true 1) ?_
  refine t_loop (fun st2 fr => ∃ t13, IsOne t13 ∧ Sub [(0, .ptr bp0 0 0 3), (2, .ptr b1 0 0 5), (3, .ptr b2 0 0 5), (8, i4 st2.1)] fr.s ∧ Heap σ0 fr.σ [.box bp0 (DL00Src.cells y15.2), .box b2 [t1, i4 y3.1, t2, t6, t13], .box b1 [(nt ByteArray), i4 0, (nt ByteArray), (nt DFile), (nt ByteArray)], .own true 1 t1 y1.1.t, .own true 1 t2 y2.1.t, .own true 4 t6 y8.2.2.2.t, .own true 1 t13 st2.2.t, .keep F σk]) (fun y16 e fr => ∃ t14, IsOne t14 ∧ e = (.exit 2) ∧ Sub [(0, .ptr bp0 0 0 3), (2, .ptr b1 0 0 5), (3, .ptr b2 0 0 5)] fr.s ∧ Heap σ0 fr.σ [.box bp0 (DL00Src.cells y15.2), .box b2 [t1, i4 y3.1, t2, t6, t14], .box b1 [(nt ByteArray), i4 0, (nt ByteArray), (nt DFile), (nt ByteArray)], .own true 1 t1 y1.1.t, .own true 1 t2 y2.1.t, .own true 4 t6 y8.2.2.2.t, .own true 1 t14 y16.t, .keep F σk]) (fun hS hH => Exists.intro (T.row true 0 []) (And.intro ⟨rfl, rfl⟩ (And.intro (sub_to hS (by kernel_rfl)) (Heap.sel hH [1, 2, 3, 4, 5, 6, 0, 7] rfl (by kernel_rfl))))) (fun st2 x fr h HI => ?_) fun y16 e fr h HF => ?_
  ·obtain ⟨s, σ⟩ := fr; obtain ⟨t13, ht13, ⟨hS, hH⟩⟩ := HI
   refine t_bk h hS hH ?_
   refine t_RN ?_
   refine t_if (fun hc3 => ?_) fun hc3 => ?_
   ·refine t_RU 1 ?_
    refine k_load 1 ?_
    refine k_bs (z := true) (⟨false, [⟨#[49, 58, 32, 103, 111, 116, 111, 32, 76]⟩]⟩ : Sl ByteArray) (fun t15 ht15 => ?_)
    refine k_app 7 0 (fun y17 t16 hy17 ht16 => ?_)
    refine t_U 1 ?_
    refine k_storeT 2 ht16 ?_
    refine t_N ?_
    refine t_RN ?_
    exact t_e fun he hS hH => he ▸ Exists.intro t16 (And.intro ht16 (And.intro (sub_to hS (by kernel_rfl)) (Heap.sel hH [2, 0, 3, 4, 5, 6, 1, 7] rfl (by kernel_rfl))))
   exact t_e fun he hS hH => he ▸ Exists.intro t13 (And.intro ht13 (And.intro rfl (And.intro (sub_to hS (by kernel_rfl)) hH)))
  obtain ⟨s, σ⟩ := fr
  obtain ⟨t14, ht14, ⟨rfl, hS, hH⟩⟩ := HF
  refine t_bx h hS hH ?_
  refine t_RU 1 ?_
  refine k_callR (fun y18 hs hy18 hl => ?_) (hr := by exact fun y18 hy18 => u_spec_l00Src_one _ _ y18 hy18 bp0)
  obtain rfl := len0 hl
  refine t_lit ?_
  refine t_N ?_
  refine t_if (fun hc4 => ?_) fun hc4 => ?_
  ·refine t_loop (fun st3 fr => ∃ t18, IsOne t18 ∧ Sub [(2, .ptr b1 0 0 5), (3, .ptr b2 0 0 5)] fr.s ∧ Heap σ0 fr.σ [.box bp0 (DL00Src.cells y18.2), .box b2 [t1, i4 y3.1, t2, t6, t18], .box b1 [(nt ByteArray), i4 0, (nt ByteArray), (nt DFile), (nt ByteArray)], .own true 1 t1 y1.1.t, .own true 1 t2 y2.1.t, .own true 4 t6 y8.2.2.2.t, .own true 1 t18 st3.t, .keep F σk]) (fun y19 e fr => ∃ t19, IsOne t19 ∧ e = (.exit 4) ∧ Sub [(2, .ptr b1 0 0 5), (3, .ptr b2 0 0 5)] fr.s ∧ Heap σ0 fr.σ [.box bp0 (DL00Src.cells y18.2), .box b2 [t1, i4 y3.1, t2, t6, t19], .box b1 [(nt ByteArray), i4 0, (nt ByteArray), (nt DFile), (nt ByteArray)], .own true 1 t1 y1.1.t, .own true 1 t2 y2.1.t, .own true 4 t6 y8.2.2.2.t, .own true 1 t19 y19.t, .keep F σk]) (fun hS hH => Exists.intro t14 (And.intro ht14 (And.intro (sub_to hS (by kernel_rfl)) hH))) (fun st3 x fr h HI => ?_) fun y19 e fr h HF => ?_
   ·obtain ⟨s, σ⟩ := fr; obtain ⟨t18, ht18, ⟨hS, hH⟩⟩ := HI
    refine t_bk h hS hH ?_
    refine t_RU 1 ?_
    refine k_load 1 ?_
    refine k_lenH (a := st3) 6 ?_
    refine t_N ?_
    refine t_if (fun hc5 => ?_) fun hc5 => ?_
    ·refine t_RU 1 ?_
     refine k_load 1 ?_
     refine k_bs (z := true) (⟨false, [⟨#[50, 58, 32, 99, 97, 108, 108, 32, 70]⟩]⟩ : Sl ByteArray) (fun t20 ht20 => ?_)
     refine k_app 7 0 (fun y20 t21 hy20 ht21 => ?_)
     refine t_U 1 ?_
     refine k_storeT 2 ht21 ?_
     refine t_N ?_
     exact t_e fun he hS hH => he ▸ Exists.intro t21 (And.intro ht21 (And.intro (sub_to hS (by kernel_rfl)) (Heap.sel hH [2, 0, 3, 4, 5, 6, 1, 7] rfl (by kernel_rfl))))
    exact t_e fun he hS hH => he ▸ Exists.intro t18 (And.intro ht18 (And.intro rfl (And.intro (sub_to hS (by kernel_rfl)) hH)))
   obtain ⟨s, σ⟩ := fr
   obtain ⟨t19, ht19, ⟨rfl, hS, hH⟩⟩ := HF
   refine t_bx h hS hH ?_
   refine t_R ?_
   refine k_load 1 ?_
   refine k_storeA 2 ?_ (h1 := by simp [ht1.1, ht1.2, ht19.1, ht19.2, ht2.1, ht2.2, ht6.1, ht6.2])
   refine t_N ?_
   intro h s σ hS hH
   injection h with h; subst h
   exact end_M [t1, t2, t6, t19] (r_cell (v := .agg [t1, i4 y3.1, t2, t6, t19]) hS hH rfl (by kernel_rfl) r_nil) rfl rfl (Heap.sel hH [3, 4, 5, 6, 1, 7] rfl (by kernel_rfl))
  refine t_R ?_
  refine k_load 1 ?_
  refine k_storeA 2 ?_ (h1 := by simp [ht1.1, ht1.2, ht14.1, ht14.2, ht2.1, ht2.2, ht6.1, ht6.2])
  refine t_N ?_
  intro h s σ hS hH
  injection h with h; subst h
  exact end_M [t1, t2, t6, t14] (r_cell (v := .agg [t1, i4 y3.1, t2, t6, t14]) hS hH rfl (by kernel_rfl) r_nil) rfl rfl (Heap.sel hH [3, 4, 5, 6, 1, 7] rfl (by kernel_rfl))
 refine t_if (fun hc6 => ?_) fun hc6 => ?_
 ·refine t_RN ?_
  exact t_e fun he hS hH => he ▸ And.intro rfl (And.intro (sub_to hS (by kernel_rfl)) (Heap.sel hH [0, 1, 4, 3, 2, 5] rfl (by kernel_rfl)))
 exact t_e fun he hS hH => he ▸ And.intro rfl (And.intro (sub_to hS (by kernel_rfl)) (Heap.sel hH [0, 1, 4, 3, 2, 5] rfl (by kernel_rfl)))
noncomputable def B_spec_l21DrawBent (a0 : DL00Src) (a1 : Int) : Option (DConsole × DL00Src) := ((B_spec_l21DrawConsole a0).bind fun y1 => ((B_spec_l00Src_one y1.2 a1).bind fun y2 => (if (!y2.1) = true then (some (y1.1, y2.2)) else ((B_spec_l00Src_pick y2.2 7).bind fun y3 => (((((if (decide (y3.1 = 0)) = true then ((B_spec_l00Src_among y3.2 (⟨false, [⟨(-1)⟩, ⟨(IntKind.i64.wrap ((y1.1.Input.l.length : Int) + 1))⟩]⟩)).bind fun y6 => (some (y6.2.1.code_, y6.2.1.at_, y6.2.1.seed_, y6.1, y1.1.Input, y1.1.Output, y1.1.Files, y1.1.Trace))) else (if (decide (y3.1 = 1)) = true then ((B_spec_l00Src_pick y3.2 2).bind fun y7 => ((mkS 1 (⟨0⟩ : Iv .u8) (IntKind.i64.wrap (200 + y7.1)) (IntKind.i64.wrap (200 + y7.1))).bind fun y8 => ((strS y8).bind fun y9 => ((appS 16 y1.1.Output (⟨false, [y9]⟩ : Sl ByteArray)).bind fun y10 => (some (y7.2.code_, y7.2.at_, y7.2.seed_, y1.1.At, y1.1.Input, y10, y1.1.Files, y1.1.Trace)))))) else (if (decide (y3.1 = 2)) = true then ((loopO (S := (Sl ByteArray)) (R := (Sl ByteArray)) (fun st1 => (if (decide ((st1.l.length : Int) ≤ 100)) = true then ((appS 16 st1 (⟨false, [⟨#[105]⟩]⟩ : Sl ByteArray)).bind fun y12 => (some (.inl y12))) else (some (.inr st1)))) y1.1.Input).bind fun y11 => (some (y3.2.code_, y3.2.at_, y3.2.seed_, y1.1.At, y11, y1.1.Output, y1.1.Files, y1.1.Trace))) else (if (decide (y3.1 = 3)) = true then ((B_spec_l00Src_text y3.2 (⟨false, [⟨#[]⟩, ⟨#[49]⟩, ⟨#[68, 65, 84, 65]⟩, ⟨#[90, 90]⟩]⟩)).bind fun y13 => ((B_spec_l00Src_pick y13.2.1 6).bind fun y14 => ((appS 56 y1.1.Files (⟨false, [(⟨y13.1, ⟨true, []⟩, y14.1, 0⟩ : DFile)]⟩ : Sl DFile)).bind fun y15 => (some (y14.2.code_, y14.2.at_, y14.2.seed_, y1.1.At, y1.1.Input, y1.1.Output, y15, y1.1.Trace))))) else (if (decide (y3.1 = 4)) = true then (if (decide (0 < (y1.1.Files.l.length : Int))) = true then ((B_spec_l00Src_pick y3.2 5).bind fun y16 => ((elt y1.1.Files 0).bind fun y17 => (some (y16.2.code_, y16.2.at_, y16.2.seed_, y1.1.At, y1.1.Input, y1.1.Output, (setS y1.1.Files 0 ((⟨y17.Name, y17.Lines, y17.Mode, (IntKind.i64.wrap (y16.1 - 1))⟩ : DFile) : DFile)), y1.1.Trace)))) else (some (y3.2.code_, y3.2.at_, y3.2.seed_, y1.1.At, y1.1.Input, y1.1.Output, y1.1.Files, y1.1.Trace))) else (if (decide (y3.1 = 5)) = true then ((B_spec_l00Src_pick y3.2 2).bind fun y18 => ((mkS 1 (⟨0⟩ : Iv .u8) (IntKind.i64.wrap (1300 + y18.1)) (IntKind.i64.wrap (1300 + y18.1))).bind fun y19 => ((strS y19).bind fun y20 => ((appS 16 y1.1.Trace (⟨false, [y20]⟩ : Sl ByteArray)).bind fun y21 => (some (y18.2.code_, y18.2.at_, y18.2.seed_, y1.1.At, y1.1.Input, y1.1.Output, y1.1.Files, y21)))))) else ((loopO (S := (Sl ByteArray)) (R := (Sl ByteArray)) (fun st2 => (if (decide ((st2.l.length : Int) ≤ 200)) = true then ((appS 16 st2 (⟨false, [⟨#[116]⟩]⟩ : Sl ByteArray)).bind fun y23 => (some (.inl y23))) else (some (.inr st2)))) y1.1.Trace).bind fun y22 => (some (y3.2.code_, y3.2.at_, y3.2.seed_, y1.1.At, y1.1.Input, y1.1.Output, y1.1.Files, y22))))))))) : Option (((Sl (Iv .u8)) × Int × Int × Int × (Sl ByteArray) × (Sl ByteArray) × (Sl DFile) × (Sl ByteArray)))).bind fun y5 => (some (y5.1, y5.2.1, y5.2.2.1, y5.2.2.2.1, y5.2.2.2.2.1, y5.2.2.2.2.2.1, y5.2.2.2.2.2.2.1, y5.2.2.2.2.2.2.2))) : Option (((Sl (Iv .u8)) × Int × Int × Int × (Sl ByteArray) × (Sl ByteArray) × (Sl DFile) × (Sl ByteArray)))).bind fun y4 => (some ((⟨y4.2.2.2.2.1, y4.2.2.2.1, y4.2.2.2.2.2.1, y4.2.2.2.2.2.2.1, y4.2.2.2.2.2.2.2⟩ : DConsole), (⟨y4.1, y4.2.1, y4.2.2.1⟩ : DL00Src))))))))
theorem u_spec_l21DrawBent (a0 : DL00Src) (a1 : Int) (r : (DConsole × DL00Src)) (h : B_spec_l21DrawBent a0 a1 = some r) (bp0 : Nat) : RawS Tryd.prog md ext 23 [.ptr bp0 0 0 3, i4 a1] Sh_DConsole.n (fun hs => Sh_DConsole.tree hs r.1) [.box bp0 (DL00Src.cells a0)] (fun hs => Sh_DConsole.en hs r.1 ++ [.box bp0 (DL00Src.cells r.2)]) := by
 unfold B_spec_l21DrawBent at h
 refine rawS_of rfl rfl ok_23 rfl ?_
 intro σ0 σ F σk s hS hH
 have hS := sub_to (L' := [(0, .ptr bp0 0 0 3), (1, i4 a1)]) hS (by kernel_rfl)
 refine t_go h hS hH ?_
 refine t_R ?_
 refine k_alloc fun b1 => ?_
 refine t_N ?_
 refine t_RU 1 ?_
 refine t_h Heap.up1 ?_
 refine k_callR (fun y1 hs hy1 hl => ?_) (hr := by exact fun y1 hy1 => u_spec_l21DrawConsole _ y1 hy1 bp0)
 obtain ⟨t1, t2, t3, t4, rfl⟩ := len4 hl
 refine t_lit ?_
 refine t_one 0 fun ht1 => ?_
 refine t_one 1 fun ht2 => ?_
 refine t_one 2 fun ht3 => ?_
 refine t_one 3 fun ht4 => ?_
 refine k_alloc fun b2 => ?_
 refine k_storeA 0 ?_ (h1 := by simp [ht1.1, ht1.2, ht2.1, ht2.2, ht3.1, ht3.2, ht4.1, ht4.2])
 refine t_N ?_
 refine t_RU 2 ?_
 refine t_h Heap.up5 ?_
 refine k_callR (fun y2 hs hy2 hl => ?_) (hr := by exact fun y2 hy2 => u_spec_l00Src_one _ _ y2 hy2 bp0)
 obtain rfl := len0 hl
 refine t_lit ?_
 refine t_N ?_
 refine t_if (fun hc1 => ?_) fun hc1 => ?_
 ·refine t_R ?_
  refine k_load 1 ?_
  refine k_storeA 6 ?_ (h1 := by simp [ht1.1, ht1.2, ht2.1, ht2.2, ht3.1, ht3.2, ht4.1, ht4.2])
  refine t_N ?_
  intro h s σ hS hH
  injection h with h; subst h
  exact end_M [t1, t2, t3, t4] (r_cell (v := .agg [t1, i4 y1.1.At, t2, t3, t4]) hS hH rfl (by kernel_rfl) r_nil) rfl rfl (Heap.sel hH [3, 4, 5, 6, 1, 7] rfl (by kernel_rfl))
 refine t_RU 1 ?_
 refine k_callR (fun y3 hs hy3 hl => ?_) (hr := by exact fun y3 hy3 => u_spec_l00Src_pick _ _ y3 hy3 bp0)
 obtain rfl := len0 hl
 refine t_lit ?_
 refine t_N ?_
 refine t_cut 2 (fun y4 e fr => ∃ t5, IsOne t5 ∧ ∃ t6, IsOne t6 ∧ ∃ t7, IsOne t7 ∧ ∃ t8, IsOne t8 ∧ e = .normal ∧ Sub [(4, .ptr b1 0 0 5), (5, .ptr b2 0 0 5)] fr.s ∧ Heap σ0 fr.σ [.box bp0 [y4.1.t, i4 y4.2.1, .int .u64 y4.2.2.1], .box b2 [t5, i4 y4.2.2.2.1, t6, t7, t8], .box b1 [(nt ByteArray), i4 0, (nt ByteArray), (nt DFile), (nt ByteArray)], .own true 1 t5 y4.2.2.2.2.1.t, .own true 1 t6 y4.2.2.2.2.2.1.t, .own true 4 t7 y4.2.2.2.2.2.2.1.t, .own true 1 t8 y4.2.2.2.2.2.2.2.t, .keep F σk]) (fun y4 e fr h HF => ?_) fun y4 => ?_
 ·obtain ⟨s, σ⟩ := fr
  obtain ⟨t5, ht5, ⟨t6, ht6, ⟨t7, ht7, ⟨t8, ht8, ⟨rfl, hS, hH⟩⟩⟩⟩⟩ := HF
  refine t_bx h hS hH ?_
  refine t_R ?_
  refine k_load 1 ?_
  refine k_storeA 2 ?_ (h1 := by simp [ht5.1, ht5.2, ht6.1, ht6.2, ht7.1, ht7.2, ht8.1, ht8.2])
  refine t_N ?_
  intro h s σ hS hH
  injection h with h; subst h
  exact end_M [t5, t6, t7, t8] (r_cell (v := .agg [t5, i4 y4.2.2.2.1, t6, t7, t8]) hS hH rfl (by kernel_rfl) r_nil) rfl rfl (Heap.sel hH [3, 4, 5, 6, 1, 7] rfl (by kernel_rfl))
 refine t_RN ?_
 refine t_cut 0 (fun y5 e fr => ∃ t9, IsOne t9 ∧ ∃ t10, IsOne t10 ∧ ∃ t11, IsOne t11 ∧ ∃ t12, IsOne t12 ∧ e = .normal ∧ Sub [(4, .ptr b1 0 0 5), (5, .ptr b2 0 0 5)] fr.s ∧ Heap σ0 fr.σ [.box bp0 [y5.1.t, i4 y5.2.1, .int .u64 y5.2.2.1], .box b2 [t9, i4 y5.2.2.2.1, t10, t11, t12], .box b1 [(nt ByteArray), i4 0, (nt ByteArray), (nt DFile), (nt ByteArray)], .own true 1 t9 y5.2.2.2.2.1.t, .own true 1 t10 y5.2.2.2.2.2.1.t, .own true 4 t11 y5.2.2.2.2.2.2.1.t, .own true 1 t12 y5.2.2.2.2.2.2.2.t, .keep F σk]) (fun y5 e fr h HF => ?_) fun y5 => ?_
 ·obtain ⟨s, σ⟩ := fr
  obtain ⟨t9, ht9, ⟨t10, ht10, ⟨t11, ht11, ⟨t12, ht12, ⟨rfl, hS, hH⟩⟩⟩⟩⟩ := HF
  refine t_bx h hS hH ?_
  exact t_e fun he hS hH => he ▸ Exists.intro t9 (And.intro ht9 (Exists.intro t10 (And.intro ht10 (Exists.intro t11 (And.intro ht11 (Exists.intro t12 (And.intro ht12 (And.intro rfl (And.intro (sub_to hS (by kernel_rfl)) hH)))))))))
 refine t_if (fun hc2 => ?_) fun hc2 => ?_
 ·refine t_RU 2 ?_
  refine k_load 1 ?_
  refine k_lenH (a := y1.1.Input) 2 ?_
  refine t_U 1 ?_
  refine k_bs (z := true) (⟨false, [⟨(-1)⟩, ⟨(IntKind.i64.wrap ((y1.1.Input.l.length : Int) + 1))⟩]⟩ : Sl (Iv .i64)) (fun t13 ht13 => ?_)
  refine t_h Heap.up1 ?_
  refine k_callR (fun y6 hs hy6 hl => ?_) (hr := by exact fun y6 hy6 => u_spec_l00Src_among _ _ y6 hy6 bp0 1 t13)
  obtain rfl := len0 hl
  refine t_lit ?_
  refine t_U 1 ?_
  refine k_store 2 ?_
  refine t_N ?_
  exact t_e fun he hS hH => he ▸ Exists.intro t1 (And.intro ht1 (Exists.intro t2 (And.intro ht2 (Exists.intro t3 (And.intro ht3 (Exists.intro t4 (And.intro ht4 (And.intro rfl (And.intro (sub_to hS (by kernel_rfl)) (Heap.sel hH [1, 0, 7, 3, 4, 5, 6, 8] rfl (by kernel_rfl)))))))))))
 refine t_RN ?_
 refine t_if (fun hc3 => ?_) fun hc3 => ?_
 ·refine t_chain [(3, (RB b2 RN)), (8, RN), (10, RN)] ext_x fun mb σs hn0 hlt hlto => ?_
  have hlt_b2 : b2 < mb := hlt b2 _ (List.Mem.tail _ (List.Mem.head _))
  refine t_U 1 ?_
  refine k_load 1 ?_ (hlt := by exact (Or.inr ⟨hlt_b2, (Wc.cons (.inr (Or.inl rfl)) (Wc.cons (.inl (by kernel_rfl)) (Wc.cons (.inl (by kernel_rfl)) Wc.nil)))⟩))
  refine t_U 1 ?_
  refine k_callRX (RB b2 RN) ext_x (Stay.box (List.Mem.head _) Stay.nil) (by exact fun x hx => Or.inr ⟨3, by kernel_rfl, hx⟩) (fun y7 hs hy7 hl => ?_) (hr := by exact fun y7 hy7 => u_spec_l00Src_pick _ _ y7 hy7 bp0)
  obtain rfl := len0 hl
  refine t_lit ?_
  refine t_U 1 ?_
  refine k_make true ⟨0⟩ (fun y8 t14 hy8 ht14 => ?_) (hb := by exact hn0)
  refine k_b2s (a := y8) 0 (fun y9 hy9 => ?_) (hq := by kernel_rfl)
  refine k_bs (z := true) (⟨false, [y9]⟩ : Sl ByteArray) (fun t15 ht15 => ?_) (hb := by exact hn0)
  refine k_app 5 0 (fun y10 t16 hy10 ht16 => ?_) (hb := by exact hn0) (hwr := by exact fun hH b e o n h0 => Or.inr ⟨8, by kernel_rfl, fun h => h⟩)
  refine t_U 1 ?_
  refine k_storeT 3 ht16 ?_ (hwr := by exact fun hH => Or.inr ⟨10, by kernel_rfl, fun h => h⟩)
  refine t_N ?_
  exact t_e fun he hS hH => he ▸ Exists.intro t1 (And.intro ht1 (Exists.intro t16 (And.intro ht16 (Exists.intro t3 (And.intro ht3 (Exists.intro t4 (And.intro ht4 (And.intro rfl (And.intro (sub_to hS (by kernel_rfl)) (Heap.sel hH [3, 0, 7, 4, 1, 5, 6, 8] rfl (by kernel_rfl)))))))))))
 refine t_RN ?_
 refine t_if (fun hc4 => ?_) fun hc4 => ?_
 ·refine t_loop (fun st1 fr => ∃ t18, IsOne t18 ∧ Sub [(4, .ptr b1 0 0 5), (5, .ptr b2 0 0 5)] fr.s ∧ Heap σ0 fr.σ [.box bp0 (DL00Src.cells y3.2), .box b2 [t18, i4 y1.1.At, t2, t3, t4], .box b1 [(nt ByteArray), i4 0, (nt ByteArray), (nt DFile), (nt ByteArray)], .own true 1 t18 st1.t, .own true 1 t2 y1.1.Output.t, .own true 4 t3 y1.1.Files.t, .own true 1 t4 y1.1.Trace.t, .keep F σk]) (fun y11 e fr => ∃ t19, IsOne t19 ∧ e = (.exit 3) ∧ Sub [(4, .ptr b1 0 0 5), (5, .ptr b2 0 0 5)] fr.s ∧ Heap σ0 fr.σ [.box bp0 (DL00Src.cells y3.2), .box b2 [t19, i4 y1.1.At, t2, t3, t4], .box b1 [(nt ByteArray), i4 0, (nt ByteArray), (nt DFile), (nt ByteArray)], .own true 1 t19 y11.t, .own true 1 t2 y1.1.Output.t, .own true 4 t3 y1.1.Files.t, .own true 1 t4 y1.1.Trace.t, .keep F σk]) (fun hS hH => Exists.intro t1 (And.intro ht1 (And.intro (sub_to hS (by kernel_rfl)) (Heap.sel hH [0, 1, 6, 2, 3, 4, 5, 7] rfl (by kernel_rfl))))) (fun st1 x fr h HI => ?_) fun y11 e fr h HF => ?_
  ·obtain ⟨s, σ⟩ := fr; obtain ⟨t18, ht18, ⟨hS, hH⟩⟩ := HI
   refine t_bk h hS hH ?_
   refine t_RU 1 ?_
   refine k_load 1 ?_
   refine k_lenH (a := st1) 3 ?_
   refine t_N ?_
   refine t_if (fun hc5 => ?_) fun hc5 => ?_
   ·refine t_RU 1 ?_
    refine k_load 1 ?_
    refine k_bs (z := true) (⟨false, [⟨#[105]⟩]⟩ : Sl ByteArray) (fun t20 ht20 => ?_)
    refine k_app 4 0 (fun y12 t21 hy12 ht21 => ?_)
    refine t_U 1 ?_
    refine k_storeT 2 ht21 ?_
    refine t_N ?_
    exact t_e fun he hS hH => he ▸ Exists.intro t21 (And.intro ht21 (And.intro (sub_to hS (by kernel_rfl)) (Heap.sel hH [2, 0, 3, 1, 4, 5, 6, 7] rfl (by kernel_rfl))))
   exact t_e fun he hS hH => he ▸ Exists.intro t18 (And.intro ht18 (And.intro rfl (And.intro (sub_to hS (by kernel_rfl)) hH)))
  obtain ⟨s, σ⟩ := fr
  obtain ⟨t19, ht19, ⟨rfl, hS, hH⟩⟩ := HF
  refine t_bx h hS hH ?_
  exact t_e fun he hS hH => he ▸ Exists.intro t19 (And.intro ht19 (Exists.intro t2 (And.intro ht2 (Exists.intro t3 (And.intro ht3 (Exists.intro t4 (And.intro ht4 (And.intro rfl (And.intro (sub_to hS (by kernel_rfl)) hH)))))))))
 refine t_RN ?_
 refine t_if (fun hc6 => ?_) fun hc6 => ?_
 ·refine t_chain [(4, (RB b2 RN)), (6, (RB b2 RN)), (9, RN), (11, RN)] ext_x fun mb σs hn0 hlt hlto => ?_
  have hlt_b2 : b2 < mb := hlt b2 _ (List.Mem.tail _ (List.Mem.head _))
  refine t_U 1 ?_
  refine k_load 1 ?_ (hlt := by exact (Or.inr ⟨hlt_b2, (Wc.cons (.inr (Or.inl rfl)) (Wc.cons (.inr (Or.inl rfl)) (Wc.cons (.inl (by kernel_rfl)) (Wc.cons (.inl (by kernel_rfl)) Wc.nil))))⟩))
  refine t_U 1 ?_
  refine k_bs (z := true) (⟨false, [⟨#[]⟩, ⟨#[49]⟩, ⟨#[68, 65, 84, 65]⟩, ⟨#[90, 90]⟩]⟩ : Sl ByteArray) (fun t22 ht22 => ?_) (hb := by exact hn0)
  refine t_h Heap.up1 ?_
  refine k_callRX (RB b2 RN) ext_x (Stay.box (List.Mem.head _) Stay.nil) (by exact fun x hx => Or.inr ⟨4, by kernel_rfl, hx⟩) (fun y13 hs hy13 hl => ?_) (hr := by exact fun y13 hy13 => u_spec_l00Src_text _ _ y13 hy13 bp0 1 t22)
  obtain rfl := len0 hl
  refine t_lit ?_
  refine t_U 1 ?_
  refine k_callRX (RB b2 RN) ext_x (Stay.box (List.Mem.tail _ (List.Mem.head _)) Stay.nil) (by exact fun x hx => Or.inr ⟨6, by kernel_rfl, hx⟩) (fun y14 hs hy14 hl => ?_) (hr := by exact fun y14 hy14 => u_spec_l00Src_pick _ _ y14 hy14 bp0)
  obtain rfl := len0 hl
  refine t_lit ?_
  refine t_U 1 ?_
  refine k_bs (z := true) (⟨false, [(⟨y13.1, ⟨true, []⟩, y14.1, 0⟩ : DFile)]⟩ : Sl DFile) (fun t23 ht23 => ?_) (hb := by exact hn0)
  refine k_app 6 0 (fun y15 t24 hy15 ht24 => ?_) (hb := by exact hn0) (hwr := by exact fun hH b e o n h0 => Or.inr ⟨9, by kernel_rfl, fun h => h⟩)
  refine t_U 1 ?_
  refine k_storeT 3 ht24 ?_ (hwr := by exact fun hH => Or.inr ⟨11, by kernel_rfl, fun h => h⟩)
  refine t_N ?_
  exact t_e fun he hS hH => he ▸ Exists.intro t1 (And.intro ht1 (Exists.intro t2 (And.intro ht2 (Exists.intro t24 (And.intro ht24 (Exists.intro t4 (And.intro ht4 (And.intro rfl (And.intro (sub_to hS (by kernel_rfl)) (Heap.sel hH [2, 0, 7, 4, 5, 1, 6, 8] rfl (by kernel_rfl)))))))))))
 refine t_RN ?_
 refine t_if (fun hc7 => ?_) fun hc7 => ?_
 ·refine t_RU 1 ?_
  refine k_load 1 ?_
  refine k_lenH (a := y1.1.Files) 4 ?_
  refine t_N ?_
  refine t_if (fun hc8 => ?_) fun hc8 => ?_
  ·refine t_chain [(3, (RB b2 RN)), (7, RN)] ext_x fun mb σs hn0 hlt hlto => ?_
   have hlt_b2 : b2 < mb := hlt b2 _ (List.Mem.tail _ (List.Mem.head _))
   refine t_U 1 ?_
   refine k_load 1 ?_ (hlt := by exact (Or.inr ⟨hlt_b2, (Wc.cons (.inr (Or.inl rfl)) (Wc.cons (.inl (by kernel_rfl)) Wc.nil))⟩))
   refine t_U 1 ?_
   refine k_callRX (RB b2 RN) ext_x (Stay.box (List.Mem.head _) Stay.nil) (by exact fun x hx => Or.inr ⟨3, by kernel_rfl, hx⟩) (fun y16 hs hy16 hl => ?_) (hr := by exact fun y16 hy16 => u_spec_l00Src_pick _ _ y16 hy16 bp0)
   obtain rfl := len0 hl
   refine t_lit ?_
   refine t_U 1 ?_
   refine k_hidx 4 (fun hb1 hb1e y17 hy17 hl_hb1 => ?_) (hlt := by exact (fun _ _ _ _ _ => Or.inl (by kernel_rfl)))
   refine t_U 1 ?_
   refine t_h Heap.up4 ?_
   intro h s σ hS hH
   refine q_hstoreC rfl (ents := []) (a := y1.1.Files) (j := 0) (y := y17) (y' := ((⟨y17.Name, y17.Lines, y17.Mode, (IntKind.i64.wrap (y16.1 - 1))⟩ : DFile) : DFile)) (off := 3) (c := [.str y17.Name, y17.Lines.t, i4 y17.Mode, i4 y17.At]) (us := [i4 (IntKind.i64.wrap (y16.1 - 1))]) (vs := [i4 (IntKind.i64.wrap (y16.1 - 1))]) (v := i4 (IntKind.i64.wrap (y16.1 - 1))) (by exact Or.inr ⟨7, by kernel_rfl, fun h => h⟩) rfl hS hH hl_hb1 rfl rfl rfl (by kernel_rfl) (by kernel_rfl) rfl hy17 rfl (HLi HL.nil) rfl (by kernel_rfl) ?_; intro σ s hH hS
   refine t_bk h hS hH ?_
   refine t_N ?_
   exact t_e fun he hS hH => he ▸ Exists.intro t1 (And.intro ht1 (Exists.intro t2 (And.intro ht2 (Exists.intro t3 (And.intro ht3 (Exists.intro t4 (And.intro ht4 (And.intro rfl (And.intro (sub_to hS (by kernel_rfl)) (Heap.sel hH [1, 2, 6, 3, 4, 0, 5, 7] rfl (by kernel_rfl)))))))))))
  exact t_e fun he hS hH => he ▸ Exists.intro t1 (And.intro ht1 (Exists.intro t2 (And.intro ht2 (Exists.intro t3 (And.intro ht3 (Exists.intro t4 (And.intro ht4 (And.intro rfl (And.intro (sub_to hS (by kernel_rfl)) (Heap.sel hH [0, 1, 6, 2, 3, 4, 5, 7] rfl (by kernel_rfl)))))))))))
 refine t_RN ?_
 refine t_if (fun hc9 => ?_) fun hc9 => ?_
 ·refine t_chain [(3, (RB b2 RN)), (8, RN), (10, RN)] ext_x fun mb σs hn0 hlt hlto => ?_
  have hlt_b2 : b2 < mb := hlt b2 _ (List.Mem.tail _ (List.Mem.head _))
  refine t_U 1 ?_
  refine k_load 1 ?_ (hlt := by exact (Or.inr ⟨hlt_b2, (Wc.cons (.inr (Or.inl rfl)) (Wc.cons (.inl (by kernel_rfl)) (Wc.cons (.inl (by kernel_rfl)) Wc.nil)))⟩))
  refine t_U 1 ?_
  refine k_callRX (RB b2 RN) ext_x (Stay.box (List.Mem.head _) Stay.nil) (by exact fun x hx => Or.inr ⟨3, by kernel_rfl, hx⟩) (fun y18 hs hy18 hl => ?_) (hr := by exact fun y18 hy18 => u_spec_l00Src_pick _ _ y18 hy18 bp0)
  obtain rfl := len0 hl
  refine t_lit ?_
  refine t_U 1 ?_
  refine k_make true ⟨0⟩ (fun y19 t25 hy19 ht25 => ?_) (hb := by exact hn0)
  refine k_b2s (a := y19) 0 (fun y20 hy20 => ?_) (hq := by kernel_rfl)
  refine k_bs (z := true) (⟨false, [y20]⟩ : Sl ByteArray) (fun t26 ht26 => ?_) (hb := by exact hn0)
  refine k_app 7 0 (fun y21 t27 hy21 ht27 => ?_) (hb := by exact hn0) (hwr := by exact fun hH b e o n h0 => Or.inr ⟨8, by kernel_rfl, fun h => h⟩)
  refine t_U 1 ?_
  refine k_storeT 3 ht27 ?_ (hwr := by exact fun hH => Or.inr ⟨10, by kernel_rfl, fun h => h⟩)
  refine t_N ?_
  exact t_e fun he hS hH => he ▸ Exists.intro t1 (And.intro ht1 (Exists.intro t2 (And.intro ht2 (Exists.intro t3 (And.intro ht3 (Exists.intro t27 (And.intro ht27 (And.intro rfl (And.intro (sub_to hS (by kernel_rfl)) (Heap.sel hH [3, 0, 7, 4, 5, 6, 1, 8] rfl (by kernel_rfl)))))))))))
 refine t_loop (fun st2 fr => ∃ t29, IsOne t29 ∧ Sub [(4, .ptr b1 0 0 5), (5, .ptr b2 0 0 5)] fr.s ∧ Heap σ0 fr.σ [.box bp0 (DL00Src.cells y3.2), .box b2 [t1, i4 y1.1.At, t2, t3, t29], .box b1 [(nt ByteArray), i4 0, (nt ByteArray), (nt DFile), (nt ByteArray)], .own true 1 t1 y1.1.Input.t, .own true 1 t2 y1.1.Output.t, .own true 4 t3 y1.1.Files.t, .own true 1 t29 st2.t, .keep F σk]) (fun y22 e fr => ∃ t30, IsOne t30 ∧ e = (.exit 1) ∧ Sub [(4, .ptr b1 0 0 5), (5, .ptr b2 0 0 5)] fr.s ∧ Heap σ0 fr.σ [.box bp0 (DL00Src.cells y3.2), .box b2 [t1, i4 y1.1.At, t2, t3, t30], .box b1 [(nt ByteArray), i4 0, (nt ByteArray), (nt DFile), (nt ByteArray)], .own true 1 t1 y1.1.Input.t, .own true 1 t2 y1.1.Output.t, .own true 4 t3 y1.1.Files.t, .own true 1 t30 y22.t, .keep F σk]) (fun hS hH => Exists.intro t4 (And.intro ht4 (And.intro (sub_to hS (by kernel_rfl)) (Heap.sel hH [0, 1, 6, 2, 3, 4, 5, 7] rfl (by kernel_rfl))))) (fun st2 x fr h HI => ?_) fun y22 e fr h HF => ?_
 ·obtain ⟨s, σ⟩ := fr; obtain ⟨t29, ht29, ⟨hS, hH⟩⟩ := HI
  refine t_bk h hS hH ?_
  refine t_RU 1 ?_
  refine k_load 1 ?_
  refine k_lenH (a := st2) 6 ?_
  refine t_N ?_
  refine t_if (fun hc10 => ?_) fun hc10 => ?_
  ·refine t_RU 1 ?_
   refine k_load 1 ?_
   refine k_bs (z := true) (⟨false, [⟨#[116]⟩]⟩ : Sl ByteArray) (fun t31 ht31 => ?_)
   refine k_app 7 0 (fun y23 t32 hy23 ht32 => ?_)
   refine t_U 1 ?_
   refine k_storeT 2 ht32 ?_
   refine t_N ?_
   exact t_e fun he hS hH => he ▸ Exists.intro t32 (And.intro ht32 (And.intro (sub_to hS (by kernel_rfl)) (Heap.sel hH [2, 0, 3, 4, 5, 6, 1, 7] rfl (by kernel_rfl))))
  exact t_e fun he hS hH => he ▸ Exists.intro t29 (And.intro ht29 (And.intro rfl (And.intro (sub_to hS (by kernel_rfl)) hH)))
 obtain ⟨s, σ⟩ := fr
 obtain ⟨t30, ht30, ⟨rfl, hS, hH⟩⟩ := HF
 refine t_bx h hS hH ?_
 exact t_e fun he hS hH => he ▸ Exists.intro t1 (And.intro ht1 (Exists.intro t2 (And.intro ht2 (Exists.intro t3 (And.intro ht3 (Exists.intro t30 (And.intro ht30 (And.intro rfl (And.intro (sub_to hS (by kernel_rfl)) hH)))))))))
noncomputable def B_spec_l21DrawName (a0 : DL00Src) : Option (ByteArray × DL00Src) := ((B_spec_l00Src_one a0 8).bind fun y1 => (if y1.1 = true then ((B_spec_l00Src_text y1.2 (⟨false, [⟨#[]⟩, ⟨#[49, 65]⟩, ⟨#[78, 79, 78, 69]⟩, ⟨#[97, 32, 98]⟩]⟩)).bind fun y2 => (some (y2.1, y2.2.1))) else ((F_spec_l21Names ).bind fun y3 => ((B_spec_l00Src_text y1.2 y3).bind fun y4 => (some (y4.1, y4.2.1))))))
theorem u_spec_l21DrawName (a0 : DL00Src) (r : (ByteArray × DL00Src)) (h : B_spec_l21DrawName a0 = some r) (bp0 : Nat) : RawS Tryd.prog md ext 26 [.ptr bp0 0 0 3] 0 (fun hs => E_str r.1) [.box bp0 (DL00Src.cells a0)] (fun hs => [.box bp0 (DL00Src.cells r.2)]) := by
 unfold B_spec_l21DrawName at h
 refine rawS_of rfl rfl ok_26 rfl ?_
 intro σ0 σ F σk s hS hH
 have hS := sub_to (L' := [(0, .ptr bp0 0 0 3)]) hS (by kernel_rfl)
 refine t_go h hS hH ?_
 refine t_RN ?_
 refine t_RU 1 ?_
 refine k_callR (fun y1 hs hy1 hl => ?_) (hr := by exact fun y1 hy1 => u_spec_l00Src_one _ _ y1 hy1 bp0)
 obtain rfl := len0 hl
 refine t_lit ?_
 refine t_N ?_
 refine t_if (fun hc1 => ?_) fun hc1 => ?_
 ·refine t_RU 1 ?_
  refine k_bs (z := true) (⟨false, [⟨#[]⟩, ⟨#[49, 65]⟩, ⟨#[78, 79, 78, 69]⟩, ⟨#[97, 32, 98]⟩]⟩ : Sl ByteArray) (fun t1 ht1 => ?_)
  refine t_h Heap.up1 ?_
  refine k_callR (fun y2 hs hy2 hl => ?_) (hr := by exact fun y2 hy2 => u_spec_l00Src_text _ _ y2 hy2 bp0 1 t1)
  obtain rfl := len0 hl
  refine t_lit ?_
  refine t_N ?_
  intro h s σ hS hH
  injection h with h; subst h
  exact end_M [] (r_tmp (v := .str y2.1) hS rfl r_nil) rfl rfl (Heap.sel hH [0, 2] rfl (by kernel_rfl))
 refine t_RU 1 ?_
 refine k_callO1 (fun y3 t2 hy3 ht2 => ?_)
 refine t_h Heap.up1 ?_
 refine k_callR (fun y4 hs hy4 hl => ?_) (hr := by exact fun y4 hy4 => u_spec_l00Src_text _ _ y4 hy4 bp0 1 t2)
 obtain rfl := len0 hl
 refine t_lit ?_
 refine t_N ?_
 intro h s σ hS hH
 injection h with h; subst h
 exact end_M [] (r_tmp (v := .str y4.1) hS rfl r_nil) rfl rfl (Heap.sel hH [0, 2] rfl (by kernel_rfl))
noncomputable def B_spec_l07DrawScalar (a0 : DL00Src) : Option (DValue × DL00Src) := ((B_spec_l00Src_pick a0 7).bind fun y1 => (((if (decide (y1.1 = 0)) = true then (some (decide (y1.1 = 0))) else (some (decide (y1.1 = 1)))) : Option Bool).bind fun y2 => (if y2 = true then ((B_spec_l00Src_pick y1.2 12).bind fun y3 => (some ((⟨2, (IntKind.i64.wrap (y3.1 - 3)), ⟨#[]⟩, 0⟩ : DValue), y3.2))) else (if (decide (y1.1 = 2)) = true then ((B_spec_l00Src_text y1.2 (⟨false, [⟨#[114, 101, 109]⟩, ⟨#[108, 101, 110, 40, 50, 41]⟩]⟩)).bind fun y4 => (some ((⟨3, 0, y4.1, 0⟩ : DValue), y4.2.1))) else (if (decide (y1.1 = 3)) = true then ((B_spec_l00Src_text y1.2 (⟨false, [⟨#[88]⟩, ⟨#[89, 49]⟩]⟩)).bind fun y5 => (some ((⟨7, 0, y5.1, 0⟩ : DValue), y5.2.1))) else (if (decide (y1.1 = 4)) = true then ((B_spec_l00Src_text y1.2 (⟨false, [⟨#[88]⟩, ⟨#[89, 49]⟩]⟩)).bind fun y6 => (some ((⟨8, 0, y6.1, 0⟩ : DValue), y6.2.1))) else ((B_spec_l00Src_text y1.2 (⟨false, [⟨#[]⟩, ⟨#[97]⟩, ⟨#[98]⟩, ⟨#[49, 50]⟩, ⟨#[108, 101, 102, 116]⟩, ⟨#[88]⟩]⟩)).bind fun y7 => (some ((⟨1, 0, y7.1, 0⟩ : DValue), y7.2.1)))))))))
theorem u_spec_l07DrawScalar (a0 : DL00Src) (r : (DValue × DL00Src)) (h : B_spec_l07DrawScalar a0 = some r) (bp0 : Nat) : RawS Tryd.prog md ext 53 [.ptr bp0 0 0 3] 0 (fun hs => E_DValue r.1) [.box bp0 (DL00Src.cells a0)] (fun hs => [.box bp0 (DL00Src.cells r.2)]) := by
 unfold B_spec_l07DrawScalar at h
 refine rawS_of rfl rfl ok_53 rfl ?_
 intro σ0 σ F σk s hS hH
 have hS := sub_to (L' := [(0, .ptr bp0 0 0 3)]) hS (by kernel_rfl)
 refine t_go h hS hH ?_
 refine t_R ?_
 refine k_alloc fun b1 => ?_
 refine t_N ?_
 refine t_RU 1 ?_
 refine t_h Heap.up1 ?_
 refine k_callR (fun y1 hs hy1 hl => ?_) (hr := by exact fun y1 hy1 => u_spec_l00Src_pick _ _ y1 hy1 bp0)
 obtain rfl := len0 hl
 refine t_lit ?_
 refine t_N ?_
 refine t_RN ?_
 refine t_cut 0 (fun y2 e fr => e = .normal ∧ Sub [(0, .ptr bp0 0 0 3), (2, .ptr b1 0 0 4), (4, i4 y1.1), (5, .bool y2)] fr.s ∧ Heap σ0 fr.σ [.box bp0 (DL00Src.cells y1.2), .box b1 [i4 0, i4 0, .str ⟨#[]⟩, i4 0], .keep F σk]) (fun y2 e fr h HF => ?_) fun y2 => ?_
 ·obtain ⟨s, σ⟩ := fr
  obtain ⟨rfl, hS, hH⟩ := HF
  refine t_bx h hS hH ?_
  refine t_if (fun hc1 => ?_) fun hc1 => ?_
  ·refine t_RU 1 ?_
   refine k_callR (fun y3 hs hy3 hl => ?_) (hr := by exact fun y3 hy3 => u_spec_l00Src_pick _ _ y3 hy3 bp0)
   obtain rfl := len0 hl
   refine t_lit ?_
   refine t_U 2 ?_
   refine k_storeA 1 ?_
   refine t_N ?_
   intro h s σ hS hH
   injection h with h; subst h
   exact end_M [] (r_cell (v := .agg [i4 2, i4 (IntKind.i64.wrap (y3.1 - 3)), .str ⟨#[]⟩, i4 0]) hS hH rfl (by kernel_rfl) r_nil) rfl rfl (Heap.sel hH [1, 2] rfl (by kernel_rfl))
  refine t_RN ?_
  refine t_if (fun hc2 => ?_) fun hc2 => ?_
  ·refine t_RU 1 ?_
   refine k_bs (z := true) (⟨false, [⟨#[114, 101, 109]⟩, ⟨#[108, 101, 110, 40, 50, 41]⟩]⟩ : Sl ByteArray) (fun t1 ht1 => ?_)
   refine t_h Heap.up1 ?_
   refine k_callR (fun y4 hs hy4 hl => ?_) (hr := by exact fun y4 hy4 => u_spec_l00Src_text _ _ y4 hy4 bp0 1 t1)
   obtain rfl := len0 hl
   refine t_lit ?_
   refine t_U 1 ?_
   refine k_storeA 2 ?_
   refine t_N ?_
   intro h s σ hS hH
   injection h with h; subst h
   exact end_M [] (r_cell (v := .agg [i4 3, i4 0, .str y4.1, i4 0]) hS hH rfl (by kernel_rfl) r_nil) rfl rfl (Heap.sel hH [1, 3] rfl (by kernel_rfl))
  refine t_RN ?_
  refine t_if (fun hc3 => ?_) fun hc3 => ?_
  ·refine t_RU 1 ?_
   refine k_bs (z := true) (⟨false, [⟨#[88]⟩, ⟨#[89, 49]⟩]⟩ : Sl ByteArray) (fun t2 ht2 => ?_)
   refine t_h Heap.up1 ?_
   refine k_callR (fun y5 hs hy5 hl => ?_) (hr := by exact fun y5 hy5 => u_spec_l00Src_text _ _ y5 hy5 bp0 1 t2)
   obtain rfl := len0 hl
   refine t_lit ?_
   refine t_U 1 ?_
   refine k_storeA 2 ?_
   refine t_N ?_
   intro h s σ hS hH
   injection h with h; subst h
   exact end_M [] (r_cell (v := .agg [i4 7, i4 0, .str y5.1, i4 0]) hS hH rfl (by kernel_rfl) r_nil) rfl rfl (Heap.sel hH [1, 3] rfl (by kernel_rfl))
  refine t_RN ?_
  refine t_if (fun hc4 => ?_) fun hc4 => ?_
  ·refine t_RU 1 ?_
   refine k_bs (z := true) (⟨false, [⟨#[88]⟩, ⟨#[89, 49]⟩]⟩ : Sl ByteArray) (fun t3 ht3 => ?_)
   refine t_h Heap.up1 ?_
   refine k_callR (fun y6 hs hy6 hl => ?_) (hr := by exact fun y6 hy6 => u_spec_l00Src_text _ _ y6 hy6 bp0 1 t3)
   obtain rfl := len0 hl
   refine t_lit ?_
   refine t_U 1 ?_
   refine k_storeA 2 ?_
   refine t_N ?_
   intro h s σ hS hH
   injection h with h; subst h
   exact end_M [] (r_cell (v := .agg [i4 8, i4 0, .str y6.1, i4 0]) hS hH rfl (by kernel_rfl) r_nil) rfl rfl (Heap.sel hH [1, 3] rfl (by kernel_rfl))
  refine t_RU 1 ?_
  refine k_bs (z := true) (⟨false, [⟨#[]⟩, ⟨#[97]⟩, ⟨#[98]⟩, ⟨#[49, 50]⟩, ⟨#[108, 101, 102, 116]⟩, ⟨#[88]⟩]⟩ : Sl ByteArray) (fun t4 ht4 => ?_)
  refine t_h Heap.up1 ?_
  refine k_callR (fun y7 hs hy7 hl => ?_) (hr := by exact fun y7 hy7 => u_spec_l00Src_text _ _ y7 hy7 bp0 1 t4)
  obtain rfl := len0 hl
  refine t_lit ?_
  refine t_U 1 ?_
  refine k_storeA 2 ?_
  refine t_N ?_
  intro h s σ hS hH
  injection h with h; subst h
  exact end_M [] (r_cell (v := .agg [i4 1, i4 0, .str y7.1, i4 0]) hS hH rfl (by kernel_rfl) r_nil) rfl rfl (Heap.sel hH [1, 3] rfl (by kernel_rfl))
 refine t_if (fun hc5 => ?_) fun hc5 => ?_
 ·exact t_e fun he hS hH => he ▸ And.intro rfl (And.intro (sub_to hS (by kernel_rfl)) hH)
 refine t_RN ?_
 exact t_e fun he hS hH => he ▸ And.intro rfl (And.intro (sub_to hS (by kernel_rfl)) hH)
noncomputable def B_spec_l21DrawValue (a0 : DL00Src) : Option (DValue × DL00Src) := ((B_spec_l00Src_one a0 12).bind fun y1 => (if y1.1 = true then ((B_spec_l00Src_pick y1.2 10).bind fun y2 => ((B_spec_l00Src_pick y2.2 3).bind fun y3 => (some ((⟨y2.1, y3.1, ⟨#[]⟩, 0⟩ : DValue), y3.2)))) else ((B_spec_l00Src_one y1.2 6).bind fun y4 => (if y4.1 = true then ((B_spec_l00Src_pick y4.2 3).bind fun y5 => ((B_spec_l00Src_pick y5.2 9).bind fun y6 => (some ((⟨(IntKind.i64.wrap (4 + y5.1)), 0, ⟨#[]⟩, (IntKind.i64.wrap (1 + y6.1))⟩ : DValue), y6.2)))) else ((B_spec_l07DrawScalar y4.2).bind fun y7 => (some (y7.1, y7.2)))))))
theorem u_spec_l21DrawValue (a0 : DL00Src) (r : (DValue × DL00Src)) (h : B_spec_l21DrawValue a0 = some r) (bp0 : Nat) : RawS Tryd.prog md ext 27 [.ptr bp0 0 0 3] 0 (fun hs => E_DValue r.1) [.box bp0 (DL00Src.cells a0)] (fun hs => [.box bp0 (DL00Src.cells r.2)]) := by
 unfold B_spec_l21DrawValue at h
 refine rawS_of rfl rfl ok_27 rfl ?_
 intro σ0 σ F σk s hS hH
 have hS := sub_to (L' := [(0, .ptr bp0 0 0 3)]) hS (by kernel_rfl)
 refine t_go h hS hH ?_
 refine t_R ?_
 refine k_alloc fun b1 => ?_
 refine t_N ?_
 refine t_RU 1 ?_
 refine t_h Heap.up1 ?_
 refine k_callR (fun y1 hs hy1 hl => ?_) (hr := by exact fun y1 hy1 => u_spec_l00Src_one _ _ y1 hy1 bp0)
 obtain rfl := len0 hl
 refine t_lit ?_
 refine t_N ?_
 refine t_if (fun hc1 => ?_) fun hc1 => ?_
 ·refine t_RU 1 ?_
  refine k_callR (fun y2 hs hy2 hl => ?_) (hr := by exact fun y2 hy2 => u_spec_l00Src_pick _ _ y2 hy2 bp0)
  obtain rfl := len0 hl
  refine t_lit ?_
  refine t_U 1 ?_
  refine k_callR (fun y3 hs hy3 hl => ?_) (hr := by exact fun y3 hy3 => u_spec_l00Src_pick _ _ y3 hy3 bp0)
  obtain rfl := len0 hl
  refine t_lit ?_
  refine t_U 1 ?_
  refine k_storeA 1 ?_
  refine t_N ?_
  intro h s σ hS hH
  injection h with h; subst h
  exact end_M [] (r_cell (v := .agg [i4 y2.1, i4 y3.1, .str ⟨#[]⟩, i4 0]) hS hH rfl (by kernel_rfl) r_nil) rfl rfl (Heap.sel hH [1, 2] rfl (by kernel_rfl))
 refine t_RU 1 ?_
 refine k_callR (fun y4 hs hy4 hl => ?_) (hr := by exact fun y4 hy4 => u_spec_l00Src_one _ _ y4 hy4 bp0)
 obtain rfl := len0 hl
 refine t_lit ?_
 refine t_N ?_
 refine t_if (fun hc2 => ?_) fun hc2 => ?_
 ·refine t_RU 1 ?_
  refine k_callR (fun y5 hs hy5 hl => ?_) (hr := by exact fun y5 hy5 => u_spec_l00Src_pick _ _ y5 hy5 bp0)
  obtain rfl := len0 hl
  refine t_lit ?_
  refine t_U 2 ?_
  refine k_callR (fun y6 hs hy6 hl => ?_) (hr := by exact fun y6 hy6 => u_spec_l00Src_pick _ _ y6 hy6 bp0)
  obtain rfl := len0 hl
  refine t_lit ?_
  refine t_U 2 ?_
  refine k_storeA 1 ?_
  refine t_N ?_
  intro h s σ hS hH
  injection h with h; subst h
  exact end_M [] (r_cell (v := .agg [i4 (IntKind.i64.wrap (4 + y5.1)), i4 0, .str ⟨#[]⟩, i4 (IntKind.i64.wrap (1 + y6.1))]) hS hH rfl (by kernel_rfl) r_nil) rfl rfl (Heap.sel hH [1, 2] rfl (by kernel_rfl))
 refine t_RU 1 ?_
 refine k_callR (fun y7 hs hy7 hl => ?_) (hr := by exact fun y7 hy7 => u_spec_l07DrawScalar _ y7 hy7 bp0)
 obtain rfl := len0 hl
 refine t_lit ?_
 refine k_storeA 1 ?_
 refine t_N ?_
 intro h s σ hS hH
 injection h with h; subst h
 exact end_M [] (r_cell (v := .agg (DValue.cells y7.1)) hS hH rfl (by kernel_rfl) r_nil) rfl rfl (Heap.sel hH [1, 2] rfl (by kernel_rfl))
noncomputable def B_spec_DrawAddTrace (a0 : (Sl (Iv .u8))) : Option (DConsole × Int × Int × ByteArray × DValue) := ((B_spec_l21DrawBent (⟨a0, 0, 0⟩ : DL00Src) 9).bind fun y1 => ((B_spec_l00Src_pick y1.2 7).bind fun y2 => ((B_spec_l00Src_among y2.2 (⟨false, [⟨1⟩, ⟨2⟩, ⟨17⟩, ⟨1000⟩, ⟨1001⟩, ⟨0⟩, ⟨80⟩, ⟨999⟩]⟩)).bind fun y3 => ((B_spec_l21DrawName y3.2.1).bind fun y4 => ((B_spec_l21DrawValue y4.2).bind fun y5 => (some (y1.1, y2.1, y3.1, y4.1, y5.1)))))))
theorem u_spec_DrawAddTrace (a0 : (Sl (Iv .u8))) (r : (DConsole × Int × Int × ByteArray × DValue)) (h : B_spec_DrawAddTrace a0 = some r) : F_spec_DrawAddTrace a0 = some r := by
 unfold B_spec_DrawAddTrace at h
 refine k_W ok_7 E_t5_DConsole_i64_i64_str_DValue_inj h (fun σ0 => ?_)
 refine t_R ?_
 refine k_alloc fun b1 => ?_
 refine t_U 3 ?_
 refine k_alloc fun b2 => ?_
 refine t_N ?_
 refine t_RU 1 ?_
 refine k_inl ok_22 ?_
 refine t_RN ?_
 refine t_RU 2 ?_
 refine k_box (fun b3 => ?_)
 refine t_N ?_
 refine k_eI (rT rN) ?_
 refine t_N ?_
 refine t_RU 1 ?_
 refine k_callR (fun y1 hs hy1 hl => ?_) (hr := by exact fun y1 hy1 => u_spec_l21DrawBent _ _ y1 hy1 b3)
 obtain ⟨t1, t2, t3, t4, rfl⟩ := len4 hl
 refine t_lit ?_
 refine t_one 0 fun ht1 => ?_
 refine t_one 1 fun ht2 => ?_
 refine t_one 2 fun ht3 => ?_
 refine t_one 3 fun ht4 => ?_
 refine k_alloc fun b4 => ?_
 refine k_storeA 0 ?_ (h1 := by simp [ht1.1, ht1.2, ht2.1, ht2.2, ht3.1, ht3.2, ht4.1, ht4.2])
 refine t_N ?_
 refine t_RU 1 ?_
 refine t_h Heap.up5 ?_
 refine k_callR (fun y2 hs hy2 hl => ?_) (hr := by exact fun y2 hy2 => u_spec_l00Src_pick _ _ y2 hy2 b3)
 obtain rfl := len0 hl
 refine t_lit ?_
 refine t_N ?_
 refine t_RU 1 ?_
 refine k_bs (z := true) (⟨false, [⟨1⟩, ⟨2⟩, ⟨17⟩, ⟨1000⟩, ⟨1001⟩, ⟨0⟩, ⟨80⟩, ⟨999⟩]⟩ : Sl (Iv .i64)) (fun t5 ht5 => ?_)
 refine t_h Heap.up1 ?_
 refine k_callR (fun y3 hs hy3 hl => ?_) (hr := by exact fun y3 hy3 => u_spec_l00Src_among _ _ y3 hy3 b3 1 t5)
 obtain rfl := len0 hl
 refine t_lit ?_
 refine t_N ?_
 refine t_RU 1 ?_
 refine k_callR (fun y4 hs hy4 hl => ?_) (hr := by exact fun y4 hy4 => u_spec_l21DrawName _ y4 hy4 b3)
 obtain rfl := len0 hl
 refine t_lit ?_
 refine t_N ?_
 refine t_chain [(5, (RB b4 RN)), (6, RN), (10, RN)] ext_x fun mb σs hn0 hlt hlto => ?_
 have hlt_b4 : b4 < mb := hlt b4 _ (List.Mem.tail _ (List.Mem.tail _ (List.Mem.head _)))
 refine k_load 2 ?_ (hlt := by exact (Or.inr ⟨hlt_b4, (Wc.cons (.inr (Or.inl rfl)) (Wc.cons (.inl (by kernel_rfl)) (Wc.cons (.inl (by kernel_rfl)) Wc.nil)))⟩))
 refine t_U 4 ?_
 refine k_callRX (RB b4 RN) ext_x (Stay.box (List.Mem.tail _ (List.Mem.head _)) Stay.nil) (by exact fun x hx => Or.inr ⟨5, by kernel_rfl, hx⟩) (fun y5 hs hy5 hl => ?_) (hr := by exact fun y5 hy5 => u_spec_l21DrawValue _ y5 hy5 b3)
 obtain rfl := len0 hl
 refine t_lit ?_
 refine k_storeA 8 ?_ (h1 := by simp [ht1.1, ht1.2, ht2.1, ht2.2, ht3.1, ht3.2, ht4.1, ht4.2]) (hwr := by exact fun hH => Or.inr ⟨6, by kernel_rfl, fun h => h⟩)
 refine t_U 3 ?_
 refine k_storeA 8 ?_ (hwr := by exact fun hH => Or.inr ⟨10, by kernel_rfl, fun h => h⟩)
 refine t_N ?_
 intro h s σ hS hH
 injection h with h; subst h
 have hH := hH.up8.up8.up8.up8
 exact end_H (ents := [.own true 1 t1 y1.1.Input.t, .own true 1 t2 y1.1.Output.t, .own true 4 t3 y1.1.Files.t, .own true 1 t4 y1.1.Trace.t]) (z := false) hH (r_cell (v := .agg [t1, i4 y1.1.At, t2, t3, t4]) hS (hH.at 5 rfl) rfl (by kernel_rfl) (r_tmp (v := i4 y2.1) hS rfl (r_tmp (v := i4 y3.1) hS rfl (r_tmp (v := .str y4.1) hS rfl (r_cell (v := .agg (DValue.cells y5.1)) hS (hH.at 4 rfl) rfl (by kernel_rfl) r_nil))))) (HL.tup (es1 := [.own true 1 t1 y1.1.Input.t, .own true 1 t2 y1.1.Output.t, .own true 4 t3 y1.1.Files.t, .own true 1 t4 y1.1.Trace.t]) (es2 := []) (HL.agg (es1 := [.own true 1 t1 y1.1.Input.t, .own true 1 t2 y1.1.Output.t, .own true 4 t3 y1.1.Files.t, .own true 1 t4 y1.1.Trace.t]) (es2 := []) (HL.own rfl (HLi (HL.own rfl (HL.own rfl (HL.own rfl HL.nil))))) (HLi (HLi (HLs (HL.agg (es1 := []) (es2 := []) (HLi (HLi (HLs (HLi HL.nil)))) HL.nil))))) HL.nil) (by simp [pureT, pureL, E_t5_DConsole_i64_i64_str_DValue, DConsole.cells, DValue.cells])
noncomputable def B_impl_TraceText (a0 : Int) (a1 : Int) (a2 : ByteArray) (a3 : DValue) : Option ByteArray := ((F_impl_within a1 1 1000).bind fun y1 => (if (!y1) = true then (some ⟨#[]⟩) else ((F_impl_IsName a2).bind fun y2 => (if (!y2) = true then (some ⟨#[]⟩) else ((F_impl_ValidValue a3).bind fun y3 => (if (!y3) = true then (some ⟨#[]⟩) else ((F_impl_decimal a1).bind fun y4 => ((catB y4 ⟨#[58, 32]⟩).bind fun y5 => (if (decide (a0 = 1)) = true then ((catB y5 a2).bind fun y6 => ((catB y6 ⟨#[32, 61, 32]⟩).bind fun y7 => ((F_impl_Value_text a3).bind fun y8 => ((catB y7 y8).bind fun y9 => (some y9))))) else (if (decide (a0 = 2)) = true then ((catB y5 ⟨#[99, 97, 108, 108, 32]⟩).bind fun y10 => ((catB y10 a2).bind fun y11 => (some y11))) else (if (decide (a0 = 3)) = true then ((catB y5 ⟨#[114, 101, 116, 117, 114, 110, 32]⟩).bind fun y12 => ((catB y12 a2).bind fun y13 => ((catB y13 ⟨#[32, 61, 32]⟩).bind fun y14 => ((F_impl_Value_text a3).bind fun y15 => ((catB y14 y15).bind fun y16 => (some y16)))))) else (if (decide (a0 = 4)) = true then ((catB y5 ⟨#[102, 97, 105, 108, 32]⟩).bind fun y17 => ((catB y17 a2).bind fun y18 => (some y18))) else (if (decide (a0 = 5)) = true then ((catB y5 ⟨#[103, 111, 116, 111, 32]⟩).bind fun y19 => ((catB y19 a2).bind fun y20 => (some y20))) else (some ⟨#[]⟩))))))))))))))
theorem u_impl_TraceText (a0 : Int) (a1 : Int) (a2 : ByteArray) (a3 : DValue) (r : ByteArray) (h : B_impl_TraceText a0 a1 a2 a3 = some r) : F_impl_TraceText a0 a1 a2 a3 = some r := by
 unfold B_impl_TraceText at h
 refine k_W ok_8 E_str_inj h (fun σ0 => ?_)
 refine t_R ?_
 refine k_box (fun b1 => ?_)
 refine t_N ?_
 refine t_RU 1 ?_
 refine k_call fun y1 hy1 => ?_
 refine t_U 2 ?_
 refine t_gif 13 (fun hc1 => ?_) fun hc1 => ?_
 ·refine t_N ?_
  refine t_cT rfl ?_
  refine t_RN ?_
  exact k_eW (rT rN) E_str_p
 refine t_U 1 ?_
 refine k_call fun y2 hy2 => ?_
 refine t_U 3 ?_
 refine t_gif 18 (fun hc2 => ?_) fun hc2 => ?_
 ·refine t_N ?_
  refine t_cT rfl ?_
  refine t_RN ?_
  exact k_eW (rT rN) E_str_p
 refine k_load 0 ?_
 refine k_call fun y3 hy3 => ?_
 refine t_N ?_
 refine t_if (fun hc3 => ?_) fun hc3 => ?_
 ·refine t_RN ?_
  exact k_eW (rT rN) E_str_p
 refine t_RU 1 ?_
 refine k_call fun y4 hy4 => ?_
 refine k_cat fun y5 hy5 => ?_
 refine t_N ?_
 refine t_RN ?_
 refine t_RN ?_
 refine t_if (fun hc4 => ?_) fun hc4 => ?_
 ·refine t_RU 2 ?_
  refine k_cat fun y6 hy6 => ?_
  refine k_cat fun y7 hy7 => ?_
  refine k_load 0 ?_
  refine k_call fun y8 hy8 => ?_
  refine k_cat fun y9 hy9 => ?_
  refine t_N ?_
  exact k_eW (rT rN) E_str_p
 refine t_RN ?_
 refine t_if (fun hc5 => ?_) fun hc5 => ?_
 ·refine t_RU 1 ?_
  refine k_cat fun y10 hy10 => ?_
  refine t_U 1 ?_
  refine k_cat fun y11 hy11 => ?_
  refine t_N ?_
  exact k_eW (rT rN) E_str_p
 refine t_RN ?_
 refine t_if (fun hc6 => ?_) fun hc6 => ?_
 ·refine t_RU 1 ?_
  refine k_cat fun y12 hy12 => ?_
  refine t_U 1 ?_
  refine k_cat fun y13 hy13 => ?_
  refine k_cat fun y14 hy14 => ?_
  refine k_load 0 ?_
  refine k_call fun y15 hy15 => ?_
  refine k_cat fun y16 hy16 => ?_
  refine t_N ?_
  exact k_eW (rT rN) E_str_p
 refine t_RN ?_
 refine t_if (fun hc7 => ?_) fun hc7 => ?_
 ·refine t_RU 1 ?_
  refine k_cat fun y17 hy17 => ?_
  refine t_U 1 ?_
  refine k_cat fun y18 hy18 => ?_
  refine t_N ?_
  exact k_eW (rT rN) E_str_p
 refine t_RN ?_
 refine t_if (fun hc8 => ?_) fun hc8 => ?_
 ·refine t_RU 1 ?_
  refine k_cat fun y19 hy19 => ?_
  refine t_U 1 ?_
  refine k_cat fun y20 hy20 => ?_
  refine t_N ?_
  exact k_eW (rT rN) E_str_p
 refine t_RN ?_
 exact k_eW (rT rN) E_str_p
noncomputable def B_impl_AddTrace (a0 : DConsole) (a1 : Int) (a2 : Int) (a3 : ByteArray) (a4 : DValue) : Option (DConsole × Int) := ((F_impl_TraceText a1 a2 a3 a4).bind fun y1 => ((F_impl_ValidConsole a0).bind fun y2 => (if (!y2) = true then (some ((⟨⟨true, []⟩, 0, ⟨true, []⟩, ⟨true, []⟩, ⟨true, []⟩⟩ : DConsole), 1)) else (if (decide (y1 = (⟨#[]⟩ : ByteArray))) = true then (some ((⟨⟨true, []⟩, 0, ⟨true, []⟩, ⟨true, []⟩, ⟨true, []⟩⟩ : DConsole), 1)) else ((F_impl_Console_copied a0).bind fun y3 => (((if (decide ((y3.Trace.l.length : Int) = 200)) = true then (some (6, y3.Trace)) else ((appS 16 y3.Trace (⟨false, [y1]⟩ : Sl ByteArray)).bind fun y5 => (some (0, y5)))) : Option (Int × (Sl ByteArray))).bind fun y4 => (if (!decide (y4.1 = 0)) = true then (some ((⟨⟨true, []⟩, 0, ⟨true, []⟩, ⟨true, []⟩, ⟨true, []⟩⟩ : DConsole), y4.1)) else (some ((⟨y3.Input, y3.At, y3.Output, y3.Files, y4.2⟩ : DConsole), 0)))))))))
theorem u_impl_AddTrace (a0 : DConsole) (a1 : Int) (a2 : Int) (a3 : ByteArray) (a4 : DValue) (r : (DConsole × Int)) (h : B_impl_AddTrace a0 a1 a2 a3 a4 = some r) : F_impl_AddTrace a0 a1 a2 a3 a4 = some r := by
 unfold B_impl_AddTrace at h
 refine k_W ok_9 E_t2_DConsole_i64_inj h (fun σ0 => ?_)
 refine t_R ?_
 refine k_box (fun b1 => ?_)
 refine k_box (fun b2 => ?_)
 refine k_alloc fun b3 => ?_
 refine t_N ?_
 refine t_RU 3 ?_
 refine k_load 1 ?_
 refine k_call fun y1 hy1 => ?_
 refine t_N ?_
 refine t_R ?_
 refine k_load 2 ?_
 refine k_call fun y2 hy2 => ?_
 refine t_U 2 ?_
 refine t_gif 23 (fun hc1 => ?_) fun hc1 => ?_
 ·refine t_N ?_
  refine t_cT rfl ?_
  refine t_RU 1 ?_
  refine k_storeA 0 ?_
  refine t_N ?_
  exact k_eW (rC 0 (rT rN)) E_t2_DConsole_i64_p
 refine t_N ?_
 refine t_if (fun hc2 => ?_) fun hc2 => ?_
 ·refine t_RU 1 ?_
  refine k_storeA 0 ?_
  refine t_N ?_
  exact k_eW (rC 0 (rT rN)) E_t2_DConsole_i64_p
 refine t_R ?_
 refine k_load 2 ?_
 refine k_callO (fun y3 hs hy3 hl => ?_)
 obtain ⟨t1, t2, t3, t4, rfl⟩ := len4 hl
 refine t_lit ?_
 refine t_one 0 fun ht1 => ?_
 refine t_one 1 fun ht2 => ?_
 refine t_one 2 fun ht3 => ?_
 refine t_one 3 fun ht4 => ?_
 refine k_alloc fun b4 => ?_
 refine k_storeA 0 ?_ (h1 := by simp [ht1.1, ht1.2, ht2.1, ht2.2, ht3.1, ht3.2, ht4.1, ht4.2])
 refine t_N ?_
 refine t_RU 1 ?_
 refine k_inlC (fun y4 s σ => ∃ t5, IsOne t5 ∧ Sub [(10, .ptr b3 0 0 5), (13, .ptr b4 0 0 5), (31, i4 y4.1)] s ∧ Heap σ0 σ [.box b4 [t1, i4 y3.At, t2, t3, t5], .box b3 [(nt ByteArray), i4 0, (nt ByteArray), (nt DFile), (nt ByteArray)], .own true 1 t1 y3.Input.t, .own true 1 t2 y3.Output.t, .own true 4 t3 y3.Files.t, .own true 1 t5 y4.2.t]) ok_35 (fun y4 => ?_) fun y4 s σ HF h => ?_
 ·refine t_RN ?_
  refine t_RU 3 ?_
  refine k_load 0 ?_
  refine k_lenH (a := y3.Trace) 4 ?_
  refine t_N ?_
  refine t_if (fun hc3 => ?_) fun hc3 => ?_
  ·refine t_RN ?_
   exact k_eIC (rT rN) fun he hS hH => he ▸ Exists.intro t4 (And.intro ht4 (And.intro (sub_to hS (by kernel_rfl)) (Heap.sel hH [0, 5, 1, 2, 3, 4] rfl (by kernel_rfl))))
  refine t_RU 4 ?_
  refine k_load 0 ?_
  refine t_U 1 ?_
  refine k_bs (z := true) (⟨false, [y1]⟩ : Sl ByteArray) (fun t6 ht6 => ?_)
  refine k_app 5 0 (fun y5 t7 hy5 ht7 => ?_)
  refine t_U 2 ?_
  refine k_storeT 1 ht7 ?_
  refine t_N ?_
  refine t_RN ?_
  exact k_eIC (rT rN) fun he hS hH => he ▸ Exists.intro t7 (And.intro ht7 (And.intro (sub_to hS (by kernel_rfl)) (Heap.sel hH [0, 5, 2, 3, 4, 1] rfl (by kernel_rfl))))
 obtain ⟨t5, ht5, ⟨hS, hH⟩⟩ := HF
 refine t_bk h hS hH ?_
 refine t_N ?_
 refine t_RN ?_
 refine t_if (fun hc4 => ?_) fun hc4 => ?_
 ·refine t_RU 2 ?_
  refine k_storeA 1 ?_
  refine t_N ?_
  exact k_eW (rC 0 (rT rN)) E_t2_DConsole_i64_p
 refine t_R ?_
 refine k_load 0 ?_
 refine k_storeA 1 ?_ (h1 := by simp [ht1.1, ht1.2, ht2.1, ht2.2, ht3.1, ht3.2, ht5.1, ht5.2])
 refine t_N ?_
 intro h s σ hS hH
 injection h with h; subst h
 have hH := hH.up5.up5.up5.up5
 exact end_H (ents := [.own true 1 t1 y3.Input.t, .own true 1 t2 y3.Output.t, .own true 4 t3 y3.Files.t, .own true 1 t5 y4.2.t]) (z := false) hH (r_cell (v := .agg [t1, i4 y3.At, t2, t3, t5]) hS (hH.at 4 rfl) rfl (by kernel_rfl) (r_tmp (v := i4 0) hS rfl r_nil)) (HL.tup (es1 := [.own true 1 t1 y3.Input.t, .own true 1 t2 y3.Output.t, .own true 4 t3 y3.Files.t, .own true 1 t5 y4.2.t]) (es2 := []) (HL.agg (es1 := [.own true 1 t1 y3.Input.t, .own true 1 t2 y3.Output.t, .own true 4 t3 y3.Files.t, .own true 1 t5 y4.2.t]) (es2 := []) (HL.own rfl (HLi (HL.own rfl (HL.own rfl (HL.own rfl HL.nil))))) (HLi HL.nil)) HL.nil) (by simp [pureT, pureL, E_t2_DConsole_i64, DConsole.cells])
noncomputable def B_laws_b10Texts (a0 : (Sl ByteArray)) (a1 : (Sl ByteArray)) : Option Bool := (if ((!decide ((a0.l.length : Int) = (a1.l.length : Int)))) = true then (some false) else ((loopO (S := Int) (R := (Unit ⊕ Bool)) (fun st1 => (if (decide (st1 < (a0.l.length : Int))) = true then ((elt a0 st1).bind fun y2 => ((elt a1 st1).bind fun y3 => (if (!decide (y2 = y3)) = true then (some (.inr (.inr false))) else (some (.inl (IntKind.i64.wrap (st1 + 1))))))) else (some (.inr (.inl ()))))) 0).bind fun y1 => (Sum.elim (fun y1 => (some true)) (fun y1 => (some y1)) y1)))
theorem u_laws_b10Texts (a0 : (Sl ByteArray)) (a1 : (Sl ByteArray)) (r : Bool) (h : B_laws_b10Texts a0 a1 = some r) : F_laws_b10Texts a0 a1 = some r := by
 unfold B_laws_b10Texts at h
 refine k_W ok_10 E_bool_inj h (fun σ0 => ?_)
 refine t_RN ?_
 refine t_RN ?_
 refine t_if (fun hc1 => ?_) fun hc1 => ?_
 ·refine t_RN ?_
  exact k_eW (rT rN) E_bool_p
 refine t_RN ?_
 refine t_loop (fun st1 fr => Sub [(0, a0.t), (1, a1.t), (5, i4 st1)] fr.s ∧ Heap σ0 fr.σ []) (fun y1 e fr => (Sum.elim (fun y => e = (.exit 0) ∧ Sub [] fr.s ∧ Heap σ0 fr.σ []) (fun y => e = .ret ∧ endW Tryd.prog (Tryd.f10.results.toList) σ0 (E_bool y) .ret fr)) y1) (fun hS hH => And.intro (sub_to hS (by kernel_rfl)) hH) (fun st1 x fr h HI => ?_) fun y1 e fr h HF => ?_
 ·obtain ⟨s, σ⟩ := fr; obtain ⟨hS, hH⟩ := HI
  refine t_bk h hS hH ?_
  refine t_RN ?_
  refine t_if (fun hc2 => ?_) fun hc2 => ?_
  ·refine t_D fun mb => ?_
   refine t_U 2 ?_
   refine k_elt fun y2 rest1 hy2 => ?_
   refine t_U 3 ?_
   refine k_elt fun y3 rest2 hy3 => ?_
   refine t_N ?_
   refine t_if (fun hc3 => ?_) fun hc3 => ?_
   ·refine t_RN ?_
    exact t_e fun he hS hH => he ▸ And.intro rfl (eW hS hH (rT rN) E_bool_p)
   refine t_RN ?_
   exact t_e fun he hS hH => he ▸ And.intro (sub_to hS (by kernel_rfl)) hH
  exact t_e fun he hS hH => he ▸ And.intro rfl (And.intro (sub_to hS (by kernel_rfl)) hH)
 obtain ⟨s, σ⟩ := fr
 rcases y1 with y1 | y1
 ·have h := el_l h
  obtain ⟨rfl, hS, hH⟩ := HF
  refine t_bx h hS hH ?_
  refine t_RN ?_
  exact k_eW (rT rN) E_bool_p
 have h := el_r h
 obtain ⟨rfl, HE⟩ := HF
 injection h with h; subst h; exact HE
noncomputable def B_spec_ValidConsole (a0 : DConsole) : Option Bool := ((F_spec_l21Ok a0).bind fun y1 => (some y1))
theorem u_spec_ValidConsole (a0 : DConsole) (r : Bool) (h : B_spec_ValidConsole a0 = some r) : F_spec_ValidConsole a0 = some r := by
 unfold B_spec_ValidConsole at h
 refine k_W ok_11 E_bool_inj h (fun σ0 => ?_)
 refine t_R ?_
 refine k_box (fun b1 => ?_)
 refine t_N ?_
 refine t_R ?_
 refine k_callL (lB 0 lN) fun y1 hy1 => ?_
 refine t_N ?_
 exact k_eW (rT rN) E_bool_p
noncomputable def B_impl_within (a0 : Int) (a1 : Int) (a2 : Int) : Option Bool := (if (decide (a1 ≤ a0)) = true then (some (decide (a0 ≤ a2))) else (some false))
theorem u_impl_within (a0 : Int) (a1 : Int) (a2 : Int) (r : Bool) (h : B_impl_within a0 a1 a2 = some r) : F_impl_within a0 a1 a2 = some r := by
 unfold B_impl_within at h
 refine k_W ok_28 E_bool_inj h (fun σ0 => ?_)
 refine t_RN ?_
 refine t_RU 4 ?_
 refine t_gif 10 (fun hc1 => ?_) fun hc1 => ?_
 ·refine t_N ?_
  exact k_eW (rT rN) E_bool_p
 refine t_N ?_
 exact k_eW (rT rN) E_bool_p
noncomputable def B_impl_IsName (a0 : ByteArray) : Option Bool := (if (decide (1 ≤ (a0.size : Int))) = true then (if (decide ((a0.size : Int) ≤ 12)) = true then ((byteAt a0 0).bind fun y1 => ((F_impl_isLetter y1).bind fun y2 => (if y2 = true then ((bytesS a0).bind fun y3 => ((F_impl_areAll_byte y3 (T.fn 56 [] [])).bind fun y4 => (some y4))) else (some false)))) else (some false)) else (some false))
theorem u_impl_IsName (a0 : ByteArray) (r : Bool) (h : B_impl_IsName a0 = some r) : F_impl_IsName a0 = some r := by
 unfold B_impl_IsName at h
 refine k_W ok_29 E_bool_inj h (fun σ0 => ?_)
 refine t_RN ?_
 refine t_RU 4 ?_
 refine t_gif 6 (fun hc1 => ?_) fun hc1 => ?_
 ·refine t_U 5 ?_
  refine t_gif 11 (fun hc2 => ?_) fun hc2 => ?_
  ·refine t_U 1 ?_
   refine k_byte fun y1 hy1 => ?_
   refine k_call fun y2 hy2 => ?_
   refine t_U 2 ?_
   refine t_gif 16 (fun hc3 => ?_) fun hc3 => ?_
   ·refine t_U 1 ?_
    intro h s σ hS hH
    obtain ⟨y3, hy3, h⟩ := bind_some h
    refine q_s2b (e := 5) rfl hS hH rfl (by kernel_rfl) (by kernel_rfl) (by kernel_rfl) hy3 ?_; intro t1 σ s ht1 hH hS
    refine t_bk h hS hH ?_
    refine k_callH (fun y4 hy4 => ?_) (hh := by exact HC.of (HL.own rfl (HL.leaf (fun σ d => hold_flat1 (by first | assumption | rfl)) HL.nil)))
    refine t_N ?_
    exact k_eW (rT rN) E_bool_p
   refine t_N ?_
   exact k_eW (rT rN) E_bool_p
  refine t_N ?_
  exact k_eW (rT rN) E_bool_p
 refine t_N ?_
 exact k_eW (rT rN) E_bool_p
end Go.Am
