/- Functions of the program. -/
import Derived.Test.YthpmndnnpnojjaaAd0
set_option maxRecDepth 100000
set_option maxHeartbeats 4000000
set_option linter.unusedVariables false
set_option linter.unusedSimpArgs false
namespace Go.Am
open Go.Proofs
noncomputable def eF_ (a0 : Int) (a1 : (Sl (Iv .u8))) : Option (Sl (Iv .u8)) := ((appS 1 ((⟨false, [⟨(IntKind.u8.wrap a0)⟩]⟩ : Sl (Iv .u8))) a1).bind fun y1 => (some y1))
theorem i3_ (a0 : Int) (a1 : (Sl (Iv .u8))) (r : (Sl (Iv .u8))) (h : eF_ a0 a1 = some r) : eT_ a0 a1 = some r := by
 unfold eF_ at h
 refine k_W ok_33 E_sl_u8_inj h (fun σ0 => ?_)
 refine t_RN ?_
 refine t_RU 2 ?_
 refine k_bs (z := true) (⟨false, [⟨(IntKind.u8.wrap a0)⟩]⟩ : Sl (Iv .u8)) (fun t1 ht1 => ?_)
 refine t_U 1 ?_
 refine no_ 0 (fun y1 t2 hy1 ht2 => ?_)
 refine t_N ?_
 intro h s σ hS hH
 obtain rfl := si_1 h
 exact o4_ (ents := [.own true 1 t2 y1.t]) (z := false) hH (bg_ (v := t2) hS rfl r_nil) (HL.own rfl HL.nil) (by simp [pureT, pureL, E_sl_u8])
noncomputable def ef_ (a0 : (Sl an_)) (a1 : DPattern) (a2 : ByteArray) (a3 : Int) (a4 : Int) : Option ((Sl (Iv .i64)) × Int) := ((cy_ a0 a1 a2 a4).bind fun y1 => ((a8_ a3 0 (a2.size : Int)).bind fun y2 => ((cn_ y2 3).bind fun y3 => ((dM_ (⟨false, [⟨y1⟩, ⟨y3⟩]⟩)).bind fun y4 => (if (!decide (y4 = 0)) = true then (some (⟨true, []⟩, y4)) else ((cg_ a0 a1 a2 (⟨false, [⟨a3⟩]⟩) a4).bind fun y5 => (if (!decide (y5.2 = 0)) = true then (some (⟨true, []⟩, y5.2)) else ((ar_ (S := (Int × (Sl (Iv .i64)))) (R := (Sl (Iv .i64))) (fun st1 => (if (decide (st1.1 < (y5.1.l.length : Int))) = true then ((elt y5.1 st1.1).bind fun y7 => ((appS 8 st1.2 (⟨false, [⟨y7.End⟩]⟩ : Sl (Iv .i64))).bind fun y8 => (some (.inl ((w4 (st1.1 + 1)), y8))))) else (some (.inr st1.2)))) (0, (⟨false, []⟩ : Sl (Iv .i64)))).bind fun y6 => (some (y6, 0))))))))))
theorem h4_ (a0 : (Sl an_)) (a1 : DPattern) (a2 : ByteArray) (a3 : Int) (a4 : Int) (r : ((Sl (Iv .i64)) × Int)) (h : ef_ a0 a1 a2 a3 a4 = some r) : ct_ a0 a1 a2 a3 a4 = some r := by
 unfold ef_ at h
 refine k_W ok_44 E_t2_sl_i64_i64_inj h (fun σ0 => ?_)
 refine t_R ?_
 refine cU_ (fun b1 => ?_)
 refine t_N ?_
 refine t_RU 1 ?_
 refine ac_ 0 ?_
 refine t_U 2 ?_
 refine af_ fun y1 hy1 => ?_
 refine t_U 3 ?_
 refine af_ fun y2 hy2 => ?_
 refine af_ fun y3 hy3 => ?_
 refine k_bs (z := true) (⟨false, [⟨y1⟩, ⟨y3⟩]⟩ : Sl (Iv .i64)) (fun t1 ht1 => ?_)
 refine jH_ (fun y4 hy4 => ?_)
 refine t_N ?_
 refine t_RN ?_
 refine t_if (fun hc1 => ?_) fun hc1 => ?_
 ·refine t_RN ?_
  exact k_eW (rT (rT rN)) E_t2_sl_i64_i64_p
 refine t_RU 1 ?_
 refine ac_ 1 ?_
 refine t_U 2 ?_
 refine k_bs (z := true) (⟨false, [⟨a3⟩]⟩ : Sl (Iv .i64)) (fun t2 ht2 => ?_)
 refine t_U 1 ?_
 refine mq_ (fun y5 t3 hy5 ht3 => ?_)
 refine t_N ?_
 refine t_RN ?_
 refine t_if (fun hc2 => ?_) fun hc2 => ?_
 ·refine t_RN ?_
  exact k_eW (rT (rT rN)) E_t2_sl_i64_i64_p
 refine t_R ?_
 refine qo_ (α := (Iv .i64)) (fun t4 ht4 => ?_)
 refine t_N ?_
 refine t_RU 1 ?_
 refine is_ (a := y5.1) 1 ?_
 refine t_N ?_
 refine ay_ (fun st1 fr => ∃ t6, al_ t6 ∧ Sub [(15, t6), (47, t3), (48, i4 (y5.1.l.length : Int)), (49, i4 st1.1)] fr.s ∧ Heap σ0 fr.σ [.own true 1 t6 st1.2.t, .own true 3 t3 y5.1.t]) (fun y6 e fr => ∃ t7, al_ t7 ∧ e = (.exit 0) ∧ Sub [(15, t7)] fr.s ∧ Heap σ0 fr.σ [.own true 1 t7 y6.t]) (fun hS hH => ⟨t4, ht4, (aa_ hS (by kernel_rfl)), (Heap.sel hH [0, 1] rfl (by kernel_rfl))⟩) (fun st1 x fr h HI => ?_) fun y6 e fr h HF => ?_
 ·obtain ⟨s, σ⟩ := fr; obtain ⟨t6, ht6, ⟨hS, hH⟩⟩ := HI
  refine t_bk h hS hH ?_
  refine t_RN ?_
  refine t_if (fun hc3 => ?_) fun hc3 => ?_
  ·refine t_R ?_
   refine nc_ 1 (fun hb1 hb1e y7 hy7 hl_hb1 => ?_)
   refine t_h Heap.up1 ?_
   intro h s σ hS hH
   refine mS_ (a := y5.1) (j := st1.1) (y := y7) (off := 2) (c := [i4 y7.Start, i4 y7.End, y7.Captures.t]) (q := (y7.Captures : Sl ad_)) (fun _ _ _ _ _ => trivial) rfl hS hH hl_hb1 rfl hy7 rfl (by kernel_rfl) (by kernel_rfl) rfl (by kernel_rfl) (by kernel_rfl) (by kernel_rfl) ?_; intro F1 σk1 t8 s ht8 hH hcl1 hcl1s hcl1p hcl1k hcl1f hS
   refine t_bk h hS hH ?_
   refine eq_ fun b2 => ?_
   refine ch_ 0 ?_ (h1 := by simp [ht8.1, ht8.2])
   refine t_h (·.up2.up2) ?_
   intro h s σ hS hH
   have hH := hcl1s _ _ hH
   have hH : Heap σ0 σ [.own true 3 t3 y5.1.t, .box b2 [i4 y7.Start, i4 y7.End, t8], .own true 1 t6 st1.2.t] := hH
   refine t_bk h hS hH ?_
   refine t_N ?_
   refine t_RU 2 ?_
   refine ac_ 1 ?_
   refine k_bs (z := true) (⟨false, [⟨y7.End⟩]⟩ : Sl (Iv .i64)) (fun t9 ht9 => ?_)
   refine oh_ 3 0 (fun y8 t10 hy8 ht10 => ?_)
   refine t_N ?_
   refine t_RN ?_
   exact t_e fun he hS hH => he ▸ ⟨t10, ht10, (aa_ hS (by kernel_rfl)), (Heap.sel hH [0, 1] rfl (by kernel_rfl))⟩
  exact t_e fun he hS hH => he ▸ ⟨t6, ht6, rfl, (aa_ hS (by kernel_rfl)), (Heap.sel hH [0] rfl (by kernel_rfl))⟩
 obtain ⟨s, σ⟩ := fr
 obtain ⟨t7, ht7, ⟨rfl, hS, hH⟩⟩ := HF
 refine t_bx h hS hH ?_
 refine t_RN ?_
 intro h s σ hS hH
 obtain rfl := si_1 h
 exact o4_ (ents := [.own true 1 t7 y6.t]) (z := false) hH (bg_ (v := t7) hS rfl (bg_ (v := i4 0) hS rfl r_nil)) (HL.tup (es1 := [.own true 1 t7 y6.t]) (es2 := []) (HL.own rfl (HLi HL.nil)) HL.nil) (by simp [pureT, pureL, E_t2_sl_i64_i64])
noncomputable def a4_ (a0 : aq_) : Option (Int × aq_) := (((if (decide (a0.at_ < (a0.code_.l.length : Int))) = true then ((elt a0.code_ a0.at_).bind fun y2 => (some (w4 y2.v))) else (some 0)) : Option Int).bind fun y1 => (if ((decide ((w4 (a0.at_ + 1)) ≤ (a0.code_.l.length : Int)))) = true then (some (y1, (⟨a0.code_, (w4 (a0.at_ + 1)), (IntKind.u64.wrap ((IntKind.u64.wrap ((IntKind.u64.wrap (a0.seed_ * 6364136223846793005)) + (IntKind.u64.wrap y1))) + 1442695040888963407))⟩ : aq_))) else (some ((w4 ((andI .u64 ((((IntKind.u64.wrap ((IntKind.u64.wrap ((IntKind.u64.wrap (a0.seed_ * 6364136223846793005)) + (IntKind.u64.wrap y1))) + 1442695040888963407))).fdiv (2 ^ 40))) 255))), (⟨a0.code_, (w4 (a0.at_ + 1)), (IntKind.u64.wrap ((IntKind.u64.wrap ((IntKind.u64.wrap (a0.seed_ * 6364136223846793005)) + (IntKind.u64.wrap y1))) + 1442695040888963407))⟩ : aq_)))))
theorem dO_ (a0 : aq_) (r : (Int × aq_)) (h : a4_ a0 = some r) (bp0 : Nat) : RawS Try.prog md ext 120 [.ptr bp0 0 0 3] 0 (fun hs => E_i64 r.1) [.box bp0 (aq_.cells a0)] (fun hs => [.box bp0 (aq_.cells r.2)]) := by
 unfold a4_ at h
 refine cm_ rfl rfl ok_120 rfl ?_
 intro σ0 σ F σk s hS hH
 have hS := aa_ (L' := [(0, .ptr bp0 0 0 3)]) hS (by kernel_rfl)
 refine t_go h hS hH ?_
 refine t_RN ?_
 refine t_RN ?_
 refine t_D fun mb => ?_
 refine t_U 3 ?_
 refine ac_ 0 ?_
 refine t_U 3 ?_
 refine ac_ 0 ?_
 refine t_N ?_
 refine bd_ 0 (fun y1 e fr => e = .normal ∧ Sub [(0, .ptr bp0 0 0 3), (3, i4 y1)] fr.s ∧ Heap σ0 fr.σ [.box bp0 (aq_.cells a0), .keep F σk]) (fun y1 e fr h HF => ?_) fun y1 => ?_
 ·obtain ⟨s, σ⟩ := fr
  obtain ⟨rfl, hS, hH⟩ := HF
  refine t_bx h hS hH ?_
  refine t_RU 3 ?_
  refine ac_ 0 ?_
  refine t_U 3 ?_
  refine aI_ 0 ?_
  refine t_N ?_
  refine t_RU 4 ?_
  refine ac_ 0 ?_
  refine t_U 7 ?_
  refine aI_ 0 ?_
  refine t_N ?_
  refine t_D fun mb => ?_
  refine t_U 3 ?_
  refine ac_ 0 ?_
  refine t_U 3 ?_
  refine ac_ 0 ?_
  refine t_N ?_
  refine t_if (fun hc1 => ?_) fun hc1 => ?_
  ·refine t_RN ?_
   intro h s σ hS hH
   obtain rfl := si_1 h
   exact aM_ [] (bg_ (v := i4 y1) hS rfl r_nil) rfl rfl hH
  refine t_RU 3 ?_
  refine ac_ 0 ?_
  refine t_N ?_
  intro h s σ hS hH
  obtain rfl := si_1 h
  exact aM_ [] (bg_ (v := i4 ((w4 ((andI .u64 ((((IntKind.u64.wrap ((IntKind.u64.wrap ((IntKind.u64.wrap (a0.seed_ * 6364136223846793005)) + (IntKind.u64.wrap y1))) + 1442695040888963407))).fdiv (2 ^ 40))) 255))))) hS rfl r_nil) rfl rfl hH
 refine t_if (fun hc2 => ?_) fun hc2 => ?_
 ·refine t_D fun mb => ?_
  refine t_U 3 ?_
  refine ac_ 0 ?_
  refine t_U 3 ?_
  refine ac_ 0 ?_
  refine aF_ fun y2 rest1 hy2 => ?_
  refine t_N ?_
  exact t_e fun he hS hH => he ▸ ⟨rfl, (aa_ hS (by kernel_rfl)), hH⟩
 exact t_e fun he hS hH => he ▸ ⟨rfl, (aa_ hS (by kernel_rfl)), hH⟩
noncomputable def aW_ (a0 : aq_) (a1 : Int) : Option (Int × aq_) := (if (decide (a1 ≤ 1)) = true then (some (0, a0)) else ((a4_ a0).bind fun y1 => (if (decide (200 < a1)) = true then ((a4_ y1.2).bind fun y2 => ((remI (w4 ((w4 (y1.1 * 256)) + y2.1)) a1).bind fun y3 => (some (y3, y2.2)))) else ((remI y1.1 a1).bind fun y4 => (some (y4, y1.2))))))
theorem cr_ (a0 : aq_) (a1 : Int) (r : (Int × aq_)) (h : aW_ a0 a1 = some r) (bp0 : Nat) : RawS Try.prog md ext 77 [.ptr bp0 0 0 3, i4 a1] 0 (fun hs => E_i64 r.1) [.box bp0 (aq_.cells a0)] (fun hs => [.box bp0 (aq_.cells r.2)]) := by
 unfold aW_ at h
 refine cm_ rfl rfl ok_77 rfl ?_
 intro σ0 σ F σk s hS hH
 have hS := aa_ (L' := [(0, .ptr bp0 0 0 3), (1, i4 a1)]) hS (by kernel_rfl)
 refine t_go h hS hH ?_
 refine t_RN ?_
 refine t_RN ?_
 refine t_if (fun hc1 => ?_) fun hc1 => ?_
 ·refine t_RN ?_
  intro h s σ hS hH
  obtain rfl := si_1 h
  exact aM_ [] (bg_ (v := i4 0) hS rfl r_nil) rfl rfl hH
 refine t_RU 1 ?_
 refine aT_ (fun y1 hs hy1 hl => ?_) (hr := by exact fun y1 hy1 => dO_ _ y1 hy1 bp0)
 obtain rfl := len0 hl
 refine bK_ ?_
 refine t_N ?_
 refine t_RN ?_
 refine t_if (fun hc2 => ?_) fun hc2 => ?_
 ·refine t_RU 3 ?_
  refine aT_ (fun y2 hs hy2 hl => ?_) (hr := by exact fun y2 hy2 => dO_ _ y2 hy2 bp0)
  obtain rfl := len0 hl
  refine bK_ ?_
  refine t_N ?_
  refine t_RU 2 ?_
  intro h s σ hS hH
  obtain ⟨y3, hy3, h⟩ := bind_some h
  refine nz_ rfl hS rfl rfl hy3 ?_; intro s hS
  refine t_bk h hS hH ?_
  refine t_N ?_
  intro h s σ hS hH
  obtain rfl := si_1 h
  exact aM_ [] (bg_ (v := i4 y3) hS rfl r_nil) rfl rfl hH
 refine t_RU 2 ?_
 intro h s σ hS hH
 obtain ⟨y4, hy4, h⟩ := bind_some h
 refine nz_ rfl hS rfl rfl hy4 ?_; intro s hS
 refine t_bk h hS hH ?_
 refine t_N ?_
 intro h s σ hS hH
 obtain rfl := si_1 h
 exact aM_ [] (bg_ (v := i4 y4) hS rfl r_nil) rfl rfl hH
noncomputable def a2_ (a0 : aq_) (a1 : (Sl ByteArray)) : Option (ByteArray × aq_ × (Sl ByteArray)) := ((aW_ a0 (a1.l.length : Int)).bind fun y1 => ((elt a1 y1.1).bind fun y2 => (some (y2, y1.2, a1))))
theorem dP_ (a0 : aq_) (a1 : (Sl ByteArray)) (r : (ByteArray × aq_ × (Sl ByteArray))) (h : a2_ a0 a1 = some r) (bp0 : Nat) (wp1_1 : Nat) (p1_1 : T) : RawS Try.prog md ext 126 [.ptr bp0 0 0 3, p1_1] 0 (fun hs => E_str r.1) [.box bp0 (aq_.cells a0), .own true wp1_1 p1_1 a1.t] (fun hs => [.box bp0 (aq_.cells r.2.1), .own true wp1_1 p1_1 r.2.2.t]) := by
 unfold a2_ at h
 refine cm_ rfl rfl ok_126 rfl ?_
 intro σ0 σ F σk s hS hH
 have hp1_1 : al_ p1_1 := Heap.one (hH.at 1 rfl)
 have hS := aa_ (L' := [(0, .ptr bp0 0 0 3), (1, p1_1)]) hS (by kernel_rfl)
 refine t_go h hS hH ?_
 refine t_RN ?_
 refine t_RU 3 ?_
 refine is_ (a := a1) 1 ?_
 refine aT_ (fun y1 hs hy1 hl => ?_) (hr := by exact fun y1 hy1 => cr_ _ _ y1 hy1 bp0)
 obtain rfl := len0 hl
 refine bK_ ?_
 refine nc_ 1 (fun hb1 hb1e y2 hy2 hl_hb1 => ?_)
 refine nZ_ 1 0 hl_hb1 hy2 ?_
 refine t_N ?_
 intro h s σ hS hH
 obtain rfl := si_1 h
 exact aM_ [] (bg_ (v := .str y2) hS rfl r_nil) rfl rfl hH
noncomputable def bj_ (a0 : aq_) : Option (ByteArray × aq_) := ((a2_ a0 (⟨false, [⟨#[97]⟩, ⟨#[98]⟩, ⟨#[97, 98]⟩, ⟨#[98, 97]⟩, ⟨#[97, 98, 99]⟩, ⟨#[40]⟩, ⟨#[41]⟩, ⟨#[40, 41]⟩, ⟨#[120]⟩, ⟨#[97, 97]⟩, ⟨#[99]⟩, ⟨#[34]⟩, ⟨#[97, 34, 98]⟩, ⟨#[0]⟩, ⟨#[120, 121]⟩, ⟨#[98, 99]⟩]⟩)).bind fun y1 => (some (y1.1, y1.2.1)))
theorem eO_ (a0 : aq_) (r : (ByteArray × aq_)) (h : bj_ a0 = some r) (bp0 : Nat) : RawS Try.prog md ext 93 [.ptr bp0 0 0 3] 0 (fun hs => E_str r.1) [.box bp0 (aq_.cells a0)] (fun hs => [.box bp0 (aq_.cells r.2)]) := by
 unfold bj_ at h
 refine cm_ rfl rfl ok_93 rfl ?_
 intro σ0 σ F σk s hS hH
 have hS := aa_ (L' := [(0, .ptr bp0 0 0 3)]) hS (by kernel_rfl)
 refine t_go h hS hH ?_
 refine t_RN ?_
 refine t_RU 1 ?_
 refine k_bs (z := true) (⟨false, [⟨#[97]⟩, ⟨#[98]⟩, ⟨#[97, 98]⟩, ⟨#[98, 97]⟩, ⟨#[97, 98, 99]⟩, ⟨#[40]⟩, ⟨#[41]⟩, ⟨#[40, 41]⟩, ⟨#[120]⟩, ⟨#[97, 97]⟩, ⟨#[99]⟩, ⟨#[34]⟩, ⟨#[97, 34, 98]⟩, ⟨#[0]⟩, ⟨#[120, 121]⟩, ⟨#[98, 99]⟩]⟩ : Sl ByteArray) (fun t1 ht1 => ?_)
 refine t_h Heap.up1 ?_
 refine aT_ (fun y1 hs hy1 hl => ?_) (hr := by exact fun y1 hy1 => dP_ _ _ y1 hy1 bp0 1 t1)
 obtain rfl := len0 hl
 refine bK_ ?_
 refine t_N ?_
 intro h s σ hS hH
 obtain rfl := si_1 h
 exact aM_ [] (bg_ (v := .str y1.1) hS rfl r_nil) rfl rfl (Heap.sel hH [0, 2] rfl (by kernel_rfl))
noncomputable def bw_ (a0 : aq_) (a1 : Int) : Option (Bool × aq_) := ((aW_ a0 a1).bind fun y1 => (some ((decide (y1.1 = 0)), y1.2)))
theorem f2_ (a0 : aq_) (a1 : Int) (r : (Bool × aq_)) (h : bw_ a0 a1 = some r) (bp0 : Nat) : RawS Try.prog md ext 115 [.ptr bp0 0 0 3, i4 a1] 0 (fun hs => E_bool r.1) [.box bp0 (aq_.cells a0)] (fun hs => [.box bp0 (aq_.cells r.2)]) := by
 unfold bw_ at h
 refine cm_ rfl rfl ok_115 rfl ?_
 intro σ0 σ F σk s hS hH
 have hS := aa_ (L' := [(0, .ptr bp0 0 0 3), (1, i4 a1)]) hS (by kernel_rfl)
 refine t_go h hS hH ?_
 refine t_RN ?_
 refine t_RU 2 ?_
 refine aT_ (fun y1 hs hy1 hl => ?_) (hr := by exact fun y1 hy1 => cr_ _ _ y1 hy1 bp0)
 obtain rfl := len0 hl
 refine bK_ ?_
 refine t_N ?_
 intro h s σ hS hH
 obtain rfl := si_1 h
 exact aM_ [] (bg_ (v := .bool (decide (y1.1 = 0))) hS rfl r_nil) rfl rfl hH
noncomputable def bz_ (a0 : aq_) : Option (ByteArray × aq_) := ((bw_ a0 4).bind fun y1 => (if y1.1 = true then ((a2_ y1.2 (⟨false, [⟨#[]⟩, ⟨#[97]⟩, ⟨#[97, 98]⟩, ⟨#[40, 97, 41, 40, 98, 41]⟩, ⟨#[40, 40, 97, 41, 98, 41]⟩, ⟨#[97, 97, 97, 97]⟩, ⟨#[97, 98, 99, 97, 98, 99]⟩, ⟨#[120, 40, 121]⟩, ⟨#[41, 40]⟩, ⟨#[97, 98, 34, 99]⟩]⟩)).bind fun y2 => (some (y2.1, y2.2.1))) else ((aW_ y1.2 6).bind fun y3 => ((ar_ (S := (ByteArray × Int × (Sl (Iv .u8)) × Int × Int)) (R := (ByteArray × (Sl (Iv .u8)) × Int × Int)) (fun st1 => (if (decide (0 < st1.2.1)) = true then ((bj_ (⟨st1.2.2.1, st1.2.2.2.1, st1.2.2.2.2⟩ : aq_)).bind fun y5 => ((catB st1.1 y5.1).bind fun y6 => (some (.inl (y6, (w4 (st1.2.1 - 1)), y5.2.code_, y5.2.at_, y5.2.seed_))))) else (some (.inr (st1.1, st1.2.2.1, st1.2.2.2.1, st1.2.2.2.2))))) (⟨#[]⟩, y3.1, y3.2.code_, y3.2.at_, y3.2.seed_)).bind fun y4 => (some (y4.1, (⟨y4.2.1, y4.2.2.1, y4.2.2.2⟩ : aq_)))))))
theorem f1_ (a0 : aq_) (r : (ByteArray × aq_)) (h : bz_ a0 = some r) (bp0 : Nat) : RawS Try.prog md ext 92 [.ptr bp0 0 0 3] 0 (fun hs => E_str r.1) [.box bp0 (aq_.cells a0)] (fun hs => [.box bp0 (aq_.cells r.2)]) := by
 unfold bz_ at h
 refine cm_ rfl rfl ok_92 rfl ?_
 intro σ0 σ F σk s hS hH
 have hS := aa_ (L' := [(0, .ptr bp0 0 0 3)]) hS (by kernel_rfl)
 refine t_go h hS hH ?_
 refine t_RN ?_
 refine t_RU 1 ?_
 refine aT_ (fun y1 hs hy1 hl => ?_) (hr := by exact fun y1 hy1 => f2_ _ _ y1 hy1 bp0)
 obtain rfl := len0 hl
 refine bK_ ?_
 refine t_N ?_
 refine t_if (fun hc1 => ?_) fun hc1 => ?_
 ·refine t_RU 1 ?_
  refine k_bs (z := true) (⟨false, [⟨#[]⟩, ⟨#[97]⟩, ⟨#[97, 98]⟩, ⟨#[40, 97, 41, 40, 98, 41]⟩, ⟨#[40, 40, 97, 41, 98, 41]⟩, ⟨#[97, 97, 97, 97]⟩, ⟨#[97, 98, 99, 97, 98, 99]⟩, ⟨#[120, 40, 121]⟩, ⟨#[41, 40]⟩, ⟨#[97, 98, 34, 99]⟩]⟩ : Sl ByteArray) (fun t1 ht1 => ?_)
  refine t_h Heap.up1 ?_
  refine aT_ (fun y2 hs hy2 hl => ?_) (hr := by exact fun y2 hy2 => dP_ _ _ y2 hy2 bp0 1 t1)
  obtain rfl := len0 hl
  refine bK_ ?_
  refine t_N ?_
  intro h s σ hS hH
  obtain rfl := si_1 h
  exact aM_ [] (bg_ (v := .str y2.1) hS rfl r_nil) rfl rfl (Heap.sel hH [0, 2] rfl (by kernel_rfl))
 refine t_RN ?_
 refine t_RU 1 ?_
 refine aT_ (fun y3 hs hy3 hl => ?_) (hr := by exact fun y3 hy3 => cr_ _ _ y3 hy3 bp0)
 obtain rfl := len0 hl
 refine bK_ ?_
 refine t_N ?_
 refine ay_ (fun st1 fr => Sub [(0, .ptr bp0 0 0 3), (3, .str st1.1), (4, i4 st1.2.1)] fr.s ∧ Heap σ0 fr.σ [.box bp0 [st1.2.2.1.t, i4 st1.2.2.2.1, .int .u64 st1.2.2.2.2], .keep F σk]) (fun y4 e fr => e = (.exit 0) ∧ Sub [(3, .str y4.1)] fr.s ∧ Heap σ0 fr.σ [.box bp0 [y4.2.1.t, i4 y4.2.2.1, .int .u64 y4.2.2.2], .keep F σk]) (fun hS hH => ⟨(aa_ hS (by kernel_rfl)), hH⟩) (fun st1 x fr h HI => ?_) fun y4 e fr h HF => ?_
 ·obtain ⟨s, σ⟩ := fr; obtain ⟨hS, hH⟩ := HI
  refine t_bk h hS hH ?_
  refine t_RN ?_
  refine t_if (fun hc2 => ?_) fun hc2 => ?_
  ·refine t_RU 2 ?_
   refine aT_ (fun y5 hs hy5 hl => ?_) (hr := by exact fun y5 hy5 => eO_ _ y5 hy5 bp0)
   obtain rfl := len0 hl
   refine bK_ ?_
   refine qg_ fun y6 hy6 => ?_
   refine t_N ?_
   refine t_RN ?_
   exact t_e fun he hS hH => he ▸ ⟨(aa_ hS (by kernel_rfl)), hH⟩
  exact t_e fun he hS hH => he ▸ ⟨rfl, (aa_ hS (by kernel_rfl)), hH⟩
 obtain ⟨s, σ⟩ := fr
 obtain ⟨rfl, hS, hH⟩ := HF
 refine t_bx h hS hH ?_
 refine t_RN ?_
 intro h s σ hS hH
 obtain rfl := si_1 h
 exact aM_ [] (bg_ (v := .str y4.1) hS rfl r_nil) rfl rfl hH
noncomputable def cW_ (a0 : (Sl (Iv .u8))) : Option ByteArray := ((bz_ (⟨a0, 0, 0⟩ : aq_)).bind fun y1 => (some y1.1))
theorem go_ (a0 : (Sl (Iv .u8))) (r : ByteArray) (h : cW_ a0 = some r) : c1_ a0 = some r := by
 unfold cW_ at h
 refine k_W ok_48 E_str_inj h (fun σ0 => ?_)
 refine t_RN ?_
 refine t_RU 1 ?_
 refine dD_ ok_74 ?_
 refine t_RN ?_
 refine t_RU 2 ?_
 refine cU_ (fun b1 => ?_)
 refine t_N ?_
 refine k_eI (rT rN) ?_
 refine t_N ?_
 refine t_RU 1 ?_
 refine aT_ (fun y1 hs hy1 hl => ?_) (hr := by exact fun y1 hy1 => f1_ _ y1 hy1 b1)
 obtain rfl := len0 hl
 refine bK_ ?_
 refine t_N ?_
 exact k_eW (rT rN) E_str_p
noncomputable def dT_ (a0 : (Sl (Iv .u8))) : Option ByteArray := ((bj_ (⟨a0, 0, 0⟩ : aq_)).bind fun y1 => (some y1.1))
theorem hh_ (a0 : (Sl (Iv .u8))) (r : ByteArray) (h : dT_ a0 = some r) : dS_ a0 = some r := by
 unfold dT_ at h
 refine k_W ok_49 E_str_inj h (fun σ0 => ?_)
 refine t_RN ?_
 refine t_RU 1 ?_
 refine dD_ ok_74 ?_
 refine t_RN ?_
 refine t_RU 2 ?_
 refine cU_ (fun b1 => ?_)
 refine t_N ?_
 refine k_eI (rT rN) ?_
 refine t_N ?_
 refine t_RU 1 ?_
 refine aT_ (fun y1 hs hy1 hl => ?_) (hr := by exact fun y1 hy1 => eO_ _ y1 hy1 b1)
 obtain rfl := len0 hl
 refine bK_ ?_
 refine t_N ?_
 exact k_eW (rT rN) E_str_p
noncomputable def fJ_ (a0 : Int) (a1 : ByteArray) (a2 : (Sl DPattern)) : Option DPattern := (some (⟨a0, 0, a1, a2⟩ : DPattern))
theorem ig_ (a0 : Int) (a1 : ByteArray) (a2 : (Sl DPattern)) (r : DPattern) (h : fJ_ a0 a1 a2 = some r) : da_ a0 a1 a2 = some r := by
 unfold fJ_ at h
 refine k_W ok_50 E_DPattern_inj h (fun σ0 => ?_)
 refine t_R ?_
 refine eq_ fun b1 => ?_
 refine t_N ?_
 refine t_RU 4 ?_
 refine ch_ 0 ?_
 refine t_N ?_
 exact k_eW (rC 0 rN) E_DPattern_p
noncomputable def eM_ (a0 : ByteArray) (a1 : Int) : Option Bool := ((ar_ (S := Int) (R := (Unit ⊕ Bool)) (fun st1 => (if (decide (st1 < (a0.size : Int))) = true then ((ak_ a0 st1).bind fun y2 => (if (decide (y2 = a1)) = true then (some (.inr (.inr true))) else (some (.inl (w4 (st1 + 1)))))) else (some (.inr (.inl ()))))) 0).bind fun y1 => (Sum.elim (fun y1 => (some false)) (fun y1 => (some y1)) y1))
theorem iD_ (a0 : ByteArray) (a1 : Int) (r : Bool) (h : eM_ a0 a1 = some r) : ae_ a0 a1 = some r := by
 unfold eM_ at h
 refine k_W ok_51 E_bool_inj h (fun σ0 => ?_)
 refine t_RN ?_
 refine t_RN ?_
 refine ay_ (fun st1 fr => Sub [(0, .str a0), (1, .int .u8 a1), (5, i4 st1)] fr.s ∧ Heap σ0 fr.σ []) (fun y1 e fr => (Sum.elim (fun y => e = (.exit 0) ∧ Sub [] fr.s ∧ Heap σ0 fr.σ []) (fun y => e = .ret ∧ endW Try.prog (Try.f51.results.toList) σ0 (E_bool y) .ret fr)) y1) (fun hS hH => ⟨(aa_ hS (by kernel_rfl)), hH⟩) (fun st1 x fr h HI => ?_) fun y1 e fr h HF => ?_
 ·obtain ⟨s, σ⟩ := fr; obtain ⟨hS, hH⟩ := HI
  refine t_bk h hS hH ?_
  refine t_RN ?_
  refine t_if (fun hc1 => ?_) fun hc1 => ?_
  ·refine t_RU 2 ?_
   refine av_ fun y2 hy2 => ?_
   refine t_N ?_
   refine t_if (fun hc2 => ?_) fun hc2 => ?_
   ·refine t_RN ?_
    exact t_e fun he hS hH => he ▸ ⟨rfl, (eW hS hH (rT rN) E_bool_p)⟩
   refine t_RN ?_
   exact t_e fun he hS hH => he ▸ ⟨(aa_ hS (by kernel_rfl)), hH⟩
  exact t_e fun he hS hH => he ▸ ⟨rfl, (aa_ hS (by kernel_rfl)), hH⟩
 obtain ⟨s, σ⟩ := fr
 rcases y1 with y1 | y1
 ·have h := el_l h
  obtain ⟨rfl, hS, hH⟩ := HF
  refine t_bx h hS hH ?_
  refine t_RN ?_
  exact k_eW (rT rN) E_bool_p
 have h := el_r h
 obtain ⟨rfl, HE⟩ := HF
 obtain rfl := si_1 h; exact HE
noncomputable def cM_ (a0 : (Sl an_)) (a1 : ByteArray) : Option Int := ((ar_ (S := Int) (R := (Unit ⊕ Int)) (fun st1 => (if (decide (st1 < (a0.l.length : Int))) = true then ((elt a0 st1).bind fun y2 => (if (decide (y2.Name = a1)) = true then (some (.inr (.inr st1))) else (some (.inl (w4 (st1 + 1)))))) else (some (.inr (.inl ()))))) 0).bind fun y1 => (Sum.elim (fun y1 => (some (-1))) (fun y1 => (some y1)) y1))
theorem fe_ (a0 : (Sl an_)) (a1 : ByteArray) (r : Int) (h : cM_ a0 a1 = some r) : cL_ a0 a1 = some r := by
 unfold cM_ at h
 refine k_W ok_66 E_i64_inj h (fun σ0 => ?_)
 refine t_RN ?_
 refine t_RN ?_
 refine ay_ (fun st1 fr => Sub [(0, a0.t), (1, .str a1), (5, i4 st1)] fr.s ∧ Heap σ0 fr.σ []) (fun y1 e fr => (Sum.elim (fun y => e = (.exit 0) ∧ Sub [] fr.s ∧ Heap σ0 fr.σ []) (fun y => e = .ret ∧ endW Try.prog (Try.f66.results.toList) σ0 (E_i64 y) .ret fr)) y1) (fun hS hH => ⟨(aa_ hS (by kernel_rfl)), hH⟩) (fun st1 x fr h HI => ?_) fun y1 e fr h HF => ?_
 ·obtain ⟨s, σ⟩ := fr; obtain ⟨hS, hH⟩ := HI
  refine t_bk h hS hH ?_
  refine t_RN ?_
  refine t_if (fun hc1 => ?_) fun hc1 => ?_
  ·refine t_RU 2 ?_
   refine aF_ fun y2 rest1 hy2 => ?_
   refine t_N ?_
   refine t_if (fun hc2 => ?_) fun hc2 => ?_
   ·refine t_RN ?_
    exact t_e fun he hS hH => he ▸ ⟨rfl, (eW hS hH (rT rN) E_i64_p)⟩
   refine t_RN ?_
   exact t_e fun he hS hH => he ▸ ⟨(aa_ hS (by kernel_rfl)), hH⟩
  exact t_e fun he hS hH => he ▸ ⟨rfl, (aa_ hS (by kernel_rfl)), hH⟩
 obtain ⟨s, σ⟩ := fr
 rcases y1 with y1 | y1
 ·have h := el_l h
  obtain ⟨rfl, hS, hH⟩ := HF
  refine t_bx h hS hH ?_
  refine t_RN ?_
  exact k_eW (rT rN) E_i64_p
 have h := el_r h
 obtain ⟨rfl, HE⟩ := HF
 obtain rfl := si_1 h; exact HE
noncomputable def di_ (a0 : (Sl an_)) : Option Bool := (if (decide (40 < (a0.l.length : Int))) = true then (some false) else ((ar_ (S := Int) (R := (Unit ⊕ Bool)) (fun st1 => (if (decide (st1 < (a0.l.length : Int))) = true then ((elt a0 st1).bind fun y2 => ((c7_ y2.Name).bind fun y3 => (if (!y3) = true then (some (.inr (.inr false))) else ((elt a0 st1).bind fun y4 => ((bG_ y4.Pattern).bind fun y5 => (if (!y5) = true then (some (.inr (.inr false))) else ((ar_ (S := Int) (R := (Unit ⊕ Bool)) (fun st2 => (if (decide (st2 < st1)) = true then ((elt a0 st2).bind fun y7 => ((elt a0 st1).bind fun y8 => (if (decide (y7.Name = y8.Name)) = true then (some (.inr (.inr false))) else (some (.inl (w4 (st2 + 1))))))) else (some (.inr (.inl ()))))) 0).bind fun y6 => (Sum.elim (fun y6 => (some (.inl (w4 (st1 + 1))))) (fun y6 => (some (.inr (.inr y6)))) y6)))))))) else (some (.inr (.inl ()))))) 0).bind fun y1 => (Sum.elim (fun y1 => (some true)) (fun y1 => (some y1)) y1)))
theorem gF_ (a0 : (Sl an_)) (r : Bool) (h : di_ a0 = some r) : dg_ a0 = some r := by
 unfold di_ at h
 refine k_W ok_67 E_bool_inj h (fun σ0 => ?_)
 refine t_RN ?_
 refine t_RN ?_
 refine t_if (fun hc1 => ?_) fun hc1 => ?_
 ·refine t_RN ?_
  exact k_eW (rT rN) E_bool_p
 refine t_RN ?_
 refine ay_ (fun st1 fr => Sub [(0, a0.t), (3, i4 st1)] fr.s ∧ Heap σ0 fr.σ []) (fun y1 e fr => (Sum.elim (fun y => e = (.exit 0) ∧ Sub [] fr.s ∧ Heap σ0 fr.σ []) (fun y => e = .ret ∧ endW Try.prog (Try.f67.results.toList) σ0 (E_bool y) .ret fr)) y1) (fun hS hH => ⟨(aa_ hS (by kernel_rfl)), hH⟩) (fun st1 x fr h HI => ?_) fun y1 e fr h HF => ?_
 ·obtain ⟨s, σ⟩ := fr; obtain ⟨hS, hH⟩ := HI
  refine t_bk h hS hH ?_
  refine t_RN ?_
  refine t_if (fun hc2 => ?_) fun hc2 => ?_
  ·refine t_RU 2 ?_
   refine aF_ fun y2 rest1 hy2 => ?_
   refine t_U 2 ?_
   refine af_ fun y3 hy3 => ?_
   refine t_U 2 ?_
   refine am_ 21 (fun hc3 => ?_) fun hc3 => ?_
   ·refine t_N ?_
    refine t_cT rfl ?_
    refine t_RN ?_
    exact t_e fun he hS hH => he ▸ ⟨rfl, (eW hS hH (rT rN) E_bool_p)⟩
   refine t_U 2 ?_
   refine aF_ fun y4 rest2 hy4 => ?_
   refine t_U 2 ?_
   refine af_ fun y5 hy5 => ?_
   refine t_N ?_
   refine t_if (fun hc4 => ?_) fun hc4 => ?_
   ·refine t_RN ?_
    exact t_e fun he hS hH => he ▸ ⟨rfl, (eW hS hH (rT rN) E_bool_p)⟩
   refine t_RN ?_
   refine ay_ (fun st2 fr => Sub [(0, a0.t), (3, i4 st1), (4, i4 st2)] fr.s ∧ Heap σ0 fr.σ []) (fun y6 e fr => (Sum.elim (fun y => e = (.exit 2) ∧ Sub [(0, a0.t), (3, i4 st1)] fr.s ∧ Heap σ0 fr.σ []) (fun y => e = .ret ∧ endW Try.prog (Try.f67.results.toList) σ0 (E_bool y) .ret fr)) y6) (fun hS hH => ⟨(aa_ hS (by kernel_rfl)), hH⟩) (fun st2 x fr h HI => ?_) fun y6 e fr h HF => ?_
   ·obtain ⟨s, σ⟩ := fr; obtain ⟨hS, hH⟩ := HI
    refine t_bk h hS hH ?_
    refine t_RN ?_
    refine t_if (fun hc5 => ?_) fun hc5 => ?_
    ·refine t_D fun mb => ?_
     refine t_U 2 ?_
     refine aF_ fun y7 rest3 hy7 => ?_
     refine t_U 4 ?_
     refine aF_ fun y8 rest4 hy8 => ?_
     refine t_N ?_
     refine t_if (fun hc6 => ?_) fun hc6 => ?_
     ·refine t_RN ?_
      exact t_e fun he hS hH => he ▸ ⟨rfl, (eW hS hH (rT rN) E_bool_p)⟩
     refine t_RN ?_
     exact t_e fun he hS hH => he ▸ ⟨(aa_ hS (by kernel_rfl)), hH⟩
    exact t_e fun he hS hH => he ▸ ⟨rfl, (aa_ hS (by kernel_rfl)), hH⟩
   obtain ⟨s, σ⟩ := fr
   rcases y6 with y6 | y6
   ·have h := el_l h
    obtain ⟨rfl, hS, hH⟩ := HF
    refine t_bx h hS hH ?_
    refine t_RN ?_
    exact t_e fun he hS hH => he ▸ ⟨(aa_ hS (by kernel_rfl)), hH⟩
   have h := el_r h
   obtain ⟨rfl, HE⟩ := HF
   obtain rfl := si_1 h; exact ⟨rfl, HE⟩
  exact t_e fun he hS hH => he ▸ ⟨rfl, (aa_ hS (by kernel_rfl)), hH⟩
 obtain ⟨s, σ⟩ := fr
 rcases y1 with y1 | y1
 ·have h := el_l h
  obtain ⟨rfl, hS, hH⟩ := HF
  refine t_bx h hS hH ?_
  refine t_RN ?_
  exact k_eW (rT rN) E_bool_p
 have h := el_r h
 obtain ⟨rfl, HE⟩ := HF
 obtain rfl := si_1 h; exact HE
noncomputable def db_ (a0 : (Sl an_)) (a1 : ByteArray) : Option (DPattern × Bool) := ((((ar_ (S := Int) (R := (Unit ⊕ Int)) (fun st1 => (if (decide (st1 < (a0.l.length : Int))) = true then ((elt a0 st1).bind fun y3 => (if (decide (y3.Name = a1)) = true then (some (.inr (.inr st1))) else (some (.inl (w4 (st1 + 1)))))) else (some (.inr (.inl ()))))) 0).bind fun y2 => (Sum.elim (fun y2 => (some (-1))) (fun y2 => (some y2)) y2)) : Option Int).bind fun y1 => (if (decide (y1 < 0)) = true then (some ((⟨0, 0, ⟨#[]⟩, ⟨true, []⟩⟩ : DPattern), false)) else ((elt a0 y1).bind fun y4 => (some (y4.Pattern, true)))))
theorem fI_ (a0 : (Sl an_)) (a1 : ByteArray) (r : (DPattern × Bool)) (h : db_ a0 a1 = some r) : dc_ a0 a1 = some r := by
 unfold db_ at h
 refine k_W ok_70 E_t2_DPattern_bool_inj h (fun σ0 => ?_)
 refine t_R ?_
 refine cU_ (fun b1 => ?_)
 refine eq_ fun b2 => ?_
 refine t_N ?_
 refine t_RU 2 ?_
 refine eb_ (fun y1 s σ => Sub [(0, a0.t), (4, .ptr b2 0 0 4), (9, i4 y1)] s ∧ Heap σ0 σ [.box b2 [i4 0, i4 0, .str ⟨#[]⟩, (nt DPattern)]]) ok_110 (fun y1 => ?_) fun y1 s σ HF h => ?_
 ·refine t_RN ?_
  refine t_RN ?_
  refine ay_ (fun st1 fr => Sub [(0, a0.t), (1, T.fn 111 [] [.ptr b1 0 0 1]), (7, i4 (a0.l.length : Int)), (8, i4 st1)] fr.s ∧ Heap σ0 fr.σ [.box b2 [i4 0, i4 0, .str ⟨#[]⟩, (nt DPattern)], .box b1 [.str a1]]) (fun y2 e fr => (Sum.elim (fun y => e = (.exit 0) ∧ Sub [] fr.s ∧ Heap σ0 fr.σ [.box b2 [i4 0, i4 0, .str ⟨#[]⟩, (nt DPattern)]]) (fun y => e = .ret ∧ Sub [(4, i4 y)] fr.s ∧ Heap σ0 fr.σ [.box b2 [i4 0, i4 0, .str ⟨#[]⟩, (nt DPattern)]])) y2) (fun hS hH => ⟨(aa_ hS (by kernel_rfl)), hH⟩) (fun st1 x fr h HI => ?_) fun y2 e fr h HF => ?_
  ·obtain ⟨s, σ⟩ := fr; obtain ⟨hS, hH⟩ := HI
   refine t_bk h hS hH ?_
   refine t_RN ?_
   refine t_if (fun hc1 => ?_) fun hc1 => ?_
   ·refine t_RN ?_
    refine t_RU 3 ?_
    refine aF_ fun y3 rest1 hy3 => ?_
    refine t_U 1 ?_
    refine dD_ ok_111 ?_
    refine t_R ?_
    refine cU_ (fun b3 => ?_)
    refine t_N ?_
    refine t_RU 1 ?_
    refine ac_ 0 ?_
    refine ac_ 2 ?_
    refine t_N ?_
    refine k_eI (rT rN) ?_
    refine t_N ?_
    refine t_if (fun hc2 => ?_) fun hc2 => ?_
    ·refine t_RN ?_
     exact t_e fun he hS hH => he ▸ ⟨rfl, (aa_ hS (by kernel_rfl)), (Heap.sel hH [1] rfl (by kernel_rfl))⟩
    refine t_RN ?_
    exact t_e fun he hS hH => he ▸ ⟨(aa_ hS (by kernel_rfl)), (Heap.sel hH [1, 2] rfl (by kernel_rfl))⟩
   exact t_e fun he hS hH => he ▸ ⟨rfl, (aa_ hS (by kernel_rfl)), (Heap.sel hH [0] rfl (by kernel_rfl))⟩
  obtain ⟨s, σ⟩ := fr
  rcases y2 with y2 | y2
  ·have h := el_l h
   obtain ⟨rfl, hS, hH⟩ := HF
   refine t_bx h hS hH ?_
   refine t_RN ?_
   exact bL_ (rT rN) fun he hS hH => he ▸ ⟨(aa_ hS (by kernel_rfl)), hH⟩
  have h := el_r h
  obtain ⟨rfl, hS, hH⟩ := HF
  refine t_bx h hS hH ?_
  exact bL_ (rT rN) fun he hS hH => he ▸ ⟨(aa_ hS (by kernel_rfl)), hH⟩
 obtain ⟨hS, hH⟩ := HF
 refine t_bk h hS hH ?_
 refine t_N ?_
 refine t_RN ?_
 refine t_if (fun hc3 => ?_) fun hc3 => ?_
 ·refine t_RU 1 ?_
  refine ch_ 0 ?_
  refine t_N ?_
  exact k_eW (rC 0 (rT rN)) E_t2_DPattern_bool_p
 refine t_RU 2 ?_
 refine aF_ fun y4 rest2 hy4 => ?_
 refine t_U 2 ?_
 refine ch_ 0 ?_
 refine t_N ?_
 exact k_eW (rC 0 (rT rN)) E_t2_DPattern_bool_p
noncomputable def dl_ (a0 : (Sl an_)) : Option Bool := (if (decide (40 < (a0.l.length : Int))) = true then (some false) else ((b8_ a0 (T.fn 113 [] [])).bind fun y1 => (if (!y1) = true then (some false) else ((ar_ (S := Int) (R := (Unit ⊕ Bool)) (fun st1 => (if (decide (st1 < (a0.l.length : Int))) = true then ((elt a0 st1).bind fun y3 => ((subS a0 0 st1).bind fun y4 => ((dc_ y4 y3.Name).bind fun y5 => (if y5.2 = true then (some (.inr (.inr false))) else (some (.inl (w4 (st1 + 1)))))))) else (some (.inr (.inl ()))))) 0).bind fun y2 => (Sum.elim (fun y2 => (some true)) (fun y2 => (some y2)) y2)))))
theorem gY_ (a0 : (Sl an_)) (r : Bool) (h : dl_ a0 = some r) : du_ a0 = some r := by
 unfold dl_ at h
 refine k_W ok_71 E_bool_inj h (fun σ0 => ?_)
 refine t_RN ?_
 refine t_RU 4 ?_
 refine am_ 10 (fun hc1 => ?_) fun hc1 => ?_
 ·refine t_N ?_
  refine t_cT rfl ?_
  refine t_RN ?_
  exact k_eW (rT rN) E_bool_p
 refine t_U 1 ?_
 refine af_ fun y1 hy1 => ?_
 refine t_N ?_
 refine t_if (fun hc2 => ?_) fun hc2 => ?_
 ·refine t_RN ?_
  exact k_eW (rT rN) E_bool_p
 refine t_RN ?_
 refine ay_ (fun st1 fr => Sub [(0, a0.t), (15, a0.t), (16, i4 (a0.l.length : Int)), (17, i4 st1)] fr.s ∧ Heap σ0 fr.σ []) (fun y2 e fr => (Sum.elim (fun y => e = (.exit 0) ∧ Sub [] fr.s ∧ Heap σ0 fr.σ []) (fun y => e = .ret ∧ endW Try.prog (Try.f71.results.toList) σ0 (E_bool y) .ret fr)) y2) (fun hS hH => ⟨(aa_ hS (by kernel_rfl)), hH⟩) (fun st1 x fr h HI => ?_) fun y2 e fr h HF => ?_
 ·obtain ⟨s, σ⟩ := fr; obtain ⟨hS, hH⟩ := HI
  refine t_bk h hS hH ?_
  refine t_RN ?_
  refine t_if (fun hc3 => ?_) fun hc3 => ?_
  ·refine t_RU 1 ?_
   refine aF_ fun y3 rest1 hy3 => ?_
   refine t_U 1 ?_
   refine eq_ fun b1 => ?_
   refine t_U 1 ?_
   refine ch_ 0 ?_
   refine t_N ?_
   refine bh_ [(10, RN)] ext_x fun mb σs hn0 hlt hlto => ?_
   refine t_U 2 ?_
   refine o6_ fun y4 hy4 => ?_
   refine t_U 1 ?_
   refine ac_ 0 ?_ (hlt := by exact (Or.inl (by kernel_rfl)))
   refine af_ fun y5 hy5 => ?_
   refine t_U 3 ?_
   refine kr_ (by exact hn0) fun b2 hwr_b2 => ?_
   refine ch_ 0 ?_ (hwr := by exact fun _ => Or.inl hwr_b2)
   refine t_N ?_
   refine t_RN ?_
   refine t_if (fun hc4 => ?_) fun hc4 => ?_
   ·refine t_RN ?_
    exact t_e fun he hS hH => he ▸ ⟨rfl, (eW hS hH (rT rN) E_bool_p)⟩
   refine t_RN ?_
   exact t_e fun he hS hH => he ▸ ⟨(aa_ hS (by kernel_rfl)), (Heap.sel hH [] rfl (by kernel_rfl))⟩
  exact t_e fun he hS hH => he ▸ ⟨rfl, (aa_ hS (by kernel_rfl)), hH⟩
 obtain ⟨s, σ⟩ := fr
 rcases y2 with y2 | y2
 ·have h := el_l h
  obtain ⟨rfl, hS, hH⟩ := HF
  refine t_bx h hS hH ?_
  refine t_RN ?_
  exact k_eW (rT rN) E_bool_p
 have h := el_r h
 obtain ⟨rfl, HE⟩ := HF
 obtain rfl := si_1 h; exact HE
noncomputable def b6_ (a0 : DPattern) : Option Bool := ((aA_ a0 0).bind fun y1 => (some (decide (y1 ≤ 60))))
theorem fr_ (a0 : DPattern) (r : Bool) (h : b6_ a0 = some r) : bB_ a0 = some r := by
 unfold b6_ at h
 refine k_W ok_78 E_bool_inj h (fun σ0 => ?_)
 refine t_R ?_
 refine cU_ (fun b1 => ?_)
 refine t_N ?_
 refine t_R ?_
 refine ac_ 0 ?_
 refine af_ fun y1 hy1 => ?_
 refine t_N ?_
 exact k_eW (rT rN) E_bool_p
noncomputable def er_ (a0 : (Sl an_)) (a1 : DPattern) (a2 : ByteArray) (a3 : Int) : Option Int := ((dg_ a0).bind fun y1 => (if (!y1) = true then (some 1) else ((bG_ a1).bind fun y2 => (if (!y2) = true then (some 1) else (if (decide (200 < (a2.size : Int))) = true then (some 1) else ((bQ_ a3 0 20000).bind fun y3 => (if (!y3) = true then (some 3) else (some 0))))))))
theorem ik_ (a0 : (Sl an_)) (a1 : DPattern) (a2 : ByteArray) (a3 : Int) (r : Int) (h : er_ a0 a1 a2 a3 = some r) : fx_ a0 a1 a2 a3 = some r := by
 unfold er_ at h
 refine k_W ok_84 E_i64_inj h (fun σ0 => ?_)
 refine t_R ?_
 refine cU_ (fun b1 => ?_)
 refine t_N ?_
 refine t_RU 1 ?_
 refine af_ fun y1 hy1 => ?_
 refine t_U 2 ?_
 refine am_ 12 (fun hc1 => ?_) fun hc1 => ?_
 ·refine t_N ?_
  refine t_cT rfl ?_
  refine t_RN ?_
  exact k_eW (rT rN) E_i64_p
 refine ac_ 0 ?_
 refine af_ fun y2 hy2 => ?_
 refine t_U 3 ?_
 refine am_ 17 (fun hc2 => ?_) fun hc2 => ?_
 ·refine t_N ?_
  refine t_cT rfl ?_
  refine t_RN ?_
  exact k_eW (rT rN) E_i64_p
 refine t_N ?_
 refine t_if (fun hc3 => ?_) fun hc3 => ?_
 ·refine t_RN ?_
  exact k_eW (rT rN) E_i64_p
 refine t_RU 1 ?_
 refine af_ fun y3 hy3 => ?_
 refine t_N ?_
 refine t_if (fun hc4 => ?_) fun hc4 => ?_
 ·refine t_RN ?_
  exact k_eW (rT rN) E_i64_p
 refine t_RN ?_
 exact k_eW (rT rN) E_i64_p
noncomputable def eR_ (a0 : Int) (a1 : Int) (a2 : Int) : Option Bool := (if (decide (a1 ≤ a0)) = true then (some (decide (a0 ≤ a2))) else (some false))
theorem iw_ (a0 : Int) (a1 : Int) (a2 : Int) (r : Bool) (h : eR_ a0 a1 a2 = some r) : bQ_ a0 a1 a2 = some r := by
 unfold eR_ at h
 refine k_W ok_85 E_bool_inj h (fun σ0 => ?_)
 refine t_RN ?_
 refine t_RU 4 ?_
 refine am_ 10 (fun hc1 => ?_) fun hc1 => ?_
 ·refine t_N ?_
  exact k_eW (rT rN) E_bool_p
 refine t_N ?_
 exact k_eW (rT rN) E_bool_p
noncomputable def eK_ (a0 : (Sl (Iv .i64))) : Option Int := ((ar_ (S := Int) (R := (Unit ⊕ Int)) (fun st1 => (if (decide (st1 < (a0.l.length : Int))) = true then ((elt a0 st1).bind fun y2 => (if (!decide (y2.v = 0)) = true then (some (.inr (.inr y2.v))) else (some (.inl (w4 (st1 + 1)))))) else (some (.inr (.inl ()))))) 0).bind fun y1 => (Sum.elim (fun y1 => (some 0)) (fun y1 => (some y1)) y1))
theorem iZ_ (a0 : (Sl (Iv .i64))) (r : Int) (h : eK_ a0 = some r) : dM_ a0 = some r := by
 unfold eK_ at h
 refine k_W ok_87 E_i64_inj h (fun σ0 => ?_)
 refine t_RN ?_
 refine t_RN ?_
 refine ay_ (fun st1 fr => Sub [(5, a0.t), (6, i4 (a0.l.length : Int)), (7, i4 st1)] fr.s ∧ Heap σ0 fr.σ []) (fun y1 e fr => (Sum.elim (fun y => e = (.exit 0) ∧ Sub [] fr.s ∧ Heap σ0 fr.σ []) (fun y => e = .ret ∧ endW Try.prog (Try.f87.results.toList) σ0 (E_i64 y) .ret fr)) y1) (fun hS hH => ⟨(aa_ hS (by kernel_rfl)), hH⟩) (fun st1 x fr h HI => ?_) fun y1 e fr h HF => ?_
 ·obtain ⟨s, σ⟩ := fr; obtain ⟨hS, hH⟩ := HI
  refine t_bk h hS hH ?_
  refine t_RN ?_
  refine t_if (fun hc1 => ?_) fun hc1 => ?_
  ·refine t_R ?_
   refine aF_ fun y2 rest1 hy2 => ?_
   refine t_N ?_
   refine t_RN ?_
   refine t_if (fun hc2 => ?_) fun hc2 => ?_
   ·refine t_RN ?_
    exact t_e fun he hS hH => he ▸ ⟨rfl, (eW hS hH (rT rN) E_i64_p)⟩
   refine t_RN ?_
   exact t_e fun he hS hH => he ▸ ⟨(aa_ hS (by kernel_rfl)), hH⟩
  exact t_e fun he hS hH => he ▸ ⟨rfl, (aa_ hS (by kernel_rfl)), hH⟩
 obtain ⟨s, σ⟩ := fr
 rcases y1 with y1 | y1
 ·have h := el_l h
  obtain ⟨rfl, hS, hH⟩ := HF
  refine t_bx h hS hH ?_
  refine t_RN ?_
  exact k_eW (rT rN) E_i64_p
 have h := el_r h
 obtain ⟨rfl, HE⟩ := HF
 obtain rfl := si_1 h; exact HE
noncomputable def cD_ (a0 : (Sl an_)) (a1 : DPattern) (a2 : ByteArray) (a3 : Int) : Option Int := ((((du_ a0).bind fun y6 => (if y6 = true then ((bB_ a1).bind fun y7 => (if y7 = true then ((b5_ a2).bind fun y8 => (some y8)) else (some false))) else (some false))) : Option Bool).bind fun y1 => ((cn_ y1 1).bind fun y2 => ((a8_ a3 0 20000).bind fun y3 => ((cn_ y3 3).bind fun y4 => ((dM_ (⟨false, [⟨y2⟩, ⟨y4⟩]⟩)).bind fun y5 => (some y5))))))
theorem f6_ (a0 : (Sl an_)) (a1 : DPattern) (a2 : ByteArray) (a3 : Int) (r : Int) (h : cD_ a0 a1 a2 a3 = some r) : cy_ a0 a1 a2 a3 = some r := by
 unfold cD_ at h
 refine k_W ok_88 E_i64_inj h (fun σ0 => ?_)
 refine t_R ?_
 refine cU_ (fun b1 => ?_)
 refine t_N ?_
 refine bd_ 0 (fun y1 e fr => e = .normal ∧ Sub [(3, i4 a3), (9, .bool y1)] fr.s ∧ Heap σ0 fr.σ []) (fun y1 e fr h HF => ?_) fun y1 => ?_
 ·obtain ⟨s, σ⟩ := fr
  obtain ⟨rfl, hS, hH⟩ := HF
  refine t_bx h hS hH ?_
  refine t_RU 1 ?_
  refine af_ fun y2 hy2 => ?_
  refine t_U 1 ?_
  refine af_ fun y3 hy3 => ?_
  refine af_ fun y4 hy4 => ?_
  refine k_bs (z := true) (⟨false, [⟨y2⟩, ⟨y4⟩]⟩ : Sl (Iv .i64)) (fun t1 ht1 => ?_)
  refine jH_ (fun y5 hy5 => ?_)
  refine t_N ?_
  exact k_eW (rT rN) E_i64_p
 refine t_RU 1 ?_
 refine af_ fun y6 hy6 => ?_
 refine t_U 1 ?_
 refine am_ 12 (fun hc1 => ?_) fun hc1 => ?_
 ·refine ac_ 0 ?_
  refine af_ fun y7 hy7 => ?_
  refine t_U 2 ?_
  refine am_ 16 (fun hc2 => ?_) fun hc2 => ?_
  ·refine t_U 1 ?_
   refine af_ fun y8 hy8 => ?_
   refine t_N ?_
   exact t_e fun he hS hH => he ▸ ⟨rfl, (aa_ hS (by kernel_rfl)), (Heap.sel hH [] rfl (by kernel_rfl))⟩
  refine t_N ?_
  exact t_e fun he hS hH => he ▸ ⟨rfl, (aa_ hS (by kernel_rfl)), (Heap.sel hH [] rfl (by kernel_rfl))⟩
 refine t_N ?_
 exact t_e fun he hS hH => he ▸ ⟨rfl, (aa_ hS (by kernel_rfl)), (Heap.sel hH [] rfl (by kernel_rfl))⟩
noncomputable def ex_ (a0 : Bool) (a1 : Int) : Option Int := (if a0 = true then (some 0) else (some a1))
theorem h6_ (a0 : Bool) (a1 : Int) (r : Int) (h : ex_ a0 a1 = some r) : cn_ a0 a1 = some r := by
 unfold ex_ at h
 refine k_W ok_89 E_i64_inj h (fun σ0 => ?_)
 refine t_RN ?_
 refine t_RN ?_
 refine t_if (fun hc1 => ?_) fun hc1 => ?_
 ·refine t_RN ?_
  exact k_eW (rT rN) E_i64_p
 refine t_RN ?_
 exact k_eW (rT rN) E_i64_p
noncomputable def eu_ (a0 : Int) (a1 : Int) (a2 : Int) : Option Bool := (if (decide (a1 ≤ a0)) = true then (some (decide (a0 ≤ a2))) else (some false))
theorem hY_ (a0 : Int) (a1 : Int) (a2 : Int) (r : Bool) (h : eu_ a0 a1 a2 = some r) : a8_ a0 a1 a2 = some r := by
 unfold eu_ at h
 refine k_W ok_90 E_bool_inj h (fun σ0 => ?_)
 refine t_RN ?_
 refine t_RU 4 ?_
 refine am_ 10 (fun hc1 => ?_) fun hc1 => ?_
 ·refine t_N ?_
  exact k_eW (rT rN) E_bool_p
 refine t_N ?_
 exact k_eW (rT rN) E_bool_p
end Go.Am
