/- Functions of the program. -/
import Derived.Test.YtjgemoaobnokdaaAd0
import Derived.Test.YtjgemoaobnokdaaAg1
set_option maxRecDepth 100000
set_option maxHeartbeats 4000000
set_option linter.unusedVariables false
set_option linter.unusedSimpArgs false
namespace Go.Am
open Go.Proofs
noncomputable def ay_ (a0 : aa_) (a1 : Int) : Option (Bool × aa_) := (if a0.isMere_ = true then (((if (decide (a0.steps_ = a0.fuel_)) = true then (some (false, a0.steps_, 7, (⟨true, []⟩ : Sl DMatch))) else (some (true, (w4 (a0.steps_ + 1)), a0.code_, a0.matches_))) : Option (Bool × Int × Int × (Sl DMatch))).bind fun y1 => (some (y1.1, (⟨a0.env_, a0.subject_, a0.fuel_, y1.2.1, a0.start_, a0.now_, a0.conds_, y1.2.2.2, a0.most_, a0.isMere_, T.nilm, y1.2.2.1⟩ : aa_)))) else (((if (decide (a0.steps_ = a0.fuel_)) = true then (some (false, a0.steps_, 7, (⟨true, []⟩ : Sl DMatch))) else (some (true, (w4 (a0.steps_ + 1)), a0.code_, a0.matches_))) : Option (Bool × Int × Int × (Sl DMatch))).bind fun y2 => (if (!y2.1) = true then (some (false, (⟨a0.env_, a0.subject_, a0.fuel_, y2.2.1, a0.start_, a0.now_, a0.conds_, y2.2.2.2, a0.most_, a0.isMere_, T.nilm, y2.2.2.1⟩ : aa_))) else (if (decide ((y2.2.2.2.l.length : Int) = 60)) = true then (some (false, (⟨a0.env_, a0.subject_, a0.fuel_, y2.2.1, a0.start_, a0.now_, a0.conds_, y2.2.2.2, a0.most_, a0.isMere_, T.nilm, 6⟩ : aa_))) else ((ba_ ⟨false, [a0.now_, a0.conds_]⟩).bind fun y3 => ((appS 40 y2.2.2.2 (⟨false, [(⟨a0.start_, a1, y3⟩ : DMatch)]⟩ : Sl DMatch)).bind fun y4 => (some ((!decide ((y4.l.length : Int) = a0.most_)), (⟨a0.env_, a0.subject_, a0.fuel_, y2.2.1, a0.start_, a0.now_, a0.conds_, y4, a0.most_, a0.isMere_, T.nilm, y2.2.2.1⟩ : aa_)))))))))
theorem gm_ (a0 : aa_) (a1 : Int) (r : (Bool × aa_)) (h : ay_ a0 a1 = some r) (bp0 : Nat) (p0_1 p0_2 p0_3 : T) : RawS Try.prog md ext 123 [.ptr bp0 0 0 12, i4 a1] 3 (fun hs => E_bool r.1) [.box bp0 [a0.env_.t, .str a0.subject_, i4 a0.fuel_, i4 a0.steps_, i4 a0.start_, p0_1, p0_2, p0_3, i4 a0.most_, .bool a0.isMere_, T.nilm, i4 a0.code_], .flt 4 p0_1 a0.now_.t, .flt 4 p0_2 a0.conds_.t, .own true 3 p0_3 a0.matches_.t] (fun hs => a0_ bp0 r.2 hs) := by
 unfold ay_ at h
 refine b3_ rfl rfl ok_123 rfl ?_
 intro σ0 σ F σk s hS hH
 have hp0_1 : ao_ p0_1 := Heap.fltOne (hH.at 1 rfl)
 have hp0_2 : ao_ p0_2 := Heap.fltOne (hH.at 2 rfl)
 have hp0_3 : ao_ p0_3 := Heap.one (hH.at 3 rfl)
 have hS := ae_ (L' := [(0, .ptr bp0 0 0 12), (1, i4 a1)]) hS (by kernel_rfl)
 refine t_go h hS hH ?_
 refine t_RN ?_
 refine t_RU 3 ?_
 refine ad_ 0 ?_
 refine t_U 1 ?_
 refine aP_ 9 (fun hc1 => ?_) fun hc1 => ?_
 ·refine t_N ?_
  refine t_cT rfl ?_
  refine t_RU 3 ?_
  refine ad_ 0 ?_
  refine t_U 1 ?_
  refine t_gT 18 hc1 ?_
  refine t_U 1 ?_
  refine e2_ (fun y1 s σ => ∃ t1, ao_ t1 ∧ Sub [(18, .bool true), (20, .bool y1.1)] s ∧ Heap σ0 σ [.box bp0 [a0.env_.t, .str a0.subject_, i4 a0.fuel_, i4 y1.2.1, i4 a0.start_, p0_1, p0_2, t1, i4 a0.most_, .bool a0.isMere_, T.nilm, i4 y1.2.2.1], .flt 4 p0_1 a0.now_.t, .flt 4 p0_2 a0.conds_.t, .own true 3 t1 y1.2.2.2.t, .keep F σk]) ok_145 (fun y1 => ?_) fun y1 s σ HF h => ?_
  ·refine t_RN ?_
   refine t_D fun mb => ?_
   refine t_U 3 ?_
   refine ad_ 0 ?_
   refine t_U 3 ?_
   refine ad_ 0 ?_
   refine t_N ?_
   refine t_if (fun hc2 => ?_) fun hc2 => ?_
   ·refine t_RU 1 ?_
    refine er_ ok_150 ?_
    refine t_RN ?_
    refine t_RU 5 ?_
    refine aI_ 0 ?_
    refine t_U 2 ?_
    refine aI_ 0 ?_
    refine t_N ?_
    refine t_RN ?_
    refine k_eI (rT rN) ?_
    refine t_N ?_
    refine t_h (Heap.addNil · true 3) ?_
    exact cp_ (rT rN) fun he hS hH => he ▸ ⟨(T.row true 0 []), ⟨rfl, rfl⟩, (ae_ hS (by kernel_rfl)), (Heap.sel hH [1, 2, 3, 0, 5] rfl (by kernel_rfl))⟩
   refine t_RU 3 ?_
   refine ad_ 0 ?_
   refine t_U 3 ?_
   refine aI_ 0 ?_
   refine t_N ?_
   refine t_RU 3 ?_
   refine ad_ 0 ?_
   refine t_N ?_
   refine t_cF ff_ne ?_
   refine t_RN ?_
   exact cp_ (rT rN) fun he hS hH => he ▸ ⟨p0_3, hp0_3, (ae_ hS (by kernel_rfl)), hH⟩
  obtain ⟨t1, ht1, ⟨hS, hH⟩⟩ := HF
  refine t_bk h hS hH ?_
  refine t_N ?_
  intro h s σ hS hH
  obtain rfl := si_1 h
  exact aO_ [p0_1, p0_2, t1] (bq_ (v := .bool y1.1) hS rfl r_nil) rfl rfl hH
 refine t_U 1 ?_
 refine e2_ (fun y2 s σ => ∃ t2, ao_ t2 ∧ Sub [(0, .ptr bp0 0 0 12), (1, i4 a1), (9, .bool false), (11, .bool y2.1)] s ∧ Heap σ0 σ [.box bp0 [a0.env_.t, .str a0.subject_, i4 a0.fuel_, i4 y2.2.1, i4 a0.start_, p0_1, p0_2, t2, i4 a0.most_, .bool a0.isMere_, T.nilm, i4 y2.2.2.1], .flt 4 p0_1 a0.now_.t, .flt 4 p0_2 a0.conds_.t, .own true 3 t2 y2.2.2.2.t, .keep F σk]) ok_145 (fun y2 => ?_) fun y2 s σ HF h => ?_
 ·refine t_RN ?_
  refine t_D fun mb => ?_
  refine t_U 3 ?_
  refine ad_ 0 ?_
  refine t_U 3 ?_
  refine ad_ 0 ?_
  refine t_N ?_
  refine t_if (fun hc3 => ?_) fun hc3 => ?_
  ·refine t_RU 1 ?_
   refine er_ ok_150 ?_
   refine t_RN ?_
   refine t_RU 5 ?_
   refine aI_ 0 ?_
   refine t_U 2 ?_
   refine aI_ 0 ?_
   refine t_N ?_
   refine t_RN ?_
   refine k_eI (rT rN) ?_
   refine t_N ?_
   refine t_h (Heap.addNil · true 3) ?_
   exact cp_ (rT rN) fun he hS hH => he ▸ ⟨(T.row true 0 []), ⟨rfl, rfl⟩, (ae_ hS (by kernel_rfl)), (Heap.sel hH [1, 2, 3, 0, 5] rfl (by kernel_rfl))⟩
  refine t_RU 3 ?_
  refine ad_ 0 ?_
  refine t_U 3 ?_
  refine aI_ 0 ?_
  refine t_N ?_
  refine t_RU 3 ?_
  refine ad_ 0 ?_
  refine t_N ?_
  refine t_cF ff_ne ?_
  refine t_RN ?_
  exact cp_ (rT rN) fun he hS hH => he ▸ ⟨p0_3, hp0_3, (ae_ hS (by kernel_rfl)), hH⟩
 obtain ⟨t2, ht2, ⟨hS, hH⟩⟩ := HF
 refine t_bk h hS hH ?_
 refine t_N ?_
 refine t_if (fun hc4 => ?_) fun hc4 => ?_
 ·refine t_RU 3 ?_
  refine ad_ 0 ?_
  refine t_U 1 ?_
  refine t_gF 18 hc1 ?_
  refine t_N ?_
  intro h s σ hS hH
  obtain rfl := si_1 h
  exact aO_ [p0_1, p0_2, t2] (bq_ (v := .bool false) hS rfl r_nil) rfl rfl hH
 refine t_RU 3 ?_
 refine ad_ 0 ?_
 refine ks_ (a := y2.2.2.2) 3 ?_
 refine t_N ?_
 refine t_if (fun hc5 => ?_) fun hc5 => ?_
 ·refine t_RU 3 ?_
  refine aI_ 0 ?_
  refine t_N ?_
  refine t_RN ?_
  intro h s σ hS hH
  obtain rfl := si_1 h
  exact aO_ [p0_1, p0_2, t2] (bq_ (v := .bool false) hS rfl r_nil) rfl rfl hH
 refine a8_ [(22, RN), (25, RN)] ext_x fun mb σs hn0 hlt hlto => ?_
 have hlt_bp0 : bp0 < mb := hlt bp0 _ (List.Mem.head _)
 refine t_U 4 ?_
 refine ad_ 0 ?_ (hlt := by exact (Or.inr ⟨hlt_bp0, (Wc.cons (.inl (by kernel_rfl)) (Wc.cons (.inl (by kernel_rfl)) Wc.nil))⟩))
 refine t_U 3 ?_
 refine ad_ 0 ?_ (hlt := by exact (Or.inr ⟨hlt_bp0, (Wc.cons (.inl (by kernel_rfl)) (Wc.cons (.inl (by kernel_rfl)) Wc.nil))⟩))
 refine t_U 4 ?_
 refine ad_ 0 ?_ (hlt := by exact (Or.inl (by kernel_rfl)))
 refine t_U 3 ?_
 refine ad_ 0 ?_ (hlt := by exact (Or.inl (by kernel_rfl)))
 intro h s σ hS hH
 refine rW_ rfl (by exact hn0) (e := 85) (sz := 1) (vs := [p0_1, p0_2]) (zc := [(nt DCapture)]) (cs := [p0_1, p0_2]) (v := (T.row false 2 [p0_1, p0_2])) rfl hS hH (by kernel_rfl) (by kernel_rfl) (by kernel_rfl) (by kernel_rfl) (by kernel_rfl) (⟨(by simp [hp0_1.1, hp0_1.2]), (by simp [hp0_1.1, hp0_1.2]), (by simp [hp0_2.1, hp0_2.2]), (by simp [hp0_2.1, hp0_2.2]), trivial⟩) (by simp [hp0_1.1, hp0_1.2, hp0_2.1, hp0_2.2]) rfl ?_; intro t3 σ s ht3 hH hS
 have hH : Heap σ0 σ [.flt 1 t3 (T.row false 2 [p0_1, p0_2]), .box bp0 [a0.env_.t, .str a0.subject_, i4 a0.fuel_, i4 y2.2.1, i4 a0.start_, p0_1, p0_2, t2, i4 a0.most_, .bool a0.isMere_, T.nilm, i4 y2.2.2.1], .flt 4 p0_1 a0.now_.t, .flt 4 p0_2 a0.conds_.t, .own true 3 t2 y2.2.2.2.t, .keep F σk] := hH
 have hH := hH.up3.up3.up2
 obtain ⟨y3, hy3, h⟩ := bind_some h
 refine pf_ rfl (ts := [t3]) (vs := [(Sl.t (⟨false, [a0.now_, a0.conds_]⟩ : Sl (Sl DCapture)))]) rfl hS rfl rfl rfl hH (qa_ hH) hy3 ?_; intro hs σ s hl hH hS
 obtain ⟨t4, rfl⟩ := len1 hl
 have hH : Heap σ0 σ [.own true 4 t4 y3.t, .flt 1 t3 (T.row false 2 [p0_1, p0_2]), .flt 4 p0_1 a0.now_.t, .flt 4 p0_2 a0.conds_.t, .box bp0 [a0.env_.t, .str a0.subject_, i4 a0.fuel_, i4 y2.2.1, i4 a0.start_, p0_1, p0_2, t2, i4 a0.most_, .bool a0.isMere_, T.nilm, i4 y2.2.2.1], .own true 3 t2 y2.2.2.2.t, .keep F σk] := hH
 have ht4 : ao_ t4 := Heap.one hH
 refine ln_ (qs := [(0, i4 a0.start_), (1, i4 a1), (2, t4)]) (z := [i4 0, i4 0, (nt DCapture)]) (r := [i4 a0.start_, i4 a1, t4]) [[i4 a0.start_], [i4 a1], [t4]] rfl hS rfl (by kernel_rfl) (by kernel_rfl) (⟨rfl, (by kernel_rfl), rfl, (by kernel_rfl), (by simp [ht4.1, ht4.2]), (by simp [ht4.1, ht4.2]), trivial⟩) (by kernel_rfl) ?_; intro s hS
 refine t_bk h hS hH ?_
 refine k_bs (z := true) (⟨false, [(⟨a0.start_, a1, y3⟩ : DMatch)]⟩ : Sl DMatch) (fun t5 ht5 => ?_) (hb := by exact hn0) (h1 := by simp [ht4.1, ht4.2])
 refine k0_ 5 0 (fun y4 t6 hy4 ht6 => ?_) (hb := by exact hn0) (hwr := by exact fun hH b e o n h0 => Or.inr ⟨22, by kernel_rfl, fun h => h⟩)
 refine t_U 2 ?_
 refine bX_ 4 ht6 ?_ (hwr := by exact fun hH => Or.inr ⟨25, by kernel_rfl, fun h => h⟩)
 refine t_N ?_
 refine t_D fun mb => ?_
 refine t_U 3 ?_
 refine ad_ 0 ?_
 refine ks_ (a := y4) 1 ?_
 refine t_U 3 ?_
 refine ad_ 0 ?_
 refine t_N ?_
 intro h s σ hS hH
 obtain rfl := si_1 h
 exact aO_ [p0_1, p0_2, t6] (bq_ (v := .bool (!decide ((y4.l.length : Int) = a0.most_))) hS rfl r_nil) rfl rfl (Heap.sel hH [0, 3, 4, 1, 5] rfl (by kernel_rfl))
theorem gx_ (Fk : List Nat) (σq : St) (bs : Nat) : dQ_ Try.prog md ext (a0_ bs) 3 (T.fn 123 [.ptr bs 0 0 12] []) (fun e (S : aa_) => ay_ S e) Fk σq := fun e S y hs hl h => by
 obtain ⟨t1, t2, t3, rfl⟩ := len3 hl
 exact ⟨123, _, _, rfl, (gm_ S e y h bs t1 t2 t3).keep _⟩
noncomputable def c3_ (a0 : (Sl DNamed)) (a1 : DPattern) (a2 : ByteArray) (a3 : (Sl (Iv .i64))) (a4 : Int) : Option ((Sl DMatch) × Int) := ((az_ (S := (Int × (Sl DNamed) × ByteArray × Int × Int × Int × Int × Bool × Int × (Sl DCapture) × (Sl DCapture) × (Sl DMatch))) (R := ((Sl DNamed) × ByteArray × Int × Int × Int × Int × Bool × Int × (Sl DCapture) × (Sl DCapture) × (Sl DMatch))) (fun st1 => (if (decide (st1.1 < (a3.l.length : Int))) = true then ((elt a3 st1.1).bind fun y2 => ((bz_ (⟨st1.2.1, st1.2.2.1, st1.2.2.2.1, st1.2.2.2.2.1, y2.v, st1.2.2.2.2.2.2.2.2.2.1, st1.2.2.2.2.2.2.2.2.2.2.1, st1.2.2.2.2.2.2.2.2.2.2.2, st1.2.2.2.2.2.2.1, st1.2.2.2.2.2.2.2.1, T.nilm, st1.2.2.2.2.2.2.2.2.1⟩ : aa_) a1 y2.v (fun e (S : aa_) => ay_ S e)).bind fun y3 => (if (!y3.1) = true then (some (.inr (y3.2.env_, y3.2.subject_, y3.2.fuel_, y3.2.steps_, y3.2.start_, y3.2.most_, y3.2.isMere_, y3.2.code_, y3.2.now_, y3.2.conds_, y3.2.matches_))) else (some (.inl ((w4 (st1.1 + 1)), y3.2.env_, y3.2.subject_, y3.2.fuel_, y3.2.steps_, y3.2.start_, y3.2.most_, y3.2.isMere_, y3.2.code_, y3.2.now_, y3.2.conds_, y3.2.matches_)))))) else (some (.inr (st1.2.1, st1.2.2.1, st1.2.2.2.1, st1.2.2.2.2.1, st1.2.2.2.2.2.1, st1.2.2.2.2.2.2.1, st1.2.2.2.2.2.2.2.1, st1.2.2.2.2.2.2.2.2.1, st1.2.2.2.2.2.2.2.2.2.1, st1.2.2.2.2.2.2.2.2.2.2.1, st1.2.2.2.2.2.2.2.2.2.2.2))))) (0, a0, a2, a4, 0, 0, 0, false, 0, (⟨true, []⟩ : Sl DCapture), (⟨true, []⟩ : Sl DCapture), (⟨true, []⟩ : Sl DMatch))).bind fun y1 => (some (y1.2.2.2.2.2.2.2.2.2.2, y1.2.2.2.2.2.2.2.1)))
theorem gP_ (a0 : (Sl DNamed)) (a1 : DPattern) (a2 : ByteArray) (a3 : (Sl (Iv .i64))) (a4 : Int) (r : ((Sl DMatch) × Int)) (h : c3_ a0 a1 a2 a3 a4 = some r) : cl_ a0 a1 a2 a3 a4 = some r := by
 unfold c3_ at h
 refine k_O ok_69 h (fun σ0 => ?_)
 refine t_R ?_
 refine ct_ (fun b1 => ?_)
 refine t_N ?_
 refine t_RU 4 ?_
 refine ct_ (fun b2 => ?_)
 refine t_N ?_
 refine t_RU 2 ?_
 refine er_ ok_89 ?_
 refine t_RN ?_
 refine t_h (Heap.addNil · true 4) ?_
 refine pp_ 4 0 ?_
 refine t_h (Heap.addNil · true 4) ?_
 refine pp_ 4 0 ?_
 refine t_h (Heap.addNil · true 3) ?_
 refine a6_ (fun st1 fr => ∃ t4, ao_ t4 ∧ ∃ t5, ao_ t5 ∧ ∃ t6, ao_ t6 ∧ Sub [(0, .ptr b2 0 0 12), (1, .ptr b1 0 0 4), (8, a3.t), (9, i4 (a3.l.length : Int)), (10, i4 st1.1)] fr.s ∧ Heap σ0 fr.σ [.box b2 [st1.2.1.t, .str st1.2.2.1, i4 st1.2.2.2.1, i4 st1.2.2.2.2.1, i4 st1.2.2.2.2.2.1, t4, t5, t6, i4 st1.2.2.2.2.2.2.1, .bool st1.2.2.2.2.2.2.2.1, T.nilm, i4 st1.2.2.2.2.2.2.2.2.1], .box b1 [i4 a1.Kind, i4 a1.Num, .str a1.Text, a1.Kids.t], .flt 4 t4 st1.2.2.2.2.2.2.2.2.2.1.t, .flt 4 t5 st1.2.2.2.2.2.2.2.2.2.2.1.t, .own true 3 t6 st1.2.2.2.2.2.2.2.2.2.2.2.t]) (fun y1 e fr => ∃ t7, ao_ t7 ∧ ∃ t8, ao_ t8 ∧ ∃ t9, ao_ t9 ∧ e = (.exit 0) ∧ Sub [] fr.s ∧ Heap σ0 fr.σ [.box b2 [y1.1.t, .str y1.2.1, i4 y1.2.2.1, i4 y1.2.2.2.1, i4 y1.2.2.2.2.1, t7, t8, t9, i4 y1.2.2.2.2.2.1, .bool y1.2.2.2.2.2.2.1, T.nilm, i4 y1.2.2.2.2.2.2.2.1], .flt 4 t7 y1.2.2.2.2.2.2.2.2.1.t, .flt 4 t8 y1.2.2.2.2.2.2.2.2.2.1.t, .own true 3 t9 y1.2.2.2.2.2.2.2.2.2.2.t]) (fun hS hH => ⟨(T.row true 0 []), ⟨rfl, rfl⟩, (T.row true 0 []), ⟨rfl, rfl⟩, (T.row true 0 []), ⟨rfl, rfl⟩, (ae_ hS (by kernel_rfl)), (Heap.sel hH [3, 4, 2, 1, 0] rfl (by kernel_rfl))⟩) (fun st1 x fr h HI => ?_) fun y1 e fr h HF => ?_
 ·obtain ⟨s, σ⟩ := fr; obtain ⟨t4, ht4, ⟨t5, ht5, ⟨t6, ht6, ⟨hS, hH⟩⟩⟩⟩ := HI
  refine t_bk h hS hH ?_
  refine t_RN ?_
  refine t_if (fun hc1 => ?_) fun hc1 => ?_
  ·refine t_R ?_
   refine ci_ fun y2 rest1 hy2 => ?_
   refine t_N ?_
   refine t_RU 4 ?_
   refine aI_ 0 ?_
   refine t_N ?_
   refine t_RU 5 ?_
   refine t_h Heap.up1 ?_
   intro h s σ hS hH
   obtain ⟨Fq1, σq1, hH, hU1, hB1, hK1⟩ := Heap.wrapN (A := [.box b1 [i4 a1.Kind, i4 a1.Num, .str a1.Text, a1.Kids.t]]) hH
   have hH := hH.up4.up4.up4.up4
   refine t_bk h hS hH ?_
   refine aH_ (fun y3 hs hy3 hl => ?_) (hr := by exact fun y3 hy3 => gn_ _ _ _ _ y3 hy3 Fq1 σq1 b2 t4 t5 t6 (.ptr b1 0 0 4) (Pt.box rfl (hB1 _ _ (List.Mem.head _))) (T.fn 123 [.ptr b2 0 0 12] []) ⟨rfl, rfl⟩ (gx_ Fq1 σq1 b2))
   obtain ⟨t10, t11, t12, rfl⟩ := len3 hl
   refine bf_ ?_
   refine au_ 1 fun ht10 => ?_
   refine au_ 2 fun ht11 => ?_
   refine au_ 3 fun ht12 => ?_
   refine t_h Heap.up4 ?_
   intro h s σ hS hH
   have hH := hU1 _ _ hH
   have hH : Heap σ0 σ [.box b1 [i4 a1.Kind, i4 a1.Num, .str a1.Text, a1.Kids.t], .box b2 [y3.2.env_.t, .str y3.2.subject_, i4 y3.2.fuel_, i4 y3.2.steps_, i4 y3.2.start_, t10, t11, t12, i4 y3.2.most_, .bool y3.2.isMere_, T.nilm, i4 y3.2.code_], .flt 4 t10 y3.2.now_.t, .flt 4 t11 y3.2.conds_.t, .own true 3 t12 y3.2.matches_.t] := hH
   refine t_bk h hS hH ?_
   refine t_N ?_
   refine t_if (fun hc2 => ?_) fun hc2 => ?_
   ·exact t_e fun he hS hH => he ▸ ⟨t10, ht10, t11, ht11, t12, ht12, rfl, (ae_ hS (by kernel_rfl)), (Heap.sel hH [1, 2, 3, 4] rfl (by kernel_rfl))⟩
   refine t_RN ?_
   exact t_e fun he hS hH => he ▸ ⟨t10, ht10, t11, ht11, t12, ht12, (ae_ hS (by kernel_rfl)), (Heap.sel hH [1, 0, 2, 3, 4] rfl (by kernel_rfl))⟩
  exact t_e fun he hS hH => he ▸ ⟨t4, ht4, t5, ht5, t6, ht6, rfl, (ae_ hS (by kernel_rfl)), (Heap.sel hH [0, 2, 3, 4] rfl (by kernel_rfl))⟩
 obtain ⟨s, σ⟩ := fr
 obtain ⟨t7, ht7, ⟨t8, ht8, ⟨t9, ht9, ⟨rfl, hS, hH⟩⟩⟩⟩ := HF
 refine t_bx h hS hH ?_
 refine k_eI rN ?_
 refine t_N ?_
 refine t_D fun mb => ?_
 refine t_U 3 ?_
 refine ad_ 0 ?_
 refine t_U 3 ?_
 refine ad_ 0 ?_
 refine t_N ?_
 refine t_h Heap.up3 ?_
 exact k_eO [t9] (rT (rT rN))
noncomputable def eb_ (a0 : ByteArray) (a1 : Bool) : Option (Sl (Iv .i64)) := ((az_ (S := (Int × (Sl (Iv .i64)))) (R := (Sl (Iv .i64))) (fun st1 => (if (decide (st1.1 ≤ (a0.size : Int))) = true then (if (!a1) = true then ((appS 8 st1.2 (⟨false, [⟨st1.1⟩]⟩ : Sl (Iv .i64))).bind fun y2 => (some (.inl ((w4 (st1.1 + 1)), y2)))) else (some (.inr st1.2))) else (some (.inr st1.2)))) (1, (⟨false, [⟨0⟩]⟩ : Sl (Iv .i64)))).bind fun y1 => (some y1))
theorem ik_ (a0 : ByteArray) (a1 : Bool) (r : (Sl (Iv .i64))) (h : eb_ a0 a1 = some r) : c6_ a0 a1 = some r := by
 unfold eb_ at h
 refine k_O ok_70 h (fun σ0 => ?_)
 refine t_RN ?_
 refine t_R ?_
 refine k_bs (z := true) (⟨false, [⟨0⟩]⟩ : Sl (Iv .i64)) (fun t1 ht1 => ?_)
 refine t_N ?_
 refine t_RN ?_
 refine a6_ (fun st1 fr => ∃ t3, ao_ t3 ∧ Sub [(0, .str a0), (1, .bool a1), (5, t3), (6, i4 st1.1)] fr.s ∧ Heap σ0 fr.σ [.own true 1 t3 st1.2.t]) (fun y1 e fr => ∃ t4, ao_ t4 ∧ e = (.exit 0) ∧ Sub [(5, t4)] fr.s ∧ Heap σ0 fr.σ [.own true 1 t4 y1.t]) (fun hS hH => ⟨t1, ht1, (ae_ hS (by kernel_rfl)), hH⟩) (fun st1 x fr h HI => ?_) fun y1 e fr h HF => ?_
 ·obtain ⟨s, σ⟩ := fr; obtain ⟨t3, ht3, ⟨hS, hH⟩⟩ := HI
  refine t_bk h hS hH ?_
  refine t_RU 5 ?_
  refine aP_ 12 (fun hc1 => ?_) fun hc1 => ?_
  ·refine t_N ?_
   refine t_if (fun hc2 => ?_) fun hc2 => ?_
   ·refine t_RU 2 ?_
    refine k_bs (z := true) (⟨false, [⟨st1.1⟩]⟩ : Sl (Iv .i64)) (fun t5 ht5 => ?_)
    refine k0_ 1 0 (fun y2 t6 hy2 ht6 => ?_)
    refine t_N ?_
    refine t_RN ?_
    exact t_e fun he hS hH => he ▸ ⟨t6, ht6, (ae_ hS (by kernel_rfl)), hH⟩
   exact t_e fun he hS hH => he ▸ ⟨t3, ht3, rfl, (ae_ hS (by kernel_rfl)), hH⟩
  refine t_N ?_
  refine t_cF ff_ne ?_
  exact t_e fun he hS hH => he ▸ ⟨t3, ht3, rfl, (ae_ hS (by kernel_rfl)), hH⟩
 obtain ⟨s, σ⟩ := fr
 obtain ⟨t4, ht4, ⟨rfl, hS, hH⟩⟩ := HF
 refine t_bx h hS hH ?_
 refine t_RN ?_
 exact k_eO [t4] (rT rN)
noncomputable def bO_ (a0 : (Sl DMatch)) (a1 : (Sl DMatch)) (a2 : T) : Option Bool := (if flat1 a2 = true then (if ((!decide ((a0.l.length : Int) = (a1.l.length : Int)))) = true then (some false) else ((az_ (S := Int) (R := (Unit ⊕ Bool)) (fun st1 => (if (decide (st1 < (a0.l.length : Int))) = true then ((elt a0 st1).bind fun y2 => ((elt a1 st1).bind fun y3 => ((ia_ Try.prog md ext E_bool a2 [.agg (DMatch.cells y2), .agg (DMatch.cells y3)]).bind fun y4 => (if (!y4) = true then (some (.inr (.inr false))) else (some (.inl (w4 (st1 + 1)))))))) else (some (.inr (.inl ()))))) 0).bind fun y1 => (Sum.elim (fun y1 => (some true)) (fun y1 => (some y1)) y1))) else none)
theorem eS_ (a0 : (Sl DMatch)) (a1 : (Sl DMatch)) (a2 : T) (r : Bool) (h : bO_ a0 a1 a2 = some r) : bS_ a0 a1 a2 = some r := by
 unfold bO_ at h
 obtain ⟨hf_a2, h⟩ := hQ_ h
 refine k_W ok_71 E_bool_inj h (fun σ0 => ?_) (hf := (all_cons (by kernel_rfl) (all_cons (by kernel_rfl) (all_cons (jC_ hf_a2) all_nil))))
 refine t_RN ?_
 refine t_RN ?_
 refine t_if (fun hc1 => ?_) fun hc1 => ?_
 ·refine t_RN ?_
  exact k_eW (rT rN) E_bool_p
 refine t_RN ?_
 refine a6_ (fun st1 fr => Sub [(1, a1.t), (2, a2), (15, a0.t), (16, i4 (a0.l.length : Int)), (17, i4 st1)] fr.s ∧ Heap σ0 fr.σ []) (fun y1 e fr => (Sum.elim (fun y => e = (.exit 0) ∧ Sub [] fr.s ∧ Heap σ0 fr.σ []) (fun y => e = .ret ∧ endW Try.prog (Try.f71.results.toList) σ0 (E_bool y) .ret fr)) y1) (fun hS hH => ⟨(ae_ hS (by kernel_rfl)), hH⟩) (fun st1 x fr h HI => ?_) fun y1 e fr h HF => ?_
 ·obtain ⟨s, σ⟩ := fr; obtain ⟨hS, hH⟩ := HI
  refine t_bk h hS hH ?_
  refine t_RN ?_
  refine t_if (fun hc2 => ?_) fun hc2 => ?_
  ·refine t_RU 1 ?_
   refine ci_ fun y2 rest1 hy2 => ?_
   refine t_U 1 ?_
   refine bp_ fun b1 => ?_
   refine t_U 1 ?_
   refine aL_ 0 ?_
   refine t_N ?_
   refine t_RU 2 ?_
   refine ci_ fun y3 rest2 hy3 => ?_
   refine t_U 1 ?_
   refine bp_ fun b2 => ?_
   refine aL_ 0 ?_
   refine t_N ?_
   refine t_RU 1 ?_
   refine ad_ 1 ?_
   refine ad_ 0 ?_
   refine ll_ fun y4 hy4 => ?_
   refine t_N ?_
   refine t_if (fun hc3 => ?_) fun hc3 => ?_
   ·refine t_RN ?_
    exact t_e fun he hS hH => he ▸ ⟨rfl, (eW hS hH (rT rN) E_bool_p)⟩
   refine t_RN ?_
   exact t_e fun he hS hH => he ▸ ⟨(ae_ hS (by kernel_rfl)), (Heap.sel hH [] rfl (by kernel_rfl))⟩
  exact t_e fun he hS hH => he ▸ ⟨rfl, (ae_ hS (by kernel_rfl)), hH⟩
 obtain ⟨s, σ⟩ := fr
 rcases y1 with y1 | y1
 ·have h := el_l h
  obtain ⟨rfl, hS, hH⟩ := HF
  refine t_bx h hS hH ?_
  refine t_RN ?_
  exact k_eW (rT rN) E_bool_p
 have h := el_r h
 obtain ⟨rfl, HE⟩ := HF
 obtain rfl := si_1 h; exact HE
noncomputable def dH_ (a0 : DMatch) (a1 : DMatch) : Option Bool := (if (decide (a0.Start = a1.Start)) = true then (if (decide (a0.End = a1.End)) = true then ((cj_ a0.Captures a1.Captures).bind fun y1 => (some y1)) else (some false)) else (some false))
theorem hz_ (a0 : DMatch) (a1 : DMatch) (r : Bool) (h : dH_ a0 a1 = some r) : dJ_ a0 a1 = some r := by
 unfold dH_ at h
 refine k_W ok_72 E_bool_inj h (fun σ0 => ?_)
 refine t_R ?_
 refine ct_ (fun b1 => ?_)
 refine ct_ (fun b2 => ?_)
 refine t_N ?_
 refine t_RU 1 ?_
 refine ad_ 1 ?_
 refine t_U 1 ?_
 refine ad_ 0 ?_
 refine t_U 2 ?_
 refine aP_ 10 (fun hc1 => ?_) fun hc1 => ?_
 ·refine t_U 1 ?_
  refine ad_ 1 ?_
  refine t_U 1 ?_
  refine ad_ 0 ?_
  refine t_U 3 ?_
  refine aP_ 17 (fun hc2 => ?_) fun hc2 => ?_
  ·refine t_U 1 ?_
   refine ad_ 1 ?_
   refine t_U 1 ?_
   refine ad_ 0 ?_
   refine ap_ fun y1 hy1 => ?_
   refine t_N ?_
   exact k_eW (rT rN) E_bool_p
  refine t_N ?_
  exact k_eW (rT rN) E_bool_p
 refine t_N ?_
 exact k_eW (rT rN) E_bool_p
noncomputable def fO_ (a0 : (Sl (Iv .i64))) : Option Int := ((az_ (S := Int) (R := (Unit ⊕ Int)) (fun st1 => (if (decide (st1 < (a0.l.length : Int))) = true then ((elt a0 st1).bind fun y2 => (if (!decide (y2.v = 0)) = true then (some (.inr (.inr y2.v))) else (some (.inl (w4 (st1 + 1)))))) else (some (.inr (.inl ()))))) 0).bind fun y1 => (Sum.elim (fun y1 => (some 0)) (fun y1 => (some y1)) y1))
theorem kP_ (a0 : (Sl (Iv .i64))) (r : Int) (h : fO_ a0 = some r) : fB_ a0 = some r := by
 unfold fO_ at h
 refine k_W ok_73 E_i64_inj h (fun σ0 => ?_)
 refine t_RN ?_
 refine t_RN ?_
 refine a6_ (fun st1 fr => Sub [(5, a0.t), (6, i4 (a0.l.length : Int)), (7, i4 st1)] fr.s ∧ Heap σ0 fr.σ []) (fun y1 e fr => (Sum.elim (fun y => e = (.exit 0) ∧ Sub [] fr.s ∧ Heap σ0 fr.σ []) (fun y => e = .ret ∧ endW Try.prog (Try.f73.results.toList) σ0 (E_i64 y) .ret fr)) y1) (fun hS hH => ⟨(ae_ hS (by kernel_rfl)), hH⟩) (fun st1 x fr h HI => ?_) fun y1 e fr h HF => ?_
 ·obtain ⟨s, σ⟩ := fr; obtain ⟨hS, hH⟩ := HI
  refine t_bk h hS hH ?_
  refine t_RN ?_
  refine t_if (fun hc1 => ?_) fun hc1 => ?_
  ·refine t_R ?_
   refine ci_ fun y2 rest1 hy2 => ?_
   refine t_N ?_
   refine t_RN ?_
   refine t_if (fun hc2 => ?_) fun hc2 => ?_
   ·refine t_RN ?_
    exact t_e fun he hS hH => he ▸ ⟨rfl, (eW hS hH (rT rN) E_i64_p)⟩
   refine t_RN ?_
   exact t_e fun he hS hH => he ▸ ⟨(ae_ hS (by kernel_rfl)), hH⟩
  exact t_e fun he hS hH => he ▸ ⟨rfl, (ae_ hS (by kernel_rfl)), hH⟩
 obtain ⟨s, σ⟩ := fr
 rcases y1 with y1 | y1
 ·have h := el_l h
  obtain ⟨rfl, hS, hH⟩ := HF
  refine t_bx h hS hH ?_
  refine t_RN ?_
  exact k_eW (rT rN) E_i64_p
 have h := el_r h
 obtain ⟨rfl, HE⟩ := HF
 obtain rfl := si_1 h; exact HE
noncomputable def fc_ (a0 : Bool) (a1 : Int) : Option Int := (if a0 = true then (some 0) else (some a1))
theorem i5_ (a0 : Bool) (a1 : Int) (r : Int) (h : fc_ a0 a1 = some r) : dV_ a0 a1 = some r := by
 unfold fc_ at h
 refine k_W ok_74 E_i64_inj h (fun σ0 => ?_)
 refine t_RN ?_
 refine t_RN ?_
 refine t_if (fun hc1 => ?_) fun hc1 => ?_
 ·refine t_RN ?_
  exact k_eW (rT rN) E_i64_p
 refine t_RN ?_
 exact k_eW (rT rN) E_i64_p
noncomputable def fi_ (a0 : Int) (a1 : Int) (a2 : Int) : Option Bool := (if (decide (a1 ≤ a0)) = true then (some (decide (a0 ≤ a2))) else (some false))
theorem jo_ (a0 : Int) (a1 : Int) (a2 : Int) (r : Bool) (h : fi_ a0 a1 a2 = some r) : bI_ a0 a1 a2 = some r := by
 unfold fi_ at h
 refine k_W ok_75 E_bool_inj h (fun σ0 => ?_)
 refine t_RN ?_
 refine t_RU 4 ?_
 refine aP_ 10 (fun hc1 => ?_) fun hc1 => ?_
 ·refine t_N ?_
  exact k_eW (rT rN) E_bool_p
 refine t_N ?_
 exact k_eW (rT rN) E_bool_p
noncomputable def bD_ (a0 : DPattern) (a1 : Int) : Option Int := (if (decide (60 < (w4 (a1 + 1)))) = true then (some 61) else ((dk_ a0.Kind a0.Num a0.Text).bind fun y1 => (if (!y1) = true then (some 61) else ((fh_ a0.Kind).bind fun y2 => (if (!decide ((a0.Kids.l.length : Int) = y2)) = true then (some 61) else ((az_ (S := (Int × Int)) (R := Int) (fun st1 => (if (decide (st1.2 < (a0.Kids.l.length : Int))) = true then ((elt a0.Kids st1.2).bind fun y4 => ((aA_ y4 st1.1).bind fun y5 => (if (decide (60 < y5)) = true then (some (.inr y5)) else (some (.inl (y5, (w4 (st1.2 + 1)))))))) else (some (.inr st1.1)))) ((w4 (a1 + 1)), 0)).bind fun y3 => (some y3)))))))
theorem eq_ (a0 : DPattern) (a1 : Int) (r : Int) (h : bD_ a0 a1 = some r) : aA_ a0 a1 = some r := by
 unfold bD_ at h
 refine k_W ok_80 E_i64_inj h (fun σ0 => ?_)
 refine t_R ?_
 refine ct_ (fun b1 => ?_)
 refine t_N ?_
 refine t_RN ?_
 refine t_D fun mb => ?_
 refine t_U 3 ?_
 refine aP_ 11 (fun hc1 => ?_) fun hc1 => ?_
 ·refine t_N ?_
  refine t_cT rfl ?_
  refine t_RN ?_
  exact k_eW (rT rN) E_i64_p
 refine t_U 1 ?_
 refine ad_ 0 ?_
 refine t_U 1 ?_
 refine ad_ 0 ?_
 refine t_U 1 ?_
 refine ad_ 0 ?_
 refine ap_ fun y1 hy1 => ?_
 refine t_U 3 ?_
 refine aP_ 21 (fun hc2 => ?_) fun hc2 => ?_
 ·refine t_N ?_
  refine t_cT rfl ?_
  refine t_RN ?_
  exact k_eW (rT rN) E_i64_p
 refine t_U 1 ?_
 refine ad_ 0 ?_
 refine t_U 2 ?_
 refine ad_ 0 ?_
 refine ap_ fun y2 hy2 => ?_
 refine t_N ?_
 refine t_if (fun hc3 => ?_) fun hc3 => ?_
 ·refine t_RN ?_
  exact k_eW (rT rN) E_i64_p
 refine t_RU 1 ?_
 refine ad_ 0 ?_
 refine t_N ?_
 refine a6_ (fun st1 fr => Sub [(1, i4 st1.1), (31, a0.Kids.t), (32, i4 (a0.Kids.l.length : Int)), (33, i4 st1.2)] fr.s ∧ Heap σ0 fr.σ []) (fun y3 e fr => e = (.exit 0) ∧ Sub [(1, i4 y3)] fr.s ∧ Heap σ0 fr.σ []) (fun hS hH => ⟨(ae_ hS (by kernel_rfl)), (Heap.sel hH [] rfl (by kernel_rfl))⟩) (fun st1 x fr h HI => ?_) fun y3 e fr h HF => ?_
 ·obtain ⟨s, σ⟩ := fr; obtain ⟨hS, hH⟩ := HI
  refine t_bk h hS hH ?_
  refine t_RN ?_
  refine t_if (fun hc4 => ?_) fun hc4 => ?_
  ·refine t_R ?_
   refine ci_ fun y4 rest1 hy4 => ?_
   refine t_U 1 ?_
   refine bp_ fun b2 => ?_
   refine aL_ 0 ?_
   refine t_N ?_
   refine t_R ?_
   refine ad_ 0 ?_
   refine t_U 1 ?_
   refine ap_ fun y5 hy5 => ?_
   refine t_N ?_
   refine t_RN ?_
   refine t_if (fun hc5 => ?_) fun hc5 => ?_
   ·exact t_e fun he hS hH => he ▸ ⟨rfl, (ae_ hS (by kernel_rfl)), (Heap.sel hH [] rfl (by kernel_rfl))⟩
   refine t_RN ?_
   exact t_e fun he hS hH => he ▸ ⟨(ae_ hS (by kernel_rfl)), (Heap.sel hH [] rfl (by kernel_rfl))⟩
  exact t_e fun he hS hH => he ▸ ⟨rfl, (ae_ hS (by kernel_rfl)), hH⟩
 obtain ⟨s, σ⟩ := fr
 obtain ⟨rfl, hS, hH⟩ := HF
 refine t_bx h hS hH ?_
 refine t_RN ?_
 exact k_eW (rT rN) E_i64_p
noncomputable def eF_ (a0 : ByteArray) : Option Bool := (some (decide ((a0.size : Int) ≤ 200)))
theorem iy_ (a0 : ByteArray) (r : Bool) (h : eF_ a0 = some r) : cI_ a0 = some r := by
 unfold eF_ at h
 refine k_W ok_88 E_bool_inj h (fun σ0 => ?_)
 refine t_RN ?_
 refine t_RN ?_
 exact k_eW (rT rN) E_bool_p
noncomputable def fk_ (a0 : (Sl DNamed)) (a1 : DPattern) (a2 : ByteArray) (a3 : Int) : Option Int := ((ep_ a0).bind fun y1 => (if (!y1) = true then (some 1) else ((b1_ a1).bind fun y2 => (if (!y2) = true then (some 1) else (if (decide (200 < (a2.size : Int))) = true then (some 1) else ((cq_ a3 0 20000).bind fun y3 => (if (!y3) = true then (some 3) else (some 0))))))))
theorem jN_ (a0 : (Sl DNamed)) (a1 : DPattern) (a2 : ByteArray) (a3 : Int) (r : Int) (h : fk_ a0 a1 a2 a3 = some r) : gF_ a0 a1 a2 a3 = some r := by
 unfold fk_ at h
 refine k_W ok_93 E_i64_inj h (fun σ0 => ?_)
 refine t_R ?_
 refine ct_ (fun b1 => ?_)
 refine t_N ?_
 refine t_RU 1 ?_
 refine ap_ fun y1 hy1 => ?_
 refine t_U 2 ?_
 refine aP_ 12 (fun hc1 => ?_) fun hc1 => ?_
 ·refine t_N ?_
  refine t_cT rfl ?_
  refine t_RN ?_
  exact k_eW (rT rN) E_i64_p
 refine ad_ 0 ?_
 refine ap_ fun y2 hy2 => ?_
 refine t_U 3 ?_
 refine aP_ 17 (fun hc2 => ?_) fun hc2 => ?_
 ·refine t_N ?_
  refine t_cT rfl ?_
  refine t_RN ?_
  exact k_eW (rT rN) E_i64_p
 refine t_N ?_
 refine t_if (fun hc3 => ?_) fun hc3 => ?_
 ·refine t_RN ?_
  exact k_eW (rT rN) E_i64_p
 refine t_RU 1 ?_
 refine ap_ fun y3 hy3 => ?_
 refine t_N ?_
 refine t_if (fun hc4 => ?_) fun hc4 => ?_
 ·refine t_RN ?_
  exact k_eW (rT rN) E_i64_p
 refine t_RN ?_
 exact k_eW (rT rN) E_i64_p
noncomputable def dN_ (a0 : ByteArray) (a1 : Bool) : Option (Sl (Iv .i64)) := ((az_ (S := (Int × (Sl (Iv .i64)))) (R := (Sl (Iv .i64))) (fun st1 => (if (decide (st1.1 ≤ (a0.size : Int))) = true then (if (!a1) = true then ((appS 8 st1.2 (⟨false, [⟨st1.1⟩]⟩ : Sl (Iv .i64))).bind fun y2 => (some (.inl ((w4 (st1.1 + 1)), y2)))) else (some (.inr st1.2))) else (some (.inr st1.2)))) (1, (⟨false, [⟨0⟩]⟩ : Sl (Iv .i64)))).bind fun y1 => (some y1))
theorem hs_ (a0 : ByteArray) (a1 : Bool) (r : (Sl (Iv .i64))) (h : dN_ a0 a1 = some r) : fw_ a0 a1 = some r := by
 unfold dN_ at h
 refine k_O ok_101 h (fun σ0 => ?_)
 refine t_RN ?_
 refine t_R ?_
 refine k_bs (z := true) (⟨false, [⟨0⟩]⟩ : Sl (Iv .i64)) (fun t1 ht1 => ?_)
 refine t_N ?_
 refine t_RN ?_
 refine a6_ (fun st1 fr => ∃ t3, ao_ t3 ∧ Sub [(0, .str a0), (1, .bool a1), (5, t3), (6, i4 st1.1)] fr.s ∧ Heap σ0 fr.σ [.own true 1 t3 st1.2.t]) (fun y1 e fr => ∃ t4, ao_ t4 ∧ e = (.exit 0) ∧ Sub [(5, t4)] fr.s ∧ Heap σ0 fr.σ [.own true 1 t4 y1.t]) (fun hS hH => ⟨t1, ht1, (ae_ hS (by kernel_rfl)), hH⟩) (fun st1 x fr h HI => ?_) fun y1 e fr h HF => ?_
 ·obtain ⟨s, σ⟩ := fr; obtain ⟨t3, ht3, ⟨hS, hH⟩⟩ := HI
  refine t_bk h hS hH ?_
  refine t_RU 5 ?_
  refine aP_ 12 (fun hc1 => ?_) fun hc1 => ?_
  ·refine t_N ?_
   refine t_if (fun hc2 => ?_) fun hc2 => ?_
   ·refine t_RU 2 ?_
    refine k_bs (z := true) (⟨false, [⟨st1.1⟩]⟩ : Sl (Iv .i64)) (fun t5 ht5 => ?_)
    refine k0_ 1 0 (fun y2 t6 hy2 ht6 => ?_)
    refine t_N ?_
    refine t_RN ?_
    exact t_e fun he hS hH => he ▸ ⟨t6, ht6, (ae_ hS (by kernel_rfl)), hH⟩
   exact t_e fun he hS hH => he ▸ ⟨t3, ht3, rfl, (ae_ hS (by kernel_rfl)), hH⟩
  refine t_N ?_
  refine t_cF ff_ne ?_
  exact t_e fun he hS hH => he ▸ ⟨t3, ht3, rfl, (ae_ hS (by kernel_rfl)), hH⟩
 obtain ⟨s, σ⟩ := fr
 obtain ⟨t4, ht4, ⟨rfl, hS, hH⟩⟩ := HF
 refine t_bx h hS hH ?_
 refine t_RN ?_
 exact k_eO [t4] (rT rN)
noncomputable def eL_ (a0 : DPattern) : Option DPattern := ((az_ (S := (Int × (Sl DPattern))) (R := (Sl DPattern)) (fun st1 => (if (decide (st1.1 < (a0.Kids.l.length : Int))) = true then ((elt a0.Kids st1.1).bind fun y2 => ((bu_ y2).bind fun y3 => ((appS 56 st1.2 (⟨false, [y3]⟩ : Sl DPattern)).bind fun y4 => (some (.inl ((w4 (st1.1 + 1)), y4)))))) else (some (.inr st1.2)))) (0, (⟨true, []⟩ : Sl DPattern))).bind fun y1 => (some (⟨a0.Kind, a0.Num, a0.Text, y1⟩ : DPattern)))
theorem is_ (a0 : DPattern) (r : DPattern) (h : eL_ a0 = some r) : bu_ a0 = some r := by
 unfold eL_ at h
 refine k_O ok_104 h (fun σ0 => ?_)
 refine t_R ?_
 refine ct_ (fun b1 => ?_)
 refine bp_ fun b2 => ?_
 refine t_N ?_
 refine t_RU 1 ?_
 refine ad_ 1 ?_
 refine t_U 1 ?_
 refine ad_ 1 ?_
 refine t_U 1 ?_
 refine ad_ 1 ?_
 refine t_U 1 ?_
 refine bp_ fun b3 => ?_
 refine aL_ 0 ?_
 refine t_N ?_
 refine t_RN ?_
 refine t_h (Heap.addNil · true 4) ?_
 refine a6_ (fun st1 fr => ∃ t2, ao_ t2 ∧ Sub [(1, .ptr b1 0 0 4), (2, .ptr b2 0 0 4), (3, .ptr b3 0 0 4), (4, i4 st1.1)] fr.s ∧ Heap σ0 fr.σ [.box b3 [i4 a0.Kind, i4 a0.Num, .str a0.Text, t2], .box b2 [i4 0, i4 0, .str ⟨#[]⟩, (nt DPattern)], .box b1 [i4 a0.Kind, i4 a0.Num, .str a0.Text, a0.Kids.t], .own true 4 t2 st1.2.t]) (fun y1 e fr => ∃ t3, ao_ t3 ∧ e = (.exit 0) ∧ Sub [(2, .ptr b2 0 0 4), (3, .ptr b3 0 0 4)] fr.s ∧ Heap σ0 fr.σ [.box b3 [i4 a0.Kind, i4 a0.Num, .str a0.Text, t3], .box b2 [i4 0, i4 0, .str ⟨#[]⟩, (nt DPattern)], .own true 4 t3 y1.t]) (fun hS hH => ⟨(T.row true 0 []), ⟨rfl, rfl⟩, (ae_ hS (by kernel_rfl)), (Heap.sel hH [1, 2, 3, 0] rfl (by kernel_rfl))⟩) (fun st1 x fr h HI => ?_) fun y1 e fr h HF => ?_
 ·obtain ⟨s, σ⟩ := fr; obtain ⟨t2, ht2, ⟨hS, hH⟩⟩ := HI
  refine t_bk h hS hH ?_
  refine t_RU 2 ?_
  refine ad_ 2 ?_
  refine t_N ?_
  refine t_if (fun hc1 => ?_) fun hc1 => ?_
  ·refine a8_ [(9, RN), (11, RN)] ext_x fun mb σs hn0 hlt hlto => ?_
   have hlt_b3 : b3 < mb := hlt b3 _ (List.Mem.head _)
   refine t_U 1 ?_
   refine ad_ 0 ?_ (hlt := by exact (Or.inr ⟨hlt_b3, (Wc.cons (.inl (by kernel_rfl)) (Wc.cons (.inl (by kernel_rfl)) Wc.nil))⟩))
   refine t_U 1 ?_
   refine ad_ 2 ?_ (hlt := by exact (Or.inl (by kernel_rfl)))
   refine t_U 1 ?_
   refine ci_ fun y2 rest1 hy2 => ?_
   refine t_U 1 ?_
   refine f4_ (fun y3 t4 hy3 ht4 => ?_)
   refine k_bs (z := true) (⟨false, [y3]⟩ : Sl DPattern) (fun t5 ht5 => ?_) (hb := by exact hn0) (h1 := by simp [ht4.1, ht4.2])
   refine k0_ 4 0 (fun y4 t6 hy4 ht6 => ?_) (hb := by exact hn0) (hwr := by exact fun hH b e o n h0 => Or.inr ⟨9, by kernel_rfl, fun h => h⟩)
   refine t_U 1 ?_
   refine bX_ 1 ht6 ?_ (hwr := by exact fun hH => Or.inr ⟨11, by kernel_rfl, fun h => h⟩)
   refine t_N ?_
   refine t_RN ?_
   exact t_e fun he hS hH => he ▸ ⟨t6, ht6, (ae_ hS (by kernel_rfl)), (Heap.sel hH [0, 2, 3, 1] rfl (by kernel_rfl))⟩
  exact t_e fun he hS hH => he ▸ ⟨t2, ht2, rfl, (ae_ hS (by kernel_rfl)), (Heap.sel hH [0, 1, 3] rfl (by kernel_rfl))⟩
 obtain ⟨s, σ⟩ := fr
 obtain ⟨t3, ht3, ⟨rfl, hS, hH⟩⟩ := HF
 refine t_bx h hS hH ?_
 refine t_R ?_
 refine ad_ 0 ?_
 refine aL_ 1 ?_ (h1 := by simp [ht3.1, ht3.2])
 refine t_N ?_
 refine t_h Heap.up2 ?_
 exact k_eO [t3] (rC 1 rN)
noncomputable def eI_ (a0 : Int) : Option (Int × ByteArray) := (if (decide (a0 = 1)) = true then (some (0, ⟨#[115]⟩)) else ((gg_ a0).bind fun y1 => ((az_ (S := (Int × ByteArray × Int)) (R := (Int × ByteArray)) (fun st1 => (if (decide (st1.2.2 < (y1.2.size : Int))) = true then ((aU_ y1.2 st1.2.2).bind fun y3 => (if (decide (y3 = 112)) = true then (some (.inl ((w4 (st1.1 + 1)), st1.2.1, (w4 (st1.2.2 + 1))))) else ((subB y1.2 st1.2.2 (w4 (st1.2.2 + 1))).bind fun y4 => ((catB st1.2.1 y4).bind fun y5 => (some (.inl (st1.1, y5, (w4 (st1.2.2 + 1))))))))) else (some (.inr (st1.1, st1.2.1))))) (0, ⟨#[]⟩, 0)).bind fun y2 => (some (y2.1, y2.2)))))
theorem gd_ (a0 : Int) (r : (Int × ByteArray)) (h : eI_ a0 = some r) : ch_ a0 = some r := by
 unfold eI_ at h
 refine k_W ok_107 E_t2_i64_str_inj h (fun σ0 => ?_)
 refine t_RN ?_
 refine t_RN ?_
 refine t_if (fun hc1 => ?_) fun hc1 => ?_
 ·refine t_RN ?_
  exact k_eW (rT (rT rN)) E_t2_i64_str_p
 refine t_RU 1 ?_
 refine ap_ fun y1 hy1 => ?_
 refine t_N ?_
 refine t_RN ?_
 refine t_RN ?_
 refine t_RN ?_
 refine a6_ (fun st1 fr => Sub [(5, .str y1.2), (6, i4 st1.1), (7, .str st1.2.1), (8, i4 st1.2.2)] fr.s ∧ Heap σ0 fr.σ []) (fun y2 e fr => e = (.exit 0) ∧ Sub [(6, i4 y2.1), (7, .str y2.2)] fr.s ∧ Heap σ0 fr.σ []) (fun hS hH => ⟨(ae_ hS (by kernel_rfl)), hH⟩) (fun st1 x fr h HI => ?_) fun y2 e fr h HF => ?_
 ·obtain ⟨s, σ⟩ := fr; obtain ⟨hS, hH⟩ := HI
  refine t_bk h hS hH ?_
  refine t_RN ?_
  refine t_if (fun hc2 => ?_) fun hc2 => ?_
  ·refine t_RU 2 ?_
   refine dz_ fun y3 hy3 => ?_
   refine t_N ?_
   refine t_if (fun hc3 => ?_) fun hc3 => ?_
   ·refine t_RN ?_
    refine t_RN ?_
    exact t_e fun he hS hH => he ▸ ⟨(ae_ hS (by kernel_rfl)), hH⟩
   refine t_RU 5 ?_
   refine hK_ fun y4 hy4 => ?_
   refine s8_ fun y5 hy5 => ?_
   refine t_N ?_
   refine t_RN ?_
   exact t_e fun he hS hH => he ▸ ⟨(ae_ hS (by kernel_rfl)), hH⟩
  exact t_e fun he hS hH => he ▸ ⟨rfl, (ae_ hS (by kernel_rfl)), hH⟩
 obtain ⟨s, σ⟩ := fr
 obtain ⟨rfl, hS, hH⟩ := HF
 refine t_bx h hS hH ?_
 refine t_RN ?_
 exact k_eW (rT (rT rN)) E_t2_i64_str_p
noncomputable def eh_ (a0 : (Sl DNamed)) : Option Bool := (if (decide (40 < (a0.l.length : Int))) = true then (some false) else ((cS_ a0 (T.fn 136 [] [])).bind fun y1 => (if (!y1) = true then (some false) else ((az_ (S := Int) (R := (Unit ⊕ Bool)) (fun st1 => (if (decide (st1 < (a0.l.length : Int))) = true then ((elt a0 st1).bind fun y3 => ((subS a0 0 st1).bind fun y4 => ((d0_ y4 y3.Name).bind fun y5 => (if y5.2 = true then (some (.inr (.inr false))) else (some (.inl (w4 (st1 + 1)))))))) else (some (.inr (.inl ()))))) 0).bind fun y2 => (Sum.elim (fun y2 => (some true)) (fun y2 => (some y2)) y2)))))
theorem hX_ (a0 : (Sl DNamed)) (r : Bool) (h : eh_ a0 = some r) : ed_ a0 = some r := by
 unfold eh_ at h
 refine k_W ok_111 E_bool_inj h (fun σ0 => ?_)
 refine t_RN ?_
 refine t_RU 4 ?_
 refine aP_ 10 (fun hc1 => ?_) fun hc1 => ?_
 ·refine t_N ?_
  refine t_cT rfl ?_
  refine t_RN ?_
  exact k_eW (rT rN) E_bool_p
 refine t_U 1 ?_
 refine ap_ fun y1 hy1 => ?_
 refine t_N ?_
 refine t_if (fun hc2 => ?_) fun hc2 => ?_
 ·refine t_RN ?_
  exact k_eW (rT rN) E_bool_p
 refine t_RN ?_
 refine a6_ (fun st1 fr => Sub [(0, a0.t), (15, a0.t), (16, i4 (a0.l.length : Int)), (17, i4 st1)] fr.s ∧ Heap σ0 fr.σ []) (fun y2 e fr => (Sum.elim (fun y => e = (.exit 0) ∧ Sub [] fr.s ∧ Heap σ0 fr.σ []) (fun y => e = .ret ∧ endW Try.prog (Try.f111.results.toList) σ0 (E_bool y) .ret fr)) y2) (fun hS hH => ⟨(ae_ hS (by kernel_rfl)), hH⟩) (fun st1 x fr h HI => ?_) fun y2 e fr h HF => ?_
 ·obtain ⟨s, σ⟩ := fr; obtain ⟨hS, hH⟩ := HI
  refine t_bk h hS hH ?_
  refine t_RN ?_
  refine t_if (fun hc3 => ?_) fun hc3 => ?_
  ·refine t_RU 1 ?_
   refine ci_ fun y3 rest1 hy3 => ?_
   refine t_U 1 ?_
   refine bp_ fun b1 => ?_
   refine t_U 1 ?_
   refine aL_ 0 ?_
   refine t_N ?_
   refine a8_ [(10, RN)] ext_x fun mb σs hn0 hlt hlto => ?_
   refine t_U 2 ?_
   refine rZ_ fun y4 hy4 => ?_
   refine t_U 1 ?_
   refine ad_ 0 ?_ (hlt := by exact (Or.inl (by kernel_rfl)))
   refine ap_ fun y5 hy5 => ?_
   refine t_U 3 ?_
   refine l9_ (by exact hn0) fun b2 hwr_b2 => ?_
   refine aL_ 0 ?_ (hwr := by exact fun _ => Or.inl hwr_b2)
   refine t_N ?_
   refine t_RN ?_
   refine t_if (fun hc4 => ?_) fun hc4 => ?_
   ·refine t_RN ?_
    exact t_e fun he hS hH => he ▸ ⟨rfl, (eW hS hH (rT rN) E_bool_p)⟩
   refine t_RN ?_
   exact t_e fun he hS hH => he ▸ ⟨(ae_ hS (by kernel_rfl)), (Heap.sel hH [] rfl (by kernel_rfl))⟩
  exact t_e fun he hS hH => he ▸ ⟨rfl, (ae_ hS (by kernel_rfl)), hH⟩
 obtain ⟨s, σ⟩ := fr
 rcases y2 with y2 | y2
 ·have h := el_l h
  obtain ⟨rfl, hS, hH⟩ := HF
  refine t_bx h hS hH ?_
  refine t_RN ?_
  exact k_eW (rT rN) E_bool_p
 have h := el_r h
 obtain ⟨rfl, HE⟩ := HF
 obtain rfl := si_1 h; exact HE
noncomputable def ck_ (a0 : (Sl DCapture)) (a1 : (Sl DCapture)) : Option Bool := (if ((!decide ((a0.l.length : Int) = (a1.l.length : Int)))) = true then (some false) else ((az_ (S := Int) (R := (Unit ⊕ Bool)) (fun st1 => (if (decide (st1 < (a0.l.length : Int))) = true then ((elt a0 st1).bind fun y2 => ((elt a1 st1).bind fun y3 => (if ((!(decide (y2.Name = y3.Name) && (decide (y2.Text = y3.Text) && (decide (y2.Cursor = y3.Cursor) && (decide (y2.Kind = y3.Kind) && true)))))) = true then (some (.inr (.inr false))) else (some (.inl (w4 (st1 + 1))))))) else (some (.inr (.inl ()))))) 0).bind fun y1 => (Sum.elim (fun y1 => (some true)) (fun y1 => (some y1)) y1)))
theorem fz_ (a0 : (Sl DCapture)) (a1 : (Sl DCapture)) (r : Bool) (h : ck_ a0 a1 = some r) : cj_ a0 a1 = some r := by
 unfold ck_ at h
 refine k_W ok_112 E_bool_inj h (fun σ0 => ?_)
 refine t_RN ?_
 refine t_RN ?_
 refine t_if (fun hc1 => ?_) fun hc1 => ?_
 ·refine t_RN ?_
  exact k_eW (rT rN) E_bool_p
 refine t_RN ?_
 refine a6_ (fun st1 fr => Sub [(0, a0.t), (1, a1.t), (12, i4 (a0.l.length : Int)), (13, i4 st1)] fr.s ∧ Heap σ0 fr.σ []) (fun y1 e fr => (Sum.elim (fun y => e = (.exit 0) ∧ Sub [] fr.s ∧ Heap σ0 fr.σ []) (fun y => e = .ret ∧ endW Try.prog (Try.f112.results.toList) σ0 (E_bool y) .ret fr)) y1) (fun hS hH => ⟨(ae_ hS (by kernel_rfl)), hH⟩) (fun st1 x fr h HI => ?_) fun y1 e fr h HF => ?_
 ·obtain ⟨s, σ⟩ := fr; obtain ⟨hS, hH⟩ := HI
  refine t_bk h hS hH ?_
  refine t_RN ?_
  refine t_if (fun hc2 => ?_) fun hc2 => ?_
  ·refine t_RN ?_
   refine t_D fun mb => ?_
   refine t_U 2 ?_
   refine ci_ fun y2 rest1 hy2 => ?_
   refine t_U 3 ?_
   refine ci_ fun y3 rest2 hy3 => ?_
   refine t_U 1 ?_
   intro h s σ hS hH
   refine ug_ (xs := [.str y2.Name, .str y2.Text, i4 y2.Cursor, i4 y2.Kind]) (ys := [.str y3.Name, .str y3.Text, i4 y3.Cursor, i4 y3.Kind]) (v := (decide (y2.Name = y3.Name) && (decide (y2.Text = y3.Text) && (decide (y2.Cursor = y3.Cursor) && (decide (y2.Kind = y3.Kind) && true))))) rfl hS rfl rfl (by kernel_rfl) (by kernel_rfl) ?_; intro s hS
   refine t_bk h hS hH ?_
   refine t_N ?_
   refine t_if (fun hc3 => ?_) fun hc3 => ?_
   ·refine t_RN ?_
    exact t_e fun he hS hH => he ▸ ⟨rfl, (eW hS hH (rT rN) E_bool_p)⟩
   refine t_RN ?_
   exact t_e fun he hS hH => he ▸ ⟨(ae_ hS (by kernel_rfl)), hH⟩
  exact t_e fun he hS hH => he ▸ ⟨rfl, (ae_ hS (by kernel_rfl)), hH⟩
 obtain ⟨s, σ⟩ := fr
 rcases y1 with y1 | y1
 ·have h := el_l h
  obtain ⟨rfl, hS, hH⟩ := HF
  refine t_bx h hS hH ?_
  refine t_RN ?_
  exact k_eW (rT rN) E_bool_p
 have h := el_r h
 obtain ⟨rfl, HE⟩ := HF
 obtain rfl := si_1 h; exact HE
noncomputable def dr_ (a0 : Int) (a1 : Int) (a2 : ByteArray) : Option Bool := (if (decide (a0 = 1)) = true then (if (decide (a1 = 0)) = true then ((cI_ a2).bind fun y1 => (some y1)) else (some false)) else ((e4_ a0).bind fun y2 => (if y2 = true then (if (decide (a1 = 0)) = true then (if (!decide (a2 = (⟨#[]⟩ : ByteArray))) = true then ((cI_ a2).bind fun y3 => (some y3)) else (some false)) else (some false)) else ((dF_ a0).bind fun y4 => (if y4 = true then (if (decide (a2 = (⟨#[]⟩ : ByteArray))) = true then ((bI_ a1 0 200).bind fun y5 => (some y5)) else (some false)) else ((eH_ a0).bind fun y6 => (if y6 = true then (if (decide (a1 = 0)) = true then ((dT_ a2).bind fun y7 => (some y7)) else (some false)) else ((cG_ a0).bind fun y8 => (if y8 = true then (if (decide (a1 = 0)) = true then (some (decide (a2 = (⟨#[]⟩ : ByteArray)))) else (some false)) else (some false))))))))))
theorem g8_ (a0 : Int) (a1 : Int) (a2 : ByteArray) (r : Bool) (h : dr_ a0 a1 a2 = some r) : dk_ a0 a1 a2 = some r := by
 unfold dr_ at h
 refine k_W ok_115 E_bool_inj h (fun σ0 => ?_)
 refine t_RN ?_
 refine t_RN ?_
 refine t_if (fun hc1 => ?_) fun hc1 => ?_
 ·refine t_RU 3 ?_
  refine aP_ 12 (fun hc2 => ?_) fun hc2 => ?_
  ·refine t_U 1 ?_
   refine ap_ fun y1 hy1 => ?_
   refine t_N ?_
   exact k_eW (rT rN) E_bool_p
  refine t_N ?_
  exact k_eW (rT rN) E_bool_p
 refine t_RU 1 ?_
 refine ap_ fun y2 hy2 => ?_
 refine t_N ?_
 refine t_if (fun hc3 => ?_) fun hc3 => ?_
 ·refine t_RU 3 ?_
  refine aP_ 21 (fun hc4 => ?_) fun hc4 => ?_
  ·refine t_U 4 ?_
   refine aP_ 25 (fun hc5 => ?_) fun hc5 => ?_
   ·refine t_U 1 ?_
    refine ap_ fun y3 hy3 => ?_
    refine t_N ?_
    exact k_eW (rT rN) E_bool_p
   refine t_N ?_
   exact k_eW (rT rN) E_bool_p
  refine t_N ?_
  exact k_eW (rT rN) E_bool_p
 refine t_RU 1 ?_
 refine ap_ fun y4 hy4 => ?_
 refine t_N ?_
 refine t_if (fun hc6 => ?_) fun hc6 => ?_
 ·refine t_RU 3 ?_
  refine aP_ 34 (fun hc7 => ?_) fun hc7 => ?_
  ·refine t_U 1 ?_
   refine ap_ fun y5 hy5 => ?_
   refine t_N ?_
   exact k_eW (rT rN) E_bool_p
  refine t_N ?_
  exact k_eW (rT rN) E_bool_p
 refine t_RU 1 ?_
 refine ap_ fun y6 hy6 => ?_
 refine t_N ?_
 refine t_if (fun hc8 => ?_) fun hc8 => ?_
 ·refine t_RU 3 ?_
  refine aP_ 43 (fun hc9 => ?_) fun hc9 => ?_
  ·refine t_U 1 ?_
   refine ap_ fun y7 hy7 => ?_
   refine t_N ?_
   exact k_eW (rT rN) E_bool_p
  refine t_N ?_
  exact k_eW (rT rN) E_bool_p
 refine t_RU 1 ?_
 refine ap_ fun y8 hy8 => ?_
 refine t_U 1 ?_
 refine aP_ 49 (fun hc10 => ?_) fun hc10 => ?_
 ·refine t_U 4 ?_
  refine aP_ 53 (fun hc11 => ?_) fun hc11 => ?_
  ·refine t_N ?_
   exact k_eW (rT rN) E_bool_p
  refine t_N ?_
  exact k_eW (rT rN) E_bool_p
 refine t_N ?_
 exact k_eW (rT rN) E_bool_p
noncomputable def fo_ (a0 : Int) : Option Int := (((if (decide (a0 = 18)) = true then (some (decide (a0 = 18))) else (some (decide (a0 = 19)))) : Option Bool).bind fun y1 => (if y1 = true then (some 2) else (((if (decide (a0 = 20)) = true then (some (decide (a0 = 20))) else (if (decide (a0 = 21)) = true then (some (decide (a0 = 21))) else (some (decide (a0 = 22))))) : Option Bool).bind fun y2 => (if y2 = true then (some 1) else (some 0)))))
theorem jf_ (a0 : Int) (r : Int) (h : fo_ a0 = some r) : fh_ a0 = some r := by
 unfold fo_ at h
 refine k_W ok_116 E_i64_inj h (fun σ0 => ?_)
 refine t_RN ?_
 refine t_RN ?_
 refine t_RN ?_
 refine eu_ 0 (fun y1 e fr => e = .normal ∧ Sub [(3, i4 a0), (4, .bool y1)] fr.s ∧ Heap σ0 fr.σ []) (fun y1 e fr h HF => ?_) fun y1 => ?_
 ·obtain ⟨s, σ⟩ := fr
  obtain ⟨rfl, hS, hH⟩ := HF
  refine t_bx h hS hH ?_
  refine t_if (fun hc1 => ?_) fun hc1 => ?_
  ·refine t_RN ?_
   exact k_eW (rT rN) E_i64_p
  refine t_RN ?_
  refine eu_ 0 (fun y2 e fr => e = .normal ∧ Sub [(7, .bool y2)] fr.s ∧ Heap σ0 fr.σ []) (fun y2 e fr h HF => ?_) fun y2 => ?_
  ·obtain ⟨s, σ⟩ := fr
   obtain ⟨rfl, hS, hH⟩ := HF
   refine t_bx h hS hH ?_
   refine t_if (fun hc2 => ?_) fun hc2 => ?_
   ·refine t_RN ?_
    exact k_eW (rT rN) E_i64_p
   refine t_RN ?_
   exact k_eW (rT rN) E_i64_p
  refine t_if (fun hc3 => ?_) fun hc3 => ?_
  ·exact t_e fun he hS hH => he ▸ ⟨rfl, (ae_ hS (by kernel_rfl)), hH⟩
  refine t_RN ?_
  refine t_if (fun hc4 => ?_) fun hc4 => ?_
  ·exact t_e fun he hS hH => he ▸ ⟨rfl, (ae_ hS (by kernel_rfl)), hH⟩
  refine t_RN ?_
  exact t_e fun he hS hH => he ▸ ⟨rfl, (ae_ hS (by kernel_rfl)), hH⟩
 refine t_if (fun hc5 => ?_) fun hc5 => ?_
 ·exact t_e fun he hS hH => he ▸ ⟨rfl, (ae_ hS (by kernel_rfl)), hH⟩
 refine t_RN ?_
 exact t_e fun he hS hH => he ▸ ⟨rfl, (ae_ hS (by kernel_rfl)), hH⟩
noncomputable def el_ (a0 : (Sl DNamed)) : Option Bool := (if (decide (40 < (a0.l.length : Int))) = true then (some false) else ((az_ (S := Int) (R := (Unit ⊕ Bool)) (fun st1 => (if (decide (st1 < (a0.l.length : Int))) = true then ((elt a0 st1).bind fun y2 => ((dX_ y2.Name).bind fun y3 => (if (!y3) = true then (some (.inr (.inr false))) else ((elt a0 st1).bind fun y4 => ((b1_ y4.Pattern).bind fun y5 => (if (!y5) = true then (some (.inr (.inr false))) else ((az_ (S := Int) (R := (Unit ⊕ Bool)) (fun st2 => (if (decide (st2 < st1)) = true then ((elt a0 st2).bind fun y7 => ((elt a0 st1).bind fun y8 => (if (decide (y7.Name = y8.Name)) = true then (some (.inr (.inr false))) else (some (.inl (w4 (st2 + 1))))))) else (some (.inr (.inl ()))))) 0).bind fun y6 => (Sum.elim (fun y6 => (some (.inl (w4 (st1 + 1))))) (fun y6 => (some (.inr (.inr y6)))) y6)))))))) else (some (.inr (.inl ()))))) 0).bind fun y1 => (Sum.elim (fun y1 => (some true)) (fun y1 => (some y1)) y1)))
theorem h3_ (a0 : (Sl DNamed)) (r : Bool) (h : el_ a0 = some r) : ep_ a0 = some r := by
 unfold el_ at h
 refine k_W ok_125 E_bool_inj h (fun σ0 => ?_)
 refine t_RN ?_
 refine t_RN ?_
 refine t_if (fun hc1 => ?_) fun hc1 => ?_
 ·refine t_RN ?_
  exact k_eW (rT rN) E_bool_p
 refine t_RN ?_
 refine a6_ (fun st1 fr => Sub [(0, a0.t), (3, i4 st1)] fr.s ∧ Heap σ0 fr.σ []) (fun y1 e fr => (Sum.elim (fun y => e = (.exit 0) ∧ Sub [] fr.s ∧ Heap σ0 fr.σ []) (fun y => e = .ret ∧ endW Try.prog (Try.f125.results.toList) σ0 (E_bool y) .ret fr)) y1) (fun hS hH => ⟨(ae_ hS (by kernel_rfl)), hH⟩) (fun st1 x fr h HI => ?_) fun y1 e fr h HF => ?_
 ·obtain ⟨s, σ⟩ := fr; obtain ⟨hS, hH⟩ := HI
  refine t_bk h hS hH ?_
  refine t_RN ?_
  refine t_if (fun hc2 => ?_) fun hc2 => ?_
  ·refine t_RU 2 ?_
   refine ci_ fun y2 rest1 hy2 => ?_
   refine t_U 2 ?_
   refine ap_ fun y3 hy3 => ?_
   refine t_U 2 ?_
   refine aP_ 21 (fun hc3 => ?_) fun hc3 => ?_
   ·refine t_N ?_
    refine t_cT rfl ?_
    refine t_RN ?_
    exact t_e fun he hS hH => he ▸ ⟨rfl, (eW hS hH (rT rN) E_bool_p)⟩
   refine t_U 2 ?_
   refine ci_ fun y4 rest2 hy4 => ?_
   refine t_U 2 ?_
   refine ap_ fun y5 hy5 => ?_
   refine t_N ?_
   refine t_if (fun hc4 => ?_) fun hc4 => ?_
   ·refine t_RN ?_
    exact t_e fun he hS hH => he ▸ ⟨rfl, (eW hS hH (rT rN) E_bool_p)⟩
   refine t_RN ?_
   refine a6_ (fun st2 fr => Sub [(0, a0.t), (3, i4 st1), (4, i4 st2)] fr.s ∧ Heap σ0 fr.σ []) (fun y6 e fr => (Sum.elim (fun y => e = (.exit 2) ∧ Sub [(0, a0.t), (3, i4 st1)] fr.s ∧ Heap σ0 fr.σ []) (fun y => e = .ret ∧ endW Try.prog (Try.f125.results.toList) σ0 (E_bool y) .ret fr)) y6) (fun hS hH => ⟨(ae_ hS (by kernel_rfl)), hH⟩) (fun st2 x fr h HI => ?_) fun y6 e fr h HF => ?_
   ·obtain ⟨s, σ⟩ := fr; obtain ⟨hS, hH⟩ := HI
    refine t_bk h hS hH ?_
    refine t_RN ?_
    refine t_if (fun hc5 => ?_) fun hc5 => ?_
    ·refine t_D fun mb => ?_
     refine t_U 2 ?_
     refine ci_ fun y7 rest3 hy7 => ?_
     refine t_U 4 ?_
     refine ci_ fun y8 rest4 hy8 => ?_
     refine t_N ?_
     refine t_if (fun hc6 => ?_) fun hc6 => ?_
     ·refine t_RN ?_
      exact t_e fun he hS hH => he ▸ ⟨rfl, (eW hS hH (rT rN) E_bool_p)⟩
     refine t_RN ?_
     exact t_e fun he hS hH => he ▸ ⟨(ae_ hS (by kernel_rfl)), hH⟩
    exact t_e fun he hS hH => he ▸ ⟨rfl, (ae_ hS (by kernel_rfl)), hH⟩
   obtain ⟨s, σ⟩ := fr
   rcases y6 with y6 | y6
   ·have h := el_l h
    obtain ⟨rfl, hS, hH⟩ := HF
    refine t_bx h hS hH ?_
    refine t_RN ?_
    exact t_e fun he hS hH => he ▸ ⟨(ae_ hS (by kernel_rfl)), hH⟩
   have h := el_r h
   obtain ⟨rfl, HE⟩ := HF
   obtain rfl := si_1 h; exact ⟨rfl, HE⟩
  exact t_e fun he hS hH => he ▸ ⟨rfl, (ae_ hS (by kernel_rfl)), hH⟩
 obtain ⟨s, σ⟩ := fr
 rcases y1 with y1 | y1
 ·have h := el_l h
  obtain ⟨rfl, hS, hH⟩ := HF
  refine t_bx h hS hH ?_
  refine t_RN ?_
  exact k_eW (rT rN) E_bool_p
 have h := el_r h
 obtain ⟨rfl, HE⟩ := HF
 obtain rfl := si_1 h; exact HE
noncomputable def cM_ (a0 : DPattern) : Option Bool := ((aV_ a0 60).bind fun y1 => (some (decide (0 < y1))))
theorem gj_ (a0 : DPattern) (r : Bool) (h : cM_ a0 = some r) : b1_ a0 = some r := by
 unfold cM_ at h
 refine k_W ok_126 E_bool_inj h (fun σ0 => ?_)
 refine t_R ?_
 refine ct_ (fun b1 => ?_)
 refine t_N ?_
 refine t_R ?_
 refine ad_ 0 ?_
 refine ap_ fun y1 hy1 => ?_
 refine t_N ?_
 exact k_eW (rT rN) E_bool_p
noncomputable def fZ_ (a0 : Int) (a1 : Int) (a2 : Int) : Option Bool := (if (decide (a1 ≤ a0)) = true then (some (decide (a0 ≤ a2))) else (some false))
theorem j1_ (a0 : Int) (a1 : Int) (a2 : Int) (r : Bool) (h : fZ_ a0 a1 a2 = some r) : cq_ a0 a1 a2 = some r := by
 unfold fZ_ at h
 refine k_W ok_127 E_bool_inj h (fun σ0 => ?_)
 refine t_RN ?_
 refine t_RU 4 ?_
 refine aP_ 10 (fun hc1 => ?_) fun hc1 => ?_
 ·refine t_N ?_
  exact k_eW (rT rN) E_bool_p
 refine t_N ?_
 exact k_eW (rT rN) E_bool_p
end Go.Am
