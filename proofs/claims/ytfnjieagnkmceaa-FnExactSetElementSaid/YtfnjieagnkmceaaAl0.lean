/- The law. -/
import Derived.Test.YtfnjieagnkmceaaAm5
import Derived.Test.YtfnjieagnkmceaaAg2
import Derived.Test.YtfnjieagnkmceaaAg3
import Derived.Test.YtfnjieagnkmceaaAg1
import Derived.Test.YtfnjieagnkmceaaAg4
import Derived.Test.YtfnjieagnkmceaaAg7
import Derived.Test.YtfnjieagnkmceaaAg0
import Derived.Test.YtfnjieagnkmceaaAg6
section
set_option maxRecDepth 100000
set_option maxHeartbeats 1000000
set_option linter.unusedVariables false
set_option linter.unusedSimpArgs false
namespace Go.Am
/-! what fits -/
def n4_ (s : ByteArray) : Prop := s.size ≤ maxLen
def dE_ (x : ac_) : Prop := n4_ x.Text
def bg_ (x : ac_) : Prop := x.Text.size ≤ 1048576
def d8_ (x : ac_) : Prop := True
theorem gy_ {x : ac_} (h : bg_ x) : d8_ x := trivial
def fZ_ (x : aa_) : Prop := n4_ x.Name ∧ FitS maxLen dE_ x.Keys ∧ FitS maxLen dE_ x.Vals ∧ dE_ x.Default
def cE_ (x : aa_) : Prop := x.Name.size ≤ 1048576 ∧ FitS 1048576 bg_ x.Keys ∧ FitS 1048576 bg_ x.Vals ∧ bg_ x.Default
def aN_ (x : aa_) : Prop := (x.Keys.l.length ≤ 1048577 ∧ ∀ e ∈ x.Keys.l, d8_ e) ∧ (x.Vals.l.length ≤ 1048577 ∧ ∀ e ∈ x.Vals.l, d8_ e) ∧ d8_ x.Default
theorem hT_ {x : aa_} (h : cE_ x) : aN_ x := ⟨⟨by have := h.2.1.1; omega, fun e he => gy_ (h.2.1.2 e he)⟩, ⟨by have := h.2.2.1.1; omega, fun e he => gy_ (h.2.2.1.2 e he)⟩, gy_ h.2.2.2⟩
def ln_ (x : aj_) : Prop := FitS maxLen fZ_ x.Objects
def eD_ (x : aj_) : Prop := FitS 1048576 cE_ x.Objects
def bL_ (x : aj_) : Prop := (x.Objects.l.length ≤ 1048577 ∧ ∀ e ∈ x.Objects.l, aN_ e)
theorem eg_ {x : aj_} (h : eD_ x) : bL_ x := ⟨by have := h.1; omega, fun e he => hT_ (h.2 e he)⟩
/-! sizes -/
theorem gM_ (x : ac_) (h : dE_ x) (l : Int) (h0 : 0 ≤ l) (h1 : l ≤ 1048576) : SzOk (bB_ x l) l (bg_ x) := by
 refine sz_u (i6_ x l) ?_
 unfold eP_
 have hm := maxLen_eq
 have hb0 : x.Text.size ≤ maxLen := h
 rw [hm] at hb0
 try rw [ew_ (n := l - (x.Text.size : Int)) (by omega) (by omega)]
 refine pi_ (by omega) fun n0 => ?_
 exact nl_ (by omega) (show x.Text.size ≤ 1048576 by omega)
theorem ld_ (s : Sl ac_) (h : FitS maxLen dE_ s) (l : Int) (h0 : 0 ≤ l) (h1 : l ≤ 1048576) : SzOk (df_ s l) l (FitS 1048576 bg_ s) := by
 refine sz_u (ii_ s l) ?_
 unfold eq_
 have hm := maxLen_eq; have hlen := h.1
 exact l1_ h0 h1 h.1 (fun i x l' hx hi he q1 q2 => nF_ (by omega) he (gM_ x (h.2 x hx) l' q1 (by omega)) (by omega)) (fun l' => by rw [if_neg (by simp)])
theorem nq_ (x : aa_) (h : fZ_ x) (l : Int) (h0 : 0 ≤ l) (h1 : l ≤ 1048576) : SzOk (ep_ x l) l (cE_ x) := by
 refine sz_u (iL_ x l) ?_
 unfold eC_
 have hm := maxLen_eq
 have hb0 : x.Name.size ≤ maxLen := h.1
 rw [hm] at hb0
 try rw [ew_ (n := l - (x.Name.size : Int)) (by omega) (by omega)]
 refine pi_ (by omega) fun n0 => ?_
 refine jO_ (ld_ x.Keys h.2.1 (l - (x.Name.size : Int)) (by omega) (by omega)) fun l1 q1 r1 p1 => ?_
 try dsimp only
 refine jO_ (ld_ x.Vals h.2.2.1 l1 (by omega) (by omega)) fun l2 q2 r2 p2 => ?_
 try dsimp only
 refine jO_ (gM_ x.Default h.2.2.2 l2 (by omega) (by omega)) fun l3 q3 r3 p3 => ?_
 try dsimp only
 exact nl_ (by omega) ⟨(show x.Name.size ≤ 1048576 by omega), p1, p2, p3⟩
theorem mK_ (s : Sl aa_) (h : FitS maxLen fZ_ s) (l : Int) (h0 : 0 ≤ l) (h1 : l ≤ 1048576) : SzOk (dS_ s l) l (FitS 1048576 cE_ s) := by
 refine sz_u (h4_ s l) ?_
 unfold dP_
 have hm := maxLen_eq; have hlen := h.1
 exact l1_ h0 h1 h.1 (fun i x l' hx hi he q1 q2 => nF_ (by omega) he (nq_ x (h.2 x hx) l' q1 (by omega)) (by omega)) (fun l' => by rw [if_neg (by simp)])
theorem pD_ (x : aj_) (h : ln_ x) (l : Int) (h0 : 0 ≤ l) (h1 : l ≤ 1048576) : SzOk (fu_ x l) l (eD_ x) := by
 refine sz_u (kd_ x l) ?_
 unfold fw_
 have hm := maxLen_eq
 refine jO_ (mK_ x.Objects h l (by omega) (by omega)) fun l0 q0 r0 p0 => ?_
 try dsimp only
 exact nl_ (by omega) p0
/-! copies -/
def eW_ (x : ac_) : ac_ := ⟨x.Kind, x.Num, x.Text, x.Ref⟩
theorem hb_ (x : ac_) (h : bg_ x) : aQ_ x = some (eW_ x) := by
 refine i2_ x _ ?_
 unfold eS_
 rfl
theorem ef_ {x : ac_} (h : bg_ x) : bg_ (eW_ x) := h
theorem kz_ (s : Sl ac_) (h : FitS 1048576 bg_ s) : cY_ s = some ⟨false, s.l.map eW_⟩ := by
 refine iU_ s _ ?_
 unfold eB_
 have hl := h.1
 refine mo_ eW_ hl (by omega) (fun i x t hx hi hit he => ?_) (fun t => by rw [if_neg (by simp)])
 show (if decide ((i : Int) < (s.l.length : Int)) = true then _ else _) = _
 rw [if_pos (by simpa using hi), he]
 simp only [Option.bind_some]
 rw [hb_ x (h.2 x hx)]
 simp only [Option.bind_some]
 rw [aW_ hit, cM_ (by omega) (by omega)]; rfl
def dD_ (x : aa_) : aa_ := ⟨x.Id, x.Kind, x.Name, x.Low, ⟨false, x.Keys.l.map eW_⟩, ⟨false, x.Vals.l.map eW_⟩, eW_ x.Default⟩
theorem nD_ (x : aa_) (h : cE_ x) : eh_ x = some (dD_ x) := by
 refine iW_ x _ ?_
 unfold eo_
 rw [kz_ _ h.2.1, Option.bind_some, kz_ _ h.2.2.1, Option.bind_some, hb_ _ h.2.2.2, Option.bind_some]; rfl
theorem lu_ {x : aa_} (h : cE_ x) : cE_ (dD_ x) := ⟨h.1, ⟨by have := h.2.1.1; simpa [dD_] using this, fun y hy => by simp only [dD_, List.mem_map] at hy; obtain ⟨z, hz, rfl⟩ := hy; exact ef_ (h.2.1.2 z hz)⟩, ⟨by have := h.2.2.1.1; simpa [dD_] using this, fun y hy => by simp only [dD_, List.mem_map] at hy; obtain ⟨z, hz, rfl⟩ := hy; exact ef_ (h.2.2.1.2 z hz)⟩, ef_ h.2.2.2⟩
theorem mT_ (s : Sl aa_) (h : FitS 1048576 cE_ s) : dU_ s = some ⟨false, s.l.map dD_⟩ := by
 refine hY_ s _ ?_
 unfold dZ_
 have hl := h.1
 refine mo_ dD_ hl (by omega) (fun i x t hx hi hit he => ?_) (fun t => by rw [if_neg (by simp)])
 show (if decide ((i : Int) < (s.l.length : Int)) = true then _ else _) = _
 rw [if_pos (by simpa using hi), he]
 simp only [Option.bind_some]
 rw [nD_ x (h.2 x hx)]
 simp only [Option.bind_some]
 rw [aW_ hit, cM_ (by omega) (by omega)]; rfl
def gV_ (x : aj_) : aj_ := ⟨x.Next, ⟨false, x.Objects.l.map dD_⟩⟩
theorem pq_ (x : aj_) (h : eD_ x) : cj_ x = some (gV_ x) := by
 refine j7_ x _ ?_
 unfold fn_
 rw [mT_ _ h, Option.bind_some]; rfl
theorem iw_ {x : aj_} (h : eD_ x) : eD_ (gV_ x) := ⟨by have := h.1; simpa [gV_] using this, fun y hy => by simp only [gV_, List.mem_map] at hy; obtain ⟨z, hz, rfl⟩ := hy; exact lu_ (h.2 z hz)⟩
/-! comparisons of what is the same but for nil -/
theorem ja_ {α : Type} {a b : Sl α} {bd : Int → Option (Int ⊕ (Unit ⊕ Bool))} (hl : a.l.length = b.l.length) (hn : a.l.length < 9223372036854775807) (h : ∀ (i : Nat) x y, a.l[i]? = some x → b.l[i]? = some y → elt a (i : Int) = some x → elt b (i : Int) = some y → bd i = some (.inl (w4 ((i : Int) + 1)))) :
  (if (!decide ((a.l.length : Int) = (b.l.length : Int))) = true then some false else ((aM_ (S := Int) (R := Unit ⊕ Bool) (fun st1 : Int => if decide (st1 < (a.l.length : Int)) = true then bd st1 else some (.inr (.inl ()))) 0).bind fun y => Sum.elim (fun _ => some true) (fun y => some y) y)) = some true := by
 rw [if_neg (by simp [hl])]
 have := (gX_ (R := Unit ⊕ Bool) (n := a.l.length) (p := fun _ => True) (bd := bd) (x := .inl ()) (y := .inl ()) 0 hn (fun i _ hi _ => h i _ _ (List.getElem?_eq_getElem hi) (List.getElem?_eq_getElem (by omega)) (aW_ hi) (aW_ (by omega))) (fun i _ _ hw => absurd trivial hw)).1 (fun _ _ _ => trivial)
 have e : aM_ (S := Int) (R := (Unit ⊕ Bool)) _ 0 = _ := this
 rw [e]; rfl
def jB_ (x y : ac_) : Prop := x.Kind = y.Kind ∧ x.Num = y.Num ∧ x.Text = y.Text ∧ x.Ref = y.Ref
theorem eH_ {x : ac_} : jB_ x x := ⟨rfl, rfl, rfl, rfl⟩
theorem iF_ (x y : ac_) (h : d8_ x) (q : jB_ x y) : cA_ x y = some true := by
 refine i3_ x y _ ?_
 unfold eY_
 rw [if_neg (by simp [q.1]), if_neg (by simp [q.2.1]), if_neg (by simp [q.2.2.1]), if_neg (by simp [q.2.2.2])]
theorem sn_ (x : ac_) (h : d8_ x) : cA_ x x = some true := iF_ x x h eH_
theorem jh_ (s t : Sl ac_) (h : s.l.length ≤ 1048577 ∧ ∀ e ∈ s.l, d8_ e) (hq : s.l = t.l) : dc_ s t = some true := by
 refine iz_ s t _ ?_
 unfold ei_
 have hl : s.l.length = t.l.length := by rw [hq]
 have hlen := h.1
 refine ja_ hl (by omega) fun i x y hx hy he he2 => ?_
 rw [he, Option.bind_some, he2]
 simp only [Option.bind_some]
 rw [iF_ x y (h.2 x (List.mem_of_getElem? hx)) (by rw [hq] at hx; rw [hx] at hy; injection hy with hy; subst hy; exact eH_), Option.bind_some, if_neg (by simp)]
def gI_ (x y : aa_) : Prop := x.Id = y.Id ∧ x.Kind = y.Kind ∧ x.Name = y.Name ∧ x.Low = y.Low ∧ x.Keys.l = y.Keys.l ∧ x.Vals.l = y.Vals.l ∧ jB_ x.Default y.Default
theorem fg_ {x : aa_} : gI_ x x := ⟨rfl, rfl, rfl, rfl, rfl, rfl, eH_⟩
theorem jn_ (x y : aa_) (h : aN_ x) (q : gI_ x y) : cZ_ x y = some true := by
 refine iD_ x y _ ?_
 unfold ej_
 rw [if_neg (by simp [q.1]), if_neg (by simp [q.2.1]), if_neg (by simp [q.2.2.1]), if_neg (by simp [q.2.2.2.1]), jh_ _ _ h.1 q.2.2.2.2.1, Option.bind_some, if_neg (by simp), jh_ _ _ h.2.1 q.2.2.2.2.2.1, Option.bind_some, if_neg (by simp), iF_ _ _ h.2.2 q.2.2.2.2.2.2, Option.bind_some, if_neg (by simp)]
theorem qZ_ (x : aa_) (h : aN_ x) : cZ_ x x = some true := jn_ x x h fg_
theorem lD_ (s t : Sl aa_) (h : s.l.length ≤ 1048577 ∧ ∀ e ∈ s.l, aN_ e) (hl : s.l.length = t.l.length) (hq : ∀ (i : Nat) x y, s.l[i]? = some x → t.l[i]? = some y → gI_ x y) : dY_ s t = some true := by
 refine h2_ s t _ ?_
 unfold dK_
 have hlen := h.1
 refine ja_ hl (by omega) fun i x y hx hy he he2 => ?_
 rw [he, Option.bind_some, he2]
 simp only [Option.bind_some]
 rw [jn_ x y (h.2 x (List.mem_of_getElem? hx)) (hq i x y hx hy), Option.bind_some, if_neg (by simp)]
def gn_ (x y : aj_) : Prop := x.Next = y.Next ∧ (x.Objects.l.length = y.Objects.l.length ∧ ∀ (i : Nat) u v, x.Objects.l[i]? = some u → y.Objects.l[i]? = some v → gI_ u v)
theorem ch_ {x : aj_} : gn_ x x := ⟨rfl, ⟨rfl, fun i a b ha hb => by rw [ha] at hb; injection hb with hb; subst hb; exact fg_⟩⟩
theorem lU_ (x y : aj_) (h : bL_ x) (q : gn_ x y) : bU_ x y = some true := by
 refine j1_ x y _ ?_
 unfold fy_
 rw [if_neg (by simp [q.1]), lD_ _ _ h q.2.1 q.2.2, Option.bind_some, if_neg (by simp)]
theorem pn_ (x : aj_) (h : bL_ x) : bU_ x x = some true := lU_ x x h ch_
/-! marks -/
theorem gx_ (k : Int) (h0 : 0 ≤ k) (h1 : k ≤ 4611686018427387904) : ∃ t, aJ_ k = some t := by
 suffices h : ∃ t, di_ k = some t from by obtain ⟨t, h⟩ := h; exact ⟨t, ir_ k t h⟩
 unfold di_
 by_cases hk : k ≤ 0
 ·rw [if_pos (by simpa using hk)]; exact ⟨_, rfl⟩
 ·rw [if_neg (by simpa using hk)]
  suffices H : ∀ (m : Nat) (k : Int) (t : ByteArray), 0 ≤ k → k.toNat ≤ m → k ≤ 4611686018427387904 → t.size + k.toNat ≤ 5000000000000000000 → ∃ r : ByteArray, r.size ≤ 5000000000000000000 ∧ aM_ (S := (Int × ByteArray)) (R := ByteArray) (fun st1 => (if (decide (0 < st1.1)) = true then ((strS ((⟨false, [⟨(IntKind.u8.wrap (w4 (48 + (st1.1.tmod 10))))⟩]⟩ : Sl (Iv .u8)))).bind fun y2 => ((catB y2 st1.2).bind fun y3 => (some (.inl ((w4 (st1.1.tdiv 10)), y3))))) else (some (.inr st1.2)))) (k, t) = some r by
   obtain ⟨r, hr, e⟩ := H k.toNat k ⟨#[]⟩ h0 (Nat.le_refl _) h1 (by show 0 + k.toNat ≤ _; omega)
   rw [e, Option.bind_some]
   have : catB ⟨#[109]⟩ r = some (⟨#[109]⟩ ++ r) := by
    unfold catB; rw [if_pos (by show 1 + r.size ≤ _; omega)]
   exact ⟨_, by rw [this]; rfl⟩
  intro m
  induction m with
  | zero =>
   intro k t h0 hm h1 ht
   refine ⟨t, by omega, aL_ ?_⟩
   show (if decide (0 < k) = true then _ else _) = _
   rw [if_neg (by simp; omega)]
  | succ m ih =>
   intro k t h0 hm h1 ht
   by_cases hk : 0 < k
   ·have hd : k.tdiv 10 = k / 10 := by rw [Int.tdiv_eq_ediv_of_nonneg h0]
    have hmod : k.tmod 10 = k % 10 := Int.tmod_eq_emod_of_nonneg h0
    have hq := Int.ediv_lt_self_of_pos_of_ne_one (by omega : 0 < k) (by omega : (10 : Int) ≠ 1)
    have hq0 : 0 ≤ k / 10 := Int.ediv_nonneg h0 (by omega)
    have hw : IntKind.u8.wrap (w4 (48 + k % 10)) = 48 + k % 10 := by
     rw [cM_ (by omega) (by omega)]
     simp only [w4, IntKind.wrap, IntKind.signed, IntKind.bits]; simp; omega
    have hs : strS (⟨false, [⟨48 + k % 10⟩]⟩ : Sl (Iv .u8)) = some ⟨#[UInt8.ofNat (48 + k % 10).toNat]⟩ := by
     simp only [strS, ofIv]; rw [if_pos ⟨by omega, by omega⟩]; rfl
    have hc : catB (⟨#[UInt8.ofNat (48 + k % 10).toNat]⟩ : ByteArray) t = some (⟨#[UInt8.ofNat (48 + k % 10).toNat]⟩ ++ t) := by
     unfold catB; rw [if_pos (by show 1 + t.size ≤ _; omega)]
    have hsz : ((⟨#[UInt8.ofNat (48 + k % 10).toNat]⟩ : ByteArray) ++ t).size = 1 + t.size := by
     rw [ByteArray.size_append]; rfl
    obtain ⟨r, hr, e⟩ := ih (k / 10) (⟨#[UInt8.ofNat (48 + k % 10).toNat]⟩ ++ t) hq0 (by omega) (by omega) (by rw [hsz]; omega)
    refine ⟨r, hr, a3_ ?_ e⟩
    show (if decide (0 < k) = true then _ else _) = _
    rw [if_pos (by simpa using hk), hmod, hw, hs, Option.bind_some, hc, Option.bind_some, hd, cM_ hq0 (by omega)]
   ·refine ⟨t, by omega, aL_ ?_⟩
    show (if decide (0 < k) = true then _ else _) = _
    rw [if_neg (by simpa using hk)]
theorem hh_ (s : Sl ac_) (h : s.l.length ≤ 1048577 ∧ ∀ e ∈ s.l, d8_ e) : MH aP_ a1_ 4194308 s := by
 have hl := h.1
 intro k h0 h1
 obtain ⟨k', t', q1, q2, q3, q4, q5⟩ := ob_ (P := d8_) (N := 4) (s := s) (mb := fun st1 => (if (decide (st1.2.1 < (st1.2.2.l.length : Int))) = true then ((elt st1.2.2 st1.2.1).bind fun y2 => ((elt (setS st1.2.2 st1.2.1 ((⟨st1.1, y2.Num, y2.Text, y2.Ref⟩ : ac_) : ac_)) st1.2.1).bind fun y3 => ((aJ_ (w4 ((w4 (st1.1 + 1)) + 1))).bind fun y4 => ((elt ((setS (setS st1.2.2 st1.2.1 ((⟨st1.1, y2.Num, y2.Text, y2.Ref⟩ : ac_) : ac_)) st1.2.1 ((⟨y3.Kind, (w4 (st1.1 + 1)), y3.Text, y3.Ref⟩ : ac_) : ac_))) st1.2.1).bind fun y5 => ((elt ((setS ((setS (setS st1.2.2 st1.2.1 ((⟨st1.1, y2.Num, y2.Text, y2.Ref⟩ : ac_) : ac_)) st1.2.1 ((⟨y3.Kind, (w4 (st1.1 + 1)), y3.Text, y3.Ref⟩ : ac_) : ac_))) st1.2.1 ((⟨y5.Kind, y5.Num, y4, y5.Ref⟩ : ac_) : ac_))) st1.2.1).bind fun y6 => (some (.inl ((w4 ((w4 ((w4 ((w4 (st1.1 + 1)) + 1)) + 1)) + 1)), (w4 (st1.2.1 + 1)), (setS ((setS ((setS (setS st1.2.2 st1.2.1 ((⟨st1.1, y2.Num, y2.Text, y2.Ref⟩ : ac_) : ac_)) st1.2.1 ((⟨y3.Kind, (w4 (st1.1 + 1)), y3.Text, y3.Ref⟩ : ac_) : ac_))) st1.2.1 ((⟨y5.Kind, y5.Num, y4, y5.Ref⟩ : ac_) : ac_))) st1.2.1 ((⟨y6.Kind, y6.Num, y6.Text, (w4 ((w4 ((w4 (st1.1 + 1)) + 1)) + 1))⟩ : ac_) : ac_)))))))))) else (some (.inr (st1.1, st1.2.2)))))
  (hb := fun a0 => fun st1 => (if (decide (st1.2 < (a0.l.length : Int))) = true then ((elt a0 st1.2).bind fun y2 => (if (!decide (y2.Kind = st1.1)) = true then (some (.inr (.inr (-1)))) else ((elt a0 st1.2).bind fun y3 => (if (!decide (y3.Num = (w4 (st1.1 + 1)))) = true then (some (.inr (.inr (-1)))) else ((elt a0 st1.2).bind fun y4 => ((aJ_ (w4 ((w4 (st1.1 + 1)) + 1))).bind fun y5 => (if (!decide (y4.Text = y5)) = true then (some (.inr (.inr (-1)))) else ((elt a0 st1.2).bind fun y6 => (if (!decide (y6.Ref = (w4 ((w4 ((w4 (st1.1 + 1)) + 1)) + 1)))) = true then (some (.inr (.inr (-1)))) else (some (.inl ((w4 ((w4 ((w4 ((w4 (st1.1 + 1)) + 1)) + 1)) + 1)), (w4 (st1.2 + 1)))))))))))))) else (some (.inr (.inl st1.1)))))
  h.2 h0 (by omega) (by omega) (fun k i t x hx hi ht hP h0 h1 => by
   have WI : w4 ((i : Int) + 1) = (i : Int) + 1 := cM_ (by omega) (by omega)
   have W0 : w4 (k + 1) = k + 1 := cM_ (by omega) (by omega)
   have W1 : w4 (k + 1 + 1) = k + 1 + 1 := cM_ (by omega) (by omega)
   obtain ⟨w2, hw2⟩ := gx_ (k + 1 + 1) (by omega) (by omega)
   have W2 : w4 (k + 1 + 1 + 1) = k + 1 + 1 + 1 := cM_ (by omega) (by omega)
   have W3 : w4 (k + 1 + 1 + 1 + 1) = k + 1 + 1 + 1 + 1 := cM_ (by omega) (by omega)
   refine ⟨k + 1 + 1 + 1 + 1, ⟨k, k + 1, w2, k + 1 + 1 + 1⟩, ?_, by omega, by omega, fun t' ht' he hi' => ?_⟩
   ·show (if decide ((i : Int) < (t.l.length : Int)) = true then _ else _) = _
    rw [if_pos (by simpa using hi)]
    simp only [hx, Option.bind_some, jz_, lG_ hi, WI, W0, W1, hw2, W2, W3]
   ·show (if decide ((i : Int) < (t'.l.length : Int)) = true then _ else _) = _
    rw [if_pos (by simpa using hi')]
    simp only [he, Option.bind_some, WI, W0, W1, hw2, W2, W3, eq_self, decide_true, Bool.not_true, Bool.false_eq_true, if_false])
  (fun k t => by rw [if_neg (by simp)]) (fun k t => by rw [if_neg (by simp)])
 refine ⟨k', t', ?_, hA_ t' k k' ?_, q4, by omega⟩
 ·unfold aP_; rw [q1]; rfl
 ·unfold dw_; rw [q3]; rfl
theorem mX_ (s : Sl aa_) (h : s.l.length ≤ 1048577 ∧ ∀ e ∈ s.l, aN_ e) : MH bv_ dh_ 8796118188048 s := by
 have hl := h.1
 intro k h0 h1
 obtain ⟨k', t', q1, q2, q3, q4, q5⟩ := ob_ (P := aN_) (N := 8388624) (s := s) (mb := fun st1 => (if (decide (st1.2.1 < (st1.2.2.l.length : Int))) = true then ((elt st1.2.2 st1.2.1).bind fun y2 => ((elt (setS st1.2.2 st1.2.1 ((⟨st1.1, y2.Kind, y2.Name, y2.Low, y2.Keys, y2.Vals, y2.Default⟩ : aa_) : aa_)) st1.2.1).bind fun y3 => ((aJ_ (w4 ((w4 (st1.1 + 1)) + 1))).bind fun y4 => ((elt ((setS (setS st1.2.2 st1.2.1 ((⟨st1.1, y2.Kind, y2.Name, y2.Low, y2.Keys, y2.Vals, y2.Default⟩ : aa_) : aa_)) st1.2.1 ((⟨y3.Id, (w4 (st1.1 + 1)), y3.Name, y3.Low, y3.Keys, y3.Vals, y3.Default⟩ : aa_) : aa_))) st1.2.1).bind fun y5 => ((elt ((setS ((setS (setS st1.2.2 st1.2.1 ((⟨st1.1, y2.Kind, y2.Name, y2.Low, y2.Keys, y2.Vals, y2.Default⟩ : aa_) : aa_)) st1.2.1 ((⟨y3.Id, (w4 (st1.1 + 1)), y3.Name, y3.Low, y3.Keys, y3.Vals, y3.Default⟩ : aa_) : aa_))) st1.2.1 ((⟨y5.Id, y5.Kind, y4, y5.Low, y5.Keys, y5.Vals, y5.Default⟩ : aa_) : aa_))) st1.2.1).bind fun y6 => ((elt ((setS ((setS ((setS (setS st1.2.2 st1.2.1 ((⟨st1.1, y2.Kind, y2.Name, y2.Low, y2.Keys, y2.Vals, y2.Default⟩ : aa_) : aa_)) st1.2.1 ((⟨y3.Id, (w4 (st1.1 + 1)), y3.Name, y3.Low, y3.Keys, y3.Vals, y3.Default⟩ : aa_) : aa_))) st1.2.1 ((⟨y5.Id, y5.Kind, y4, y5.Low, y5.Keys, y5.Vals, y5.Default⟩ : aa_) : aa_))) st1.2.1 ((⟨y6.Id, y6.Kind, y6.Name, (w4 ((w4 ((w4 (st1.1 + 1)) + 1)) + 1)), y6.Keys, y6.Vals, y6.Default⟩ : aa_) : aa_))) st1.2.1).bind fun y7 => ((aP_ y7.Keys (w4 ((w4 ((w4 ((w4 (st1.1 + 1)) + 1)) + 1)) + 1))).bind fun y8 => ((elt ((setS ((setS ((setS ((setS (setS st1.2.2 st1.2.1 ((⟨st1.1, y2.Kind, y2.Name, y2.Low, y2.Keys, y2.Vals, y2.Default⟩ : aa_) : aa_)) st1.2.1 ((⟨y3.Id, (w4 (st1.1 + 1)), y3.Name, y3.Low, y3.Keys, y3.Vals, y3.Default⟩ : aa_) : aa_))) st1.2.1 ((⟨y5.Id, y5.Kind, y4, y5.Low, y5.Keys, y5.Vals, y5.Default⟩ : aa_) : aa_))) st1.2.1 ((⟨y6.Id, y6.Kind, y6.Name, (w4 ((w4 ((w4 (st1.1 + 1)) + 1)) + 1)), y6.Keys, y6.Vals, y6.Default⟩ : aa_) : aa_))) st1.2.1 ((⟨y7.Id, y7.Kind, y7.Name, y7.Low, y8.2, y7.Vals, y7.Default⟩ : aa_) : aa_))) st1.2.1).bind fun y9 => ((aP_ y9.Vals y8.1).bind fun y10 => ((elt ((setS ((setS ((setS ((setS ((setS (setS st1.2.2 st1.2.1 ((⟨st1.1, y2.Kind, y2.Name, y2.Low, y2.Keys, y2.Vals, y2.Default⟩ : aa_) : aa_)) st1.2.1 ((⟨y3.Id, (w4 (st1.1 + 1)), y3.Name, y3.Low, y3.Keys, y3.Vals, y3.Default⟩ : aa_) : aa_))) st1.2.1 ((⟨y5.Id, y5.Kind, y4, y5.Low, y5.Keys, y5.Vals, y5.Default⟩ : aa_) : aa_))) st1.2.1 ((⟨y6.Id, y6.Kind, y6.Name, (w4 ((w4 ((w4 (st1.1 + 1)) + 1)) + 1)), y6.Keys, y6.Vals, y6.Default⟩ : aa_) : aa_))) st1.2.1 ((⟨y7.Id, y7.Kind, y7.Name, y7.Low, y8.2, y7.Vals, y7.Default⟩ : aa_) : aa_))) st1.2.1 ((⟨y9.Id, y9.Kind, y9.Name, y9.Low, y9.Keys, y10.2, y9.Default⟩ : aa_) : aa_))) st1.2.1).bind fun y11 => ((elt ((setS ((setS ((setS ((setS ((setS ((setS (setS st1.2.2 st1.2.1 ((⟨st1.1, y2.Kind, y2.Name, y2.Low, y2.Keys, y2.Vals, y2.Default⟩ : aa_) : aa_)) st1.2.1 ((⟨y3.Id, (w4 (st1.1 + 1)), y3.Name, y3.Low, y3.Keys, y3.Vals, y3.Default⟩ : aa_) : aa_))) st1.2.1 ((⟨y5.Id, y5.Kind, y4, y5.Low, y5.Keys, y5.Vals, y5.Default⟩ : aa_) : aa_))) st1.2.1 ((⟨y6.Id, y6.Kind, y6.Name, (w4 ((w4 ((w4 (st1.1 + 1)) + 1)) + 1)), y6.Keys, y6.Vals, y6.Default⟩ : aa_) : aa_))) st1.2.1 ((⟨y7.Id, y7.Kind, y7.Name, y7.Low, y8.2, y7.Vals, y7.Default⟩ : aa_) : aa_))) st1.2.1 ((⟨y9.Id, y9.Kind, y9.Name, y9.Low, y9.Keys, y10.2, y9.Default⟩ : aa_) : aa_))) st1.2.1 ((⟨y11.Id, y11.Kind, y11.Name, y11.Low, y11.Keys, y11.Vals, (⟨y10.1, y11.Default.Num, y11.Default.Text, y11.Default.Ref⟩ : ac_)⟩ : aa_) : aa_))) st1.2.1).bind fun y12 => ((aJ_ (w4 ((w4 (y10.1 + 1)) + 1))).bind fun y13 => ((elt ((setS ((setS ((setS ((setS ((setS ((setS ((setS (setS st1.2.2 st1.2.1 ((⟨st1.1, y2.Kind, y2.Name, y2.Low, y2.Keys, y2.Vals, y2.Default⟩ : aa_) : aa_)) st1.2.1 ((⟨y3.Id, (w4 (st1.1 + 1)), y3.Name, y3.Low, y3.Keys, y3.Vals, y3.Default⟩ : aa_) : aa_))) st1.2.1 ((⟨y5.Id, y5.Kind, y4, y5.Low, y5.Keys, y5.Vals, y5.Default⟩ : aa_) : aa_))) st1.2.1 ((⟨y6.Id, y6.Kind, y6.Name, (w4 ((w4 ((w4 (st1.1 + 1)) + 1)) + 1)), y6.Keys, y6.Vals, y6.Default⟩ : aa_) : aa_))) st1.2.1 ((⟨y7.Id, y7.Kind, y7.Name, y7.Low, y8.2, y7.Vals, y7.Default⟩ : aa_) : aa_))) st1.2.1 ((⟨y9.Id, y9.Kind, y9.Name, y9.Low, y9.Keys, y10.2, y9.Default⟩ : aa_) : aa_))) st1.2.1 ((⟨y11.Id, y11.Kind, y11.Name, y11.Low, y11.Keys, y11.Vals, (⟨y10.1, y11.Default.Num, y11.Default.Text, y11.Default.Ref⟩ : ac_)⟩ : aa_) : aa_))) st1.2.1 ((⟨y12.Id, y12.Kind, y12.Name, y12.Low, y12.Keys, y12.Vals, (⟨y12.Default.Kind, (w4 (y10.1 + 1)), y12.Default.Text, y12.Default.Ref⟩ : ac_)⟩ : aa_) : aa_))) st1.2.1).bind fun y14 => ((elt ((setS ((setS ((setS ((setS ((setS ((setS ((setS ((setS (setS st1.2.2 st1.2.1 ((⟨st1.1, y2.Kind, y2.Name, y2.Low, y2.Keys, y2.Vals, y2.Default⟩ : aa_) : aa_)) st1.2.1 ((⟨y3.Id, (w4 (st1.1 + 1)), y3.Name, y3.Low, y3.Keys, y3.Vals, y3.Default⟩ : aa_) : aa_))) st1.2.1 ((⟨y5.Id, y5.Kind, y4, y5.Low, y5.Keys, y5.Vals, y5.Default⟩ : aa_) : aa_))) st1.2.1 ((⟨y6.Id, y6.Kind, y6.Name, (w4 ((w4 ((w4 (st1.1 + 1)) + 1)) + 1)), y6.Keys, y6.Vals, y6.Default⟩ : aa_) : aa_))) st1.2.1 ((⟨y7.Id, y7.Kind, y7.Name, y7.Low, y8.2, y7.Vals, y7.Default⟩ : aa_) : aa_))) st1.2.1 ((⟨y9.Id, y9.Kind, y9.Name, y9.Low, y9.Keys, y10.2, y9.Default⟩ : aa_) : aa_))) st1.2.1 ((⟨y11.Id, y11.Kind, y11.Name, y11.Low, y11.Keys, y11.Vals, (⟨y10.1, y11.Default.Num, y11.Default.Text, y11.Default.Ref⟩ : ac_)⟩ : aa_) : aa_))) st1.2.1 ((⟨y12.Id, y12.Kind, y12.Name, y12.Low, y12.Keys, y12.Vals, (⟨y12.Default.Kind, (w4 (y10.1 + 1)), y12.Default.Text, y12.Default.Ref⟩ : ac_)⟩ : aa_) : aa_))) st1.2.1 ((⟨y14.Id, y14.Kind, y14.Name, y14.Low, y14.Keys, y14.Vals, (⟨y14.Default.Kind, y14.Default.Num, y13, y14.Default.Ref⟩ : ac_)⟩ : aa_) : aa_))) st1.2.1).bind fun y15 => (some (.inl ((w4 ((w4 ((w4 ((w4 (y10.1 + 1)) + 1)) + 1)) + 1)), (w4 (st1.2.1 + 1)), (setS ((setS ((setS ((setS ((setS ((setS ((setS ((setS ((setS (setS st1.2.2 st1.2.1 ((⟨st1.1, y2.Kind, y2.Name, y2.Low, y2.Keys, y2.Vals, y2.Default⟩ : aa_) : aa_)) st1.2.1 ((⟨y3.Id, (w4 (st1.1 + 1)), y3.Name, y3.Low, y3.Keys, y3.Vals, y3.Default⟩ : aa_) : aa_))) st1.2.1 ((⟨y5.Id, y5.Kind, y4, y5.Low, y5.Keys, y5.Vals, y5.Default⟩ : aa_) : aa_))) st1.2.1 ((⟨y6.Id, y6.Kind, y6.Name, (w4 ((w4 ((w4 (st1.1 + 1)) + 1)) + 1)), y6.Keys, y6.Vals, y6.Default⟩ : aa_) : aa_))) st1.2.1 ((⟨y7.Id, y7.Kind, y7.Name, y7.Low, y8.2, y7.Vals, y7.Default⟩ : aa_) : aa_))) st1.2.1 ((⟨y9.Id, y9.Kind, y9.Name, y9.Low, y9.Keys, y10.2, y9.Default⟩ : aa_) : aa_))) st1.2.1 ((⟨y11.Id, y11.Kind, y11.Name, y11.Low, y11.Keys, y11.Vals, (⟨y10.1, y11.Default.Num, y11.Default.Text, y11.Default.Ref⟩ : ac_)⟩ : aa_) : aa_))) st1.2.1 ((⟨y12.Id, y12.Kind, y12.Name, y12.Low, y12.Keys, y12.Vals, (⟨y12.Default.Kind, (w4 (y10.1 + 1)), y12.Default.Text, y12.Default.Ref⟩ : ac_)⟩ : aa_) : aa_))) st1.2.1 ((⟨y14.Id, y14.Kind, y14.Name, y14.Low, y14.Keys, y14.Vals, (⟨y14.Default.Kind, y14.Default.Num, y13, y14.Default.Ref⟩ : ac_)⟩ : aa_) : aa_))) st1.2.1 ((⟨y15.Id, y15.Kind, y15.Name, y15.Low, y15.Keys, y15.Vals, (⟨y15.Default.Kind, y15.Default.Num, y15.Default.Text, (w4 ((w4 ((w4 (y10.1 + 1)) + 1)) + 1))⟩ : ac_)⟩ : aa_) : aa_))))))))))))))))))) else (some (.inr (st1.1, st1.2.2)))))
  (hb := fun a0 => fun st1 => (if (decide (st1.2 < (a0.l.length : Int))) = true then ((elt a0 st1.2).bind fun y2 => (if (!decide (y2.Id = st1.1)) = true then (some (.inr (.inr (-1)))) else ((elt a0 st1.2).bind fun y3 => (if (!decide (y3.Kind = (w4 (st1.1 + 1)))) = true then (some (.inr (.inr (-1)))) else ((elt a0 st1.2).bind fun y4 => ((aJ_ (w4 ((w4 (st1.1 + 1)) + 1))).bind fun y5 => (if (!decide (y4.Name = y5)) = true then (some (.inr (.inr (-1)))) else ((elt a0 st1.2).bind fun y6 => (if (!decide (y6.Low = (w4 ((w4 ((w4 (st1.1 + 1)) + 1)) + 1)))) = true then (some (.inr (.inr (-1)))) else ((elt a0 st1.2).bind fun y7 => ((a1_ y7.Keys (w4 ((w4 ((w4 ((w4 (st1.1 + 1)) + 1)) + 1)) + 1))).bind fun y8 => (if (decide (y8 < 0)) = true then (some (.inr (.inr (-1)))) else ((elt a0 st1.2).bind fun y9 => ((a1_ y9.Vals y8).bind fun y10 => (if (decide (y10 < 0)) = true then (some (.inr (.inr (-1)))) else ((elt a0 st1.2).bind fun y11 => (if (!decide (y11.Default.Kind = y10)) = true then (some (.inr (.inr (-1)))) else ((elt a0 st1.2).bind fun y12 => (if (!decide (y12.Default.Num = (w4 (y10 + 1)))) = true then (some (.inr (.inr (-1)))) else ((elt a0 st1.2).bind fun y13 => ((aJ_ (w4 ((w4 (y10 + 1)) + 1))).bind fun y14 => (if (!decide (y13.Default.Text = y14)) = true then (some (.inr (.inr (-1)))) else ((elt a0 st1.2).bind fun y15 => (if (!decide (y15.Default.Ref = (w4 ((w4 ((w4 (y10 + 1)) + 1)) + 1)))) = true then (some (.inr (.inr (-1)))) else (some (.inl ((w4 ((w4 ((w4 ((w4 (y10 + 1)) + 1)) + 1)) + 1)), (w4 (st1.2 + 1))))))))))))))))))))))))))))) else (some (.inr (.inl st1.1)))))
  h.2 h0 (by omega) (by omega) (fun k i t x hx hi ht hP h0 h1 => by
   have WI : w4 ((i : Int) + 1) = (i : Int) + 1 := cM_ (by omega) (by omega)
   have W0 : w4 (k + 1) = k + 1 := cM_ (by omega) (by omega)
   have W1 : w4 (k + 1 + 1) = k + 1 + 1 := cM_ (by omega) (by omega)
   obtain ⟨w2, hw2⟩ := gx_ (k + 1 + 1) (by omega) (by omega)
   have W2 : w4 (k + 1 + 1 + 1) = k + 1 + 1 + 1 := cM_ (by omega) (by omega)
   have W3 : w4 (k + 1 + 1 + 1 + 1) = k + 1 + 1 + 1 + 1 := cM_ (by omega) (by omega)
   obtain ⟨k4, x4, m4, g4, a4, b4⟩ := hh_ x.Keys hP.1 (k + 1 + 1 + 1 + 1) (by omega) (by omega)
   have d4 : decide (k4 < 0) = false := by simp; omega
   obtain ⟨k5, x5, m5, g5, a5, b5⟩ := hh_ x.Vals hP.2.1 (k4) (by omega) (by omega)
   have d5 : decide (k5 < 0) = false := by simp; omega
   have W6 : w4 (k5 + 1) = k5 + 1 := cM_ (by omega) (by omega)
   have W7 : w4 (k5 + 1 + 1) = k5 + 1 + 1 := cM_ (by omega) (by omega)
   obtain ⟨w8, hw8⟩ := gx_ (k5 + 1 + 1) (by omega) (by omega)
   have W8 : w4 (k5 + 1 + 1 + 1) = k5 + 1 + 1 + 1 := cM_ (by omega) (by omega)
   have W9 : w4 (k5 + 1 + 1 + 1 + 1) = k5 + 1 + 1 + 1 + 1 := cM_ (by omega) (by omega)
   refine ⟨k5 + 1 + 1 + 1 + 1, ⟨k, k + 1, w2, k + 1 + 1 + 1, x4, x5, ⟨k5, k5 + 1, w8, k5 + 1 + 1 + 1⟩⟩, ?_, by omega, by omega, fun t' ht' he hi' => ?_⟩
   ·show (if decide ((i : Int) < (t.l.length : Int)) = true then _ else _) = _
    rw [if_pos (by simpa using hi)]
    simp only [hx, Option.bind_some, jz_, lG_ hi, WI, W0, W1, hw2, W2, W3, m4, m5, W6, W7, hw8, W8, W9]
   ·show (if decide ((i : Int) < (t'.l.length : Int)) = true then _ else _) = _
    rw [if_pos (by simpa using hi')]
    simp only [he, Option.bind_some, WI, W0, W1, hw2, W2, W3, g4, d4, g5, d5, W6, W7, hw8, W8, W9, eq_self, decide_true, Bool.not_true, Bool.false_eq_true, if_false])
  (fun k t => by rw [if_neg (by simp)]) (fun k t => by rw [if_neg (by simp)])
 refine ⟨k', t', ?_, g8_ t' k k' ?_, q4, by omega⟩
 ·unfold bv_; rw [q1]; rfl
 ·unfold c6_; rw [q3]; rfl
theorem rd_ (x : aa_) (h : aN_ x) (k : Int) (h0 : 0 ≤ k) (h1 : k ≤ 2305843009213693952) : ∃ k' x0 x1, cq_ x k = some (k', ⟨x.Id, x.Kind, x.Name, x.Low, x0, x1, ⟨x.Default.Kind, x.Default.Num, x.Default.Text, x.Default.Ref⟩⟩) ∧ k ≤ k' ∧ k' ≤ k + 8388616 ∧ ∀ (v1 : Int) (v2 : Int) (v3 : ByteArray) (v4 : Int) (v5 : Int) (v6 : Int) (v7 : ByteArray) (v8 : Int), e2_ (⟨v1, v2, v3, v4, x0, x1, ⟨v5, v6, v7, v8⟩⟩ : aa_) k = some k' := by
 obtain ⟨k0, x0, m0, g0, a0, b0⟩ := hh_ x.Keys h.1 (k) (by omega) (by omega)
 obtain ⟨k1, x1, m1, g1, a1, b1⟩ := hh_ x.Vals h.2.1 (k0) (by omega) (by omega)
 refine ⟨k1, x0, x1, ?_, by omega, by omega, fun v1 v2 v3 v4 v5 v6 v7 v8 => hG_ _ k _ ?_⟩
 ·unfold cq_
  rw [m0, Option.bind_some, m1, Option.bind_some]
 ·unfold dn_
  rw [g0, Option.bind_some, if_neg (by simp; omega), g1, Option.bind_some, if_neg (by simp; omega)]
theorem nV_ (x : aj_) (h : bL_ x) (k : Int) (h0 : 0 ≤ k) (h1 : k ≤ 2305843009213693952) : ∃ k' x0, bJ_ x k = some (k', ⟨x.Next, x0⟩) ∧ k ≤ k' ∧ k' ≤ k + 8796118188048 ∧ ∀ (v1 : Int), cX_ (⟨v1, x0⟩ : aj_) k = some k' := by
 obtain ⟨k0, x0, m0, g0, a0, b0⟩ := mX_ x.Objects h (k) (by omega) (by omega)
 refine ⟨k0, x0, ?_, by omega, by omega, fun v1 => iH_ _ k _ ?_⟩
 ·unfold bJ_
  rw [m0, Option.bind_some]
 ·unfold ez_
  rw [g0, Option.bind_some, if_neg (by simp; omega)]
/-! how arguments read -/
theorem un_i64 : Go.Proofs.Try.prog.underlying 2 = some (.int .i64) := by kernel_rfl
theorem gv_ {d : Nat} {ts : List T} (h : Shp Go.Proofs.Try.prog d 2 ts) : ∃ n : Int, ts = [.int .i64 n] := p3_ un_i64 (by kernel_rfl) h
theorem m0_ {d : Nat} {ts : List T} (h : Shp Go.Proofs.Try.prog d 9 ts) : ∃ x : ByteArray, ts = [.str x] ∧ n4_ x := pS_ (by kernel_rfl) h
theorem fP_ {d : Nat} {ts : List T} (h : Shp Go.Proofs.Try.prog d 43 ts) : ∃ x : ac_, ts = ac_.cells x ∧ dE_ x := by
 obtain ⟨d, g⟩ := hD_ (by kernel_rfl) h
 rw [show (bA_ Go.Proofs.Try.prog 43).map (·.type) = [2, 2, 9, 2] from by kernel_rfl] at g
 obtain ⟨a0, t0, rfl, -, q0, g⟩ := g
 obtain ⟨x0, rfl⟩ := gv_ q0
 obtain ⟨a1, t1, rfl, -, q1, g⟩ := g
 obtain ⟨x1, rfl⟩ := gv_ q1
 obtain ⟨a2, t2, rfl, -, q2, g⟩ := g
 obtain ⟨x2, rfl, b2⟩ := m0_ q2
 obtain ⟨a3, t3, rfl, -, q3, g⟩ := g
 obtain ⟨x3, rfl⟩ := gv_ q3
 cases g
 exact ⟨⟨x0, x1, x2, x3⟩, rfl, b2⟩
theorem nn_ {d : Nat} {ts : List T} (h : Shp Go.Proofs.Try.prog d 42 ts) : ∃ x : Sl ac_, ts = [Sl.t x] ∧ FitS maxLen dE_ x :=
 o5_ (kt := by kernel_rfl) (he := by kernel_rfl) (fun d ts h => fP_ h) h
theorem mU_ {d : Nat} {ts : List T} (h : Shp Go.Proofs.Try.prog d 45 ts) : ∃ x : aa_, ts = aa_.cells x ∧ fZ_ x := by
 obtain ⟨d, g⟩ := hD_ (by kernel_rfl) h
 rw [show (bA_ Go.Proofs.Try.prog 45).map (·.type) = [2, 2, 9, 2, 42, 42, 43] from by kernel_rfl] at g
 obtain ⟨a0, t0, rfl, -, q0, g⟩ := g
 obtain ⟨x0, rfl⟩ := gv_ q0
 obtain ⟨a1, t1, rfl, -, q1, g⟩ := g
 obtain ⟨x1, rfl⟩ := gv_ q1
 obtain ⟨a2, t2, rfl, -, q2, g⟩ := g
 obtain ⟨x2, rfl, b2⟩ := m0_ q2
 obtain ⟨a3, t3, rfl, -, q3, g⟩ := g
 obtain ⟨x3, rfl⟩ := gv_ q3
 obtain ⟨a4, t4, rfl, -, q4, g⟩ := g
 obtain ⟨x4, rfl, b4⟩ := nn_ q4
 obtain ⟨a5, t5, rfl, -, q5, g⟩ := g
 obtain ⟨x5, rfl, b5⟩ := nn_ q5
 obtain ⟨a6, t6, rfl, -, q6, g⟩ := g
 obtain ⟨x6, rfl, b6⟩ := fP_ q6
 cases g
 exact ⟨⟨x0, x1, x2, x3, x4, x5, x6⟩, rfl, ⟨b2, b4, b5, b6⟩⟩
theorem pk_ {d : Nat} {ts : List T} (h : Shp Go.Proofs.Try.prog d 22 ts) : ∃ x : Sl aa_, ts = [Sl.t x] ∧ FitS maxLen fZ_ x :=
 o5_ (kt := by kernel_rfl) (he := by kernel_rfl) (fun d ts h => mU_ h) h
theorem oB_ {d : Nat} {ts : List T} (h : Shp Go.Proofs.Try.prog d 24 ts) : ∃ x : aj_, ts = aj_.cells x ∧ ln_ x := by
 obtain ⟨d, g⟩ := hD_ (by kernel_rfl) h
 rw [show (bA_ Go.Proofs.Try.prog 24).map (·.type) = [2, 22] from by kernel_rfl] at g
 obtain ⟨a0, t0, rfl, -, q0, g⟩ := g
 obtain ⟨x0, rfl⟩ := gv_ q0
 obtain ⟨a1, t1, rfl, -, q1, g⟩ := g
 obtain ⟨x1, rfl, b1⟩ := pk_ q1
 cases g
 exact ⟨⟨x0, x1⟩, rfl, b1⟩
end Go.Am
end
