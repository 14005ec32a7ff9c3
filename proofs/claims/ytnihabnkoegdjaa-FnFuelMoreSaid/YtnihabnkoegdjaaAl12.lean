/- The law. -/
import Derived.Test.YtnihabnkoegdjaaAg3
import Derived.Test.YtnihabnkoegdjaaAg4
import Derived.Test.YtnihabnkoegdjaaAl11
section
set_option maxRecDepth 100000
set_option maxHeartbeats 2000000
set_option linter.unusedVariables false
set_option linter.unusedSimpArgs false
namespace Go.Am
namespace Nt
abbrev cu_ (S : aa_) : (Sl DNamed) × ByteArray × Int × Int × Int × Int × Bool × Int × (Sl DCapture) × (Sl DCapture) × (Sl DMatch) := (S.env_, S.subject_, S.fuel_, S.steps_, S.start_, S.most_, S.isMere_, S.code_, S.now_, S.conds_, S.matches_)
abbrev unR (r : an_) : (Sl DNamed) × ByteArray × Int × Int × Int × Bool × Bool × Bool × Int × (Sl ah_) × (Sl DMatch) × (Sl DCapture) × (Sl DCapture) := (r.env_, r.s_, r.fuel_, r.mode_, r.steps_, r.full_, r.abort_, r.stop_, r.code_, r.conts_, r.out_, r.now_, r.conds_)
abbrev NS (S : aa_) : aa_ := ⟨S.env_, S.subject_, S.fuel_, S.steps_, S.start_, S.now_, S.conds_, S.matches_, S.most_, S.isMere_, T.nilm, S.code_⟩
noncomputable abbrev IARB (c : Nat) (Φ : PhiT) (x : (Int × (Sl DNamed) × ByteArray × Int × Int × Int × Int × Bool × Int × (Sl DCapture) × (Sl DCapture) × (Sl DMatch))) : Option ((((Sl DNamed) × ByteArray × Int × Int × Int × Int × Bool × Int × (Sl DCapture) × (Sl DCapture) × (Sl DMatch)) ⊕ (Bool × aa_))) := aF_ (S := (Int × (Sl DNamed) × ByteArray × Int × Int × Int × Int × Bool × Int × (Sl DCapture) × (Sl DCapture) × (Sl DMatch))) (R := (((Sl DNamed) × ByteArray × Int × Int × Int × Int × Bool × Int × (Sl DCapture) × (Sl DCapture) × (Sl DMatch)) ⊕ (Bool × aa_))) (fun st1 => (if (decide (st1.1 ≤ (st1.2.2.1.size : Int))) = true then ((Φ st1.1 (⟨st1.2.1, st1.2.2.1, st1.2.2.2.1, st1.2.2.2.2.1, st1.2.2.2.2.2.1, st1.2.2.2.2.2.2.2.2.2.1, st1.2.2.2.2.2.2.2.2.2.2.1, st1.2.2.2.2.2.2.2.2.2.2.2, st1.2.2.2.2.2.2.1, st1.2.2.2.2.2.2.2.1, T.nilm, st1.2.2.2.2.2.2.2.2.1⟩ : aa_)).bind fun y3 => (if (!y3.1) = true then (some (.inr (.inr (false, (⟨y3.2.env_, y3.2.subject_, y3.2.fuel_, y3.2.steps_, y3.2.start_, y3.2.now_, y3.2.conds_, y3.2.matches_, y3.2.most_, y3.2.isMere_, T.nilm, y3.2.code_⟩ : aa_))))) else (some (.inl ((w4 (st1.1 + 1)), y3.2.env_, y3.2.subject_, y3.2.fuel_, y3.2.steps_, y3.2.start_, y3.2.most_, y3.2.isMere_, y3.2.code_, y3.2.now_, y3.2.conds_, y3.2.matches_))))) else (some (.inr (.inl (st1.2.1, st1.2.2.1, st1.2.2.2.1, st1.2.2.2.2.1, st1.2.2.2.2.2.1, st1.2.2.2.2.2.2.1, st1.2.2.2.2.2.2.2.1, st1.2.2.2.2.2.2.2.2.1, st1.2.2.2.2.2.2.2.2.2.1, st1.2.2.2.2.2.2.2.2.2.2.1, st1.2.2.2.2.2.2.2.2.2.2.2)))))) x
noncomputable abbrev IBAL (c : Nat) (Φ : PhiT) (x : (Int × (Sl DNamed) × ByteArray × Int × Int × Int × Int × Bool × Int × (Sl DCapture) × (Sl DCapture) × (Sl DMatch))) : Option ((((Sl DNamed) × ByteArray × Int × Int × Int × Int × Bool × Int × (Sl DCapture) × (Sl DCapture) × (Sl DMatch)) ⊕ (Bool × aa_))) := aF_ (S := (Int × (Sl DNamed) × ByteArray × Int × Int × Int × Int × Bool × Int × (Sl DCapture) × (Sl DCapture) × (Sl DMatch))) (R := (((Sl DNamed) × ByteArray × Int × Int × Int × Int × Bool × Int × (Sl DCapture) × (Sl DCapture) × (Sl DMatch)) ⊕ (Bool × aa_))) (fun st2 => (if (decide (0 ≤ st2.1)) = true then ((Φ st2.1 (⟨st2.2.1, st2.2.2.1, st2.2.2.2.1, st2.2.2.2.2.1, st2.2.2.2.2.2.1, st2.2.2.2.2.2.2.2.2.2.1, st2.2.2.2.2.2.2.2.2.2.2.1, st2.2.2.2.2.2.2.2.2.2.2.2, st2.2.2.2.2.2.2.1, st2.2.2.2.2.2.2.2.1, T.nilm, st2.2.2.2.2.2.2.2.2.1⟩ : aa_)).bind fun y6 => (if (!y6.1) = true then (some (.inr (.inr (false, (⟨y6.2.env_, y6.2.subject_, y6.2.fuel_, y6.2.steps_, y6.2.start_, y6.2.now_, y6.2.conds_, y6.2.matches_, y6.2.most_, y6.2.isMere_, T.nilm, y6.2.code_⟩ : aa_))))) else ((bF_ y6.2.subject_ (c : Int) st2.1).bind fun y7 => (some (.inl (y7, y6.2.env_, y6.2.subject_, y6.2.fuel_, y6.2.steps_, y6.2.start_, y6.2.most_, y6.2.isMere_, y6.2.code_, y6.2.now_, y6.2.conds_, y6.2.matches_)))))) else (some (.inr (.inl (st2.2.1, st2.2.2.1, st2.2.2.2.1, st2.2.2.2.2.1, st2.2.2.2.2.2.1, st2.2.2.2.2.2.2.1, st2.2.2.2.2.2.2.2.1, st2.2.2.2.2.2.2.2.2.1, st2.2.2.2.2.2.2.2.2.2.1, st2.2.2.2.2.2.2.2.2.2.2.1, st2.2.2.2.2.2.2.2.2.2.2.2)))))) x
noncomputable abbrev ISUC (c : Nat) (Φ : PhiT) (x : ((Sl DNamed) × ByteArray × Int × Int × Int × Int × Bool × Int × (Sl DCapture) × (Sl DCapture) × (Sl DMatch))) : Option ((((Sl DNamed) × ByteArray × Int × Int × Int × Int × Bool × Int × (Sl DCapture) × (Sl DCapture) × (Sl DMatch)) ⊕ (Bool × aa_))) := aF_ (S := ((Sl DNamed) × ByteArray × Int × Int × Int × Int × Bool × Int × (Sl DCapture) × (Sl DCapture) × (Sl DMatch))) (R := (((Sl DNamed) × ByteArray × Int × Int × Int × Int × Bool × Int × (Sl DCapture) × (Sl DCapture) × (Sl DMatch)) ⊕ (Bool × aa_))) (fun st3 => ((Φ (c : Int) (⟨st3.1, st3.2.1, st3.2.2.1, st3.2.2.2.1, st3.2.2.2.2.1, st3.2.2.2.2.2.2.2.2.1, st3.2.2.2.2.2.2.2.2.2.1, st3.2.2.2.2.2.2.2.2.2.2, st3.2.2.2.2.2.1, st3.2.2.2.2.2.2.1, T.nilm, st3.2.2.2.2.2.2.2.1⟩ : aa_)).bind fun y10 => (if y10.1 = true then (((if (decide (y10.2.steps_ = y10.2.fuel_)) = true then (some (false, y10.2.steps_, 7, (⟨true, []⟩ : Sl DMatch))) else (some (true, (w4 (y10.2.steps_ + 1)), y10.2.code_, y10.2.matches_))) : Option (Bool × Int × Int × (Sl DMatch))).bind fun y11 => (if (!y11.1) = true then (some (.inr (.inr (false, (⟨y10.2.env_, y10.2.subject_, y10.2.fuel_, y11.2.1, y10.2.start_, y10.2.now_, y10.2.conds_, y11.2.2.2, y10.2.most_, y10.2.isMere_, T.nilm, y11.2.2.1⟩ : aa_))))) else (some (.inl (y10.2.env_, y10.2.subject_, y10.2.fuel_, y11.2.1, y10.2.start_, y10.2.most_, y10.2.isMere_, y11.2.2.1, y10.2.now_, y10.2.conds_, y11.2.2.2))))) else (some (.inr (.inl (y10.2.env_, y10.2.subject_, y10.2.fuel_, y10.2.steps_, y10.2.start_, y10.2.most_, y10.2.isMere_, y10.2.code_, y10.2.now_, y10.2.conds_, y10.2.matches_))))))) x
noncomputable abbrev RARB (n c k : Nat) (x : (Int × (Sl DNamed) × ByteArray × Int × Int × Int × Bool × Bool × Bool × Int × (Sl ah_) × (Sl DMatch) × (Sl DCapture) × (Sl DCapture))) : Option (((Sl DNamed) × ByteArray × Int × Int × Int × Bool × Bool × Bool × Int × (Sl ah_) × (Sl DMatch) × (Sl DCapture) × (Sl DCapture))) := aF_ (S := (Int × (Sl DNamed) × ByteArray × Int × Int × Int × Bool × Bool × Bool × Int × (Sl ah_) × (Sl DMatch) × (Sl DCapture) × (Sl DCapture))) (R := ((Sl DNamed) × ByteArray × Int × Int × Int × Bool × Bool × Bool × Int × (Sl ah_) × (Sl DMatch) × (Sl DCapture) × (Sl DCapture))) (fun st1 => (if (decide (st1.1 ≤ (st1.2.2.1.size : Int))) = true then (if st1.2.2.2.2.2.2.2.1 = true then (some (.inr (st1.2.1, st1.2.2.1, st1.2.2.2.1, st1.2.2.2.2.1, st1.2.2.2.2.2.1, st1.2.2.2.2.2.2.1, st1.2.2.2.2.2.2.2.1, st1.2.2.2.2.2.2.2.2.1, st1.2.2.2.2.2.2.2.2.2.1, st1.2.2.2.2.2.2.2.2.2.2.1, st1.2.2.2.2.2.2.2.2.2.2.2.1, st1.2.2.2.2.2.2.2.2.2.2.2.2.1, st1.2.2.2.2.2.2.2.2.2.2.2.2.2))) else (if st1.2.2.2.2.2.2.2.2.1 = true then (some (.inr (st1.2.1, st1.2.2.1, st1.2.2.2.1, st1.2.2.2.2.1, st1.2.2.2.2.2.1, st1.2.2.2.2.2.2.1, st1.2.2.2.2.2.2.2.1, st1.2.2.2.2.2.2.2.2.1, st1.2.2.2.2.2.2.2.2.2.1, st1.2.2.2.2.2.2.2.2.2.2.1, st1.2.2.2.2.2.2.2.2.2.2.2.1, st1.2.2.2.2.2.2.2.2.2.2.2.2.1, st1.2.2.2.2.2.2.2.2.2.2.2.2.2))) else (if (!(!decide (st1.2.2.2.2.2.2.2.2.2.1 = 0))) = true then (((BG_spec_l12Run_at n).2 (⟨st1.2.1, st1.2.2.1, st1.2.2.2.1, st1.2.2.2.2.1, st1.2.2.2.2.2.1, st1.2.2.2.2.2.2.2.2.2.2.1, st1.2.2.2.2.2.2.2.2.2.2.2.1, st1.2.2.2.2.2.2.2.2.2.2.2.2.1, st1.2.2.2.2.2.2.2.2.2.2.2.2.2, st1.2.2.2.2.2.2.1, st1.2.2.2.2.2.2.2.1, st1.2.2.2.2.2.2.2.2.1, st1.2.2.2.2.2.2.2.2.2.1⟩ : an_) (k : Int) st1.1).bind fun y3 => (some (.inl ((w4 (st1.1 + 1)), y3.2.env_, y3.2.s_, y3.2.fuel_, y3.2.mode_, y3.2.steps_, y3.2.full_, y3.2.abort_, y3.2.stop_, y3.2.code_, y3.2.conts_, y3.2.out_, y3.2.now_, y3.2.conds_)))) else (some (.inr (st1.2.1, st1.2.2.1, st1.2.2.2.1, st1.2.2.2.2.1, st1.2.2.2.2.2.1, st1.2.2.2.2.2.2.1, st1.2.2.2.2.2.2.2.1, st1.2.2.2.2.2.2.2.2.1, st1.2.2.2.2.2.2.2.2.2.1, st1.2.2.2.2.2.2.2.2.2.2.1, st1.2.2.2.2.2.2.2.2.2.2.2.1, st1.2.2.2.2.2.2.2.2.2.2.2.2.1, st1.2.2.2.2.2.2.2.2.2.2.2.2.2)))))) else (some (.inr (st1.2.1, st1.2.2.1, st1.2.2.2.1, st1.2.2.2.2.1, st1.2.2.2.2.2.1, st1.2.2.2.2.2.2.1, st1.2.2.2.2.2.2.2.1, st1.2.2.2.2.2.2.2.2.1, st1.2.2.2.2.2.2.2.2.2.1, st1.2.2.2.2.2.2.2.2.2.2.1, st1.2.2.2.2.2.2.2.2.2.2.2.1, st1.2.2.2.2.2.2.2.2.2.2.2.2.1, st1.2.2.2.2.2.2.2.2.2.2.2.2.2))))) x
noncomputable abbrev RBAL (n c k : Nat) (x : (Int × (Sl DNamed) × ByteArray × Int × Int × Int × Bool × Bool × Bool × Int × (Sl ah_) × (Sl DMatch) × (Sl DCapture) × (Sl DCapture))) : Option (((Sl DNamed) × ByteArray × Int × Int × Int × Bool × Bool × Bool × Int × (Sl ah_) × (Sl DMatch) × (Sl DCapture) × (Sl DCapture))) := aF_ (S := (Int × (Sl DNamed) × ByteArray × Int × Int × Int × Bool × Bool × Bool × Int × (Sl ah_) × (Sl DMatch) × (Sl DCapture) × (Sl DCapture))) (R := ((Sl DNamed) × ByteArray × Int × Int × Int × Bool × Bool × Bool × Int × (Sl ah_) × (Sl DMatch) × (Sl DCapture) × (Sl DCapture))) (fun st2 => (if (decide (0 ≤ st2.1)) = true then (if st2.2.2.2.2.2.2.2.1 = true then (some (.inr (st2.2.1, st2.2.2.1, st2.2.2.2.1, st2.2.2.2.2.1, st2.2.2.2.2.2.1, st2.2.2.2.2.2.2.1, st2.2.2.2.2.2.2.2.1, st2.2.2.2.2.2.2.2.2.1, st2.2.2.2.2.2.2.2.2.2.1, st2.2.2.2.2.2.2.2.2.2.2.1, st2.2.2.2.2.2.2.2.2.2.2.2.1, st2.2.2.2.2.2.2.2.2.2.2.2.2.1, st2.2.2.2.2.2.2.2.2.2.2.2.2.2))) else (if st2.2.2.2.2.2.2.2.2.1 = true then (some (.inr (st2.2.1, st2.2.2.1, st2.2.2.2.1, st2.2.2.2.2.1, st2.2.2.2.2.2.1, st2.2.2.2.2.2.2.1, st2.2.2.2.2.2.2.2.1, st2.2.2.2.2.2.2.2.2.1, st2.2.2.2.2.2.2.2.2.2.1, st2.2.2.2.2.2.2.2.2.2.2.1, st2.2.2.2.2.2.2.2.2.2.2.2.1, st2.2.2.2.2.2.2.2.2.2.2.2.2.1, st2.2.2.2.2.2.2.2.2.2.2.2.2.2))) else (if (!(!decide (st2.2.2.2.2.2.2.2.2.2.1 = 0))) = true then (((BG_spec_l12Run_at n).2 (⟨st2.2.1, st2.2.2.1, st2.2.2.2.1, st2.2.2.2.2.1, st2.2.2.2.2.2.1, st2.2.2.2.2.2.2.2.2.2.2.1, st2.2.2.2.2.2.2.2.2.2.2.2.1, st2.2.2.2.2.2.2.2.2.2.2.2.2.1, st2.2.2.2.2.2.2.2.2.2.2.2.2.2, st2.2.2.2.2.2.2.1, st2.2.2.2.2.2.2.2.1, st2.2.2.2.2.2.2.2.2.1, st2.2.2.2.2.2.2.2.2.2.1⟩ : an_) (k : Int) st2.1).bind fun y6 => ((b4_ y6.2.s_ (c : Int) st2.1).bind fun y7 => (some (.inl (y7, y6.2.env_, y6.2.s_, y6.2.fuel_, y6.2.mode_, y6.2.steps_, y6.2.full_, y6.2.abort_, y6.2.stop_, y6.2.code_, y6.2.conts_, y6.2.out_, y6.2.now_, y6.2.conds_))))) else (some (.inr (st2.2.1, st2.2.2.1, st2.2.2.2.1, st2.2.2.2.2.1, st2.2.2.2.2.2.1, st2.2.2.2.2.2.2.1, st2.2.2.2.2.2.2.2.1, st2.2.2.2.2.2.2.2.2.1, st2.2.2.2.2.2.2.2.2.2.1, st2.2.2.2.2.2.2.2.2.2.2.1, st2.2.2.2.2.2.2.2.2.2.2.2.1, st2.2.2.2.2.2.2.2.2.2.2.2.2.1, st2.2.2.2.2.2.2.2.2.2.2.2.2.2)))))) else (some (.inr (st2.2.1, st2.2.2.1, st2.2.2.2.1, st2.2.2.2.2.1, st2.2.2.2.2.2.1, st2.2.2.2.2.2.2.1, st2.2.2.2.2.2.2.2.1, st2.2.2.2.2.2.2.2.2.1, st2.2.2.2.2.2.2.2.2.2.1, st2.2.2.2.2.2.2.2.2.2.2.1, st2.2.2.2.2.2.2.2.2.2.2.2.1, st2.2.2.2.2.2.2.2.2.2.2.2.2.1, st2.2.2.2.2.2.2.2.2.2.2.2.2.2))))) x
noncomputable abbrev RSUC (n c k : Nat) (x : ((Sl DNamed) × ByteArray × Int × Int × Int × Bool × Bool × Bool × Int × (Sl ah_) × (Sl DMatch) × (Sl DCapture) × (Sl DCapture))) : Option (((Sl DNamed) × ByteArray × Int × Int × Int × Bool × Bool × Bool × Int × (Sl ah_) × (Sl DMatch) × (Sl DCapture) × (Sl DCapture))) := aF_ (S := ((Sl DNamed) × ByteArray × Int × Int × Int × Bool × Bool × Bool × Int × (Sl ah_) × (Sl DMatch) × (Sl DCapture) × (Sl DCapture))) (R := ((Sl DNamed) × ByteArray × Int × Int × Int × Bool × Bool × Bool × Int × (Sl ah_) × (Sl DMatch) × (Sl DCapture) × (Sl DCapture))) (fun st3 => (if st3.2.2.2.2.2.2.1 = true then (some (.inr (st3.1, st3.2.1, st3.2.2.1, st3.2.2.2.1, st3.2.2.2.2.1, st3.2.2.2.2.2.1, st3.2.2.2.2.2.2.1, st3.2.2.2.2.2.2.2.1, st3.2.2.2.2.2.2.2.2.1, st3.2.2.2.2.2.2.2.2.2.1, st3.2.2.2.2.2.2.2.2.2.2.1, st3.2.2.2.2.2.2.2.2.2.2.2.1, st3.2.2.2.2.2.2.2.2.2.2.2.2))) else (if st3.2.2.2.2.2.2.2.1 = true then (some (.inr (st3.1, st3.2.1, st3.2.2.1, st3.2.2.2.1, st3.2.2.2.2.1, st3.2.2.2.2.2.1, st3.2.2.2.2.2.2.1, st3.2.2.2.2.2.2.2.1, st3.2.2.2.2.2.2.2.2.1, st3.2.2.2.2.2.2.2.2.2.1, st3.2.2.2.2.2.2.2.2.2.2.1, st3.2.2.2.2.2.2.2.2.2.2.2.1, st3.2.2.2.2.2.2.2.2.2.2.2.2))) else (if (!(!decide (st3.2.2.2.2.2.2.2.2.1 = 0))) = true then (((if (decide (st3.2.2.1 ≤ st3.2.2.2.2.1)) = true then (some (false, st3.2.2.2.2.1, 7)) else (some (true, (w4 (st3.2.2.2.2.1 + 1)), st3.2.2.2.2.2.2.2.2.1))) : Option (Bool × Int × Int)).bind fun y11 => (if y11.1 = true then (((BG_spec_l12Run_at n).2 (⟨st3.1, st3.2.1, st3.2.2.1, st3.2.2.2.1, y11.2.1, st3.2.2.2.2.2.2.2.2.2.1, st3.2.2.2.2.2.2.2.2.2.2.1, st3.2.2.2.2.2.2.2.2.2.2.2.1, st3.2.2.2.2.2.2.2.2.2.2.2.2, st3.2.2.2.2.2.1, st3.2.2.2.2.2.2.1, st3.2.2.2.2.2.2.2.1, y11.2.2⟩ : an_) (k : Int) (c : Int)).bind fun y12 => (some (.inl (y12.2.env_, y12.2.s_, y12.2.fuel_, y12.2.mode_, y12.2.steps_, y12.2.full_, y12.2.abort_, y12.2.stop_, y12.2.code_, y12.2.conts_, y12.2.out_, y12.2.now_, y12.2.conds_)))) else (some (.inr (st3.1, st3.2.1, st3.2.2.1, st3.2.2.2.1, y11.2.1, st3.2.2.2.2.2.1, st3.2.2.2.2.2.2.1, st3.2.2.2.2.2.2.2.1, y11.2.2, st3.2.2.2.2.2.2.2.2.2.1, st3.2.2.2.2.2.2.2.2.2.2.1, st3.2.2.2.2.2.2.2.2.2.2.2.1, st3.2.2.2.2.2.2.2.2.2.2.2.2))))) else (some (.inr (st3.1, st3.2.1, st3.2.2.1, st3.2.2.2.1, st3.2.2.2.2.1, st3.2.2.2.2.2.1, st3.2.2.2.2.2.2.1, st3.2.2.2.2.2.2.2.1, st3.2.2.2.2.2.2.2.2.1, st3.2.2.2.2.2.2.2.2.2.1, st3.2.2.2.2.2.2.2.2.2.2.1, st3.2.2.2.2.2.2.2.2.2.2.2.1, st3.2.2.2.2.2.2.2.2.2.2.2.2))))))) x
section
variable {Q : MdQ} {env : Sl DNamed} {s : ByteArray} {F M : Nat} {start : Int} {nw cd : Sl DCapture} {mt : Sl DMatch} {cs : Sl ah_} {ou : Sl DMatch} {nw2 cd2 : Sl DCapture} {S' : aa_} {r' : an_} {b : Bool}
theorem Post.ns (h : Post Q env s F b M start cd cs cd2 S' r') : Post Q env s F b M start cd cs cd2 (NS S') r' := by
 refine ⟨h.hs, h.hcs, h.c1, h.c2, fun hb => ?_, fun hb => h.no hb, h.c3, h.c4⟩
 obtain ⟨M', nw', cd', mt', cs', ou', nw2', cd2', g1, g2, g3⟩ := h.go hb
 exact ⟨M', nw', cd', mt', cs', ou', nw2', cd2', g1, by rw [g2], g3⟩
theorem oR_ {Φ : PhiT} {C : List ah_} {c k n : Nat} (hs : s.size ≤ 200) (hK : KOk Q env s F M k start Φ C c) (hn : M * EE + k + 2 ≤ n) : ∀ (m e : Nat), e + m = s.size + 1 → c ≤ e → ∀ M' nw cd mt cs ou nw2 cd2, M' ≤ M → Inv s F M' nw cd mt cs ou nw2 cd2 → (∃ x, cs.l = C ++ x) →
  ∃ b S' r', (if b = true then IARB c Φ ((e : Int), env, s, (F : Int), (F : Int) - M', start, Q.mo, Q.me, 0, nw, cd, mt) = some (.inl (cu_ S')) else IARB c Φ ((e : Int), env, s, (F : Int), (F : Int) - M', start, Q.mo, Q.me, 0, nw, cd, mt) = some (.inr (false, S'))) ∧
   RARB n c k ((e : Int), env, s, (F : Int), Q.md, (F : Int) - M', false, false, false, 0, cs, ou, nw2, cd2) = some (unR r') ∧ Post Q env s F b M' start cd cs cd2 S' r' := by
 intro m
 induction m with
 | zero =>
  intro e he hce M' nw cd mt cs ou nw2 cd2 hM hi hx
  have hd : decide ((e : Int) ≤ (s.size : Int)) = false := by simp; omega
  refine ⟨true, _, _, ?_, ?_, e1_ hi⟩
  ·rw [if_pos rfl]
   refine ao_ ?_
   show (if decide ((e : Int) ≤ (s.size : Int)) = true then _ else _) = _
   rw [if_neg (by rw [hd]; simp)]
  ·refine ao_ ?_
   show (if decide ((e : Int) ≤ (s.size : Int)) = true then _ else _) = _
   rw [if_neg (by rw [hd]; simp)]
 | succ m ih =>
  intro e he hce M' nw cd mt cs ou nw2 cd2 hM hi hx
  have hd : decide ((e : Int) ≤ (s.size : Int)) = true := by simp; omega
  have hEE : M' * EE ≤ M * EE := Nat.mul_le_mul_right _ hM
  obtain ⟨b, S', r', g1, g2, g3⟩ := hK M' hM nw cd mt cs ou nw2 cd2 e n hi hx hce (by omega) (by omega)
  have ec : ((e + 1 : Nat) : Int) = (e : Int) + 1 := by simp
  have w1 : w4 ((e : Int) + 1) = (e : Int) + 1 := aS_ (by omega) (by omega)
  have hR : ∀ z, RARB n c k ((e : Int) + 1, unR r') = some z → RARB n c k ((e : Int), env, s, (F : Int), Q.md, (F : Int) - M', false, false, false, 0, cs, ou, nw2, cd2) = some z := fun z hz => by
   refine aC_ ?_ hz
   simp only [hd, decide_true, Bool.false_eq_true, Bool.not_true, Bool.not_false, if_true, if_false, g2, Option.bind_some, w1]
  cases b with
  | false =>
   refine ⟨false, NS S', r', ?_, hR _ (ao_ ?_), g3.ns⟩
   ·rw [if_neg (by simp)]
    refine ao_ ?_
    show (if decide ((e : Int) ≤ (s.size : Int)) = true then ((Φ (e : Int) (sI Q env s F ((F : Int) - M') start nw cd mt)).bind _) else _) = _
    rw [if_pos hd, g1]; rfl
   ·have ho := (g3.no rfl).over
    dsimp only [unR]
    split
    ·split
     ·rfl
     ·split
      ·rfl
      ·rename_i h1 h2
       have h3 : r'.code_ ≠ 0 := by
        rcases ho with h | h | h
        ·exact absurd h h1
        ·exact absurd h h2
        ·exact h
       rw [if_neg (by simp [h3])]
    ·rfl
  | true =>
   obtain ⟨M2, nw', cd', mt', cs', ou', nw2', cd2', q1, rfl, rfl, q4, q5⟩ := g3.go rfl
   obtain ⟨x, hx⟩ := hx
   obtain ⟨y, hy⟩ := g3.hcs
   obtain ⟨b, S', r', u1, u2, u3⟩ := ih (e + 1) (by omega) (by omega) M2 nw' cd' mt' cs' ou' nw2' cd2' (by omega) q4 ⟨x ++ y, by
    have hy : cs'.l = cs.l ++ y := hy
    rw [hy, hx, List.append_assoc]⟩
   rw [ec] at u1 u2
   have hI : ∀ z, IARB c Φ ((e : Int) + 1, cu_ (sI Q env s F ((F : Int) - M2) start nw' cd' mt')) = some z → IARB c Φ ((e : Int), env, s, (F : Int), (F : Int) - M', start, Q.mo, Q.me, 0, nw, cd, mt) = some z := fun z hz => by
    refine aC_ ?_ hz
    show (if decide ((e : Int) ≤ (s.size : Int)) = true then ((Φ (e : Int) (sI Q env s F ((F : Int) - M') start nw cd mt)).bind _) else _) = _
    rw [if_pos hd, g1, Option.bind_some]
    show some (Sum.inl (w4 ((e : Int) + 1), _)) = _
    rw [w1]
   refine ⟨b, S', r', ?_, hR _ u2, u3.trans q1 g3.hcs q5 g3.c2 (by have h4 : (cs'.l.length : Int) + ((F : Int) - ((F : Int) - M2)) ≤ cs.l.length + M' := g3.c4 rfl; omega)⟩
   split at u1
   ·rename_i h; rw [if_pos h]; exact hI _ u1
   ·rename_i h; rw [if_neg h]; exact hI _ u1
theorem su_ (c : Nat) (e : Int) (hs : s.size ≤ 200) (hc : c ≤ s.size) : ∃ v : Int, b4_ s c e = some v ∧ bF_ s c e = some v ∧ (v < 0 ∨ (e < v ∧ (c : Int) ≤ v ∧ v ≤ s.size)) := by
 have hbody : ((fun st1 => (if (decide (st1.2 < (s.size : Int))) = true then ((aU_ s st1.2).bind fun y2 => (((if (decide (y2 = 40)) = true then (some (w4 (st1.1 + 1))) else (some st1.1)) : Option Int).bind fun y3 => ((aU_ s st1.2).bind fun y4 => (((if (decide (y4 = 41)) = true then (some (w4 (y3 - 1))) else (some y3)) : Option Int).bind fun y5 => (if (decide (y5 < 0)) = true then (some (.inr (.inr (-1)))) else (if (decide (y5 = 0)) = true then (if (decide ((e : Int) < (w4 (st1.2 + 1)))) = true then (some (.inr (.inr (w4 (st1.2 + 1))))) else (some (.inl (y5, (w4 (st1.2 + 1)))))) else (some (.inl (y5, (w4 (st1.2 + 1))))))))))) else (some (.inr (.inl ()))))) : Int × Int → Option ((Int × Int) ⊕ (Unit ⊕ Int))) = (fun st1 => (if (decide (st1.2 < (s.size : Int))) = true then ((aU_ s st1.2).bind fun y2 => (((if (decide (y2 = 40)) = true then (some (w4 (st1.1 + 1))) else (if (decide (y2 = 41)) = true then (some (w4 (st1.1 - 1))) else (some st1.1))) : Option Int).bind fun y3 => (if (decide (y3 < 0)) = true then (some (.inr (.inr (-1)))) else (if (decide (y3 = 0)) = true then (if (decide ((e : Int) < (w4 (st1.2 + 1)))) = true then (some (.inr (.inr (w4 (st1.2 + 1))))) else (some (.inl (y3, (w4 (st1.2 + 1)))))) else (some (.inl (y3, (w4 (st1.2 + 1))))))))) else (some (.inr (.inl ()))))) := by
  funext st
  show (if _ then _ else _) = (if _ then _ else _)
  split
  ·cases hb : aU_ s st.2 with
   | none => rfl
   | some y =>
    simp only [Option.bind_some]
    by_cases h40 : y = 40
    ·simp [h40]
    ·by_cases h41 : y = 41 <;> simp [h40, h41]
  ·rfl
 have key : ∀ (m j : Nat), j + m = s.size → ∀ d : Int, 0 ≤ d → d ≤ j → c ≤ j → ∃ z, aF_ (S := (Int × Int)) (R := (Unit ⊕ Int)) (fun st1 => (if (decide (st1.2 < (s.size : Int))) = true then ((aU_ s st1.2).bind fun y2 => (((if (decide (y2 = 40)) = true then (some (w4 (st1.1 + 1))) else (if (decide (y2 = 41)) = true then (some (w4 (st1.1 - 1))) else (some st1.1))) : Option Int).bind fun y3 => (if (decide (y3 < 0)) = true then (some (.inr (.inr (-1)))) else (if (decide (y3 = 0)) = true then (if (decide ((e : Int) < (w4 (st1.2 + 1)))) = true then (some (.inr (.inr (w4 (st1.2 + 1))))) else (some (.inl (y3, (w4 (st1.2 + 1)))))) else (some (.inl (y3, (w4 (st1.2 + 1))))))))) else (some (.inr (.inl ()))))) (d, (j : Int)) = some z ∧ (z = .inl () ∨ z = .inr (-1) ∨ ∃ v : Int, z = .inr v ∧ e < v ∧ (c : Int) ≤ v ∧ v ≤ s.size) := by
  intro m
  induction m with
  | zero =>
   intro j hj d h0 h1 hcj
   refine ⟨.inl (), ao_ ?_, .inl rfl⟩
   show (if decide ((j : Int) < (s.size : Int)) = true then _ else _) = _
   rw [if_neg (by simp; omega)]
  | succ m ih =>
   intro j hj d h0 h1 hcj
   have hlt : j < s.size := by omega
   have ec : ((j + 1 : Nat) : Int) = (j : Int) + 1 := by simp
   have w1 : w4 ((j : Int) + 1) = (j : Int) + 1 := aS_ (by omega) (by omega)
   have hpos : decide ((j : Int) < (s.size : Int)) = true := by simpa using hlt
   have hmid : ∃ d' : Int, ((if (decide (bAt s j = 40)) = true then (some (w4 (d + 1))) else (if (decide (bAt s j = 41)) = true then (some (w4 (d - 1))) else (some d))) : Option Int) = some d' ∧ -1 ≤ d' ∧ d' ≤ j + 1 := by
    by_cases h40 : bAt s j = 40
    ·exact ⟨d + 1, by rw [if_pos (by simpa using h40), aS_ (by omega) (by omega)], by omega, by omega⟩
    ·by_cases h41 : bAt s j = 41
     ·exact ⟨d - 1, by rw [if_neg (by simpa using h40), if_pos (by simpa using h41), dO_ (by omega) (by omega)], by omega, by omega⟩
     ·exact ⟨d, by rw [if_neg (by simpa using h40), if_neg (by simpa using h41)], by omega, by omega⟩
   obtain ⟨d', q1, q2, q3⟩ := hmid
   have hb := bC_ hlt
   by_cases hneg : d' < 0
   ·refine ⟨.inr (-1), ao_ ?_, .inr (.inl rfl)⟩
    show (if decide ((j : Int) < (s.size : Int)) = true then ((aU_ s (j : Int)).bind _) else _) = _
    rw [if_pos hpos, hb, Option.bind_some, q1, Option.bind_some, if_pos (by simpa using hneg)]
   ·obtain ⟨z, z1, z2⟩ := ih (j + 1) (by omega) d' (by omega) (by omega) (by omega)
    rw [ec] at z1
    by_cases hz : d' = 0 ∧ e < (j : Int) + 1
    ·refine ⟨.inr ((j : Int) + 1), ao_ ?_, .inr (.inr ⟨_, rfl, hz.2, by omega, by omega⟩)⟩
     show (if decide ((j : Int) < (s.size : Int)) = true then ((aU_ s (j : Int)).bind _) else _) = _
     rw [if_pos hpos, hb, Option.bind_some, q1, Option.bind_some, if_neg (by simpa using hneg), if_pos (by simpa using hz.1)]
     show (if decide (e < w4 ((j : Int) + 1)) = true then some (Sum.inr (Sum.inr (w4 ((j : Int) + 1)))) else _) = _
     rw [w1, if_pos (by simpa using hz.2)]
    ·refine ⟨z, aC_ ?_ z1, z2⟩
     show (if decide ((j : Int) < (s.size : Int)) = true then ((aU_ s (j : Int)).bind _) else _) = _
     rw [if_pos hpos, hb, Option.bind_some, q1, Option.bind_some, if_neg (by simpa using hneg)]
     by_cases hz0 : d' = 0
     ·rw [if_pos (by simpa using hz0)]
      show (if decide (e < w4 ((j : Int) + 1)) = true then _ else some (Sum.inl (d', w4 ((j : Int) + 1)))) = _
      rw [w1, if_neg (by simp; exact Int.not_lt.1 fun w => hz ⟨hz0, w⟩)]
     ·rw [if_neg (by simpa using hz0)]
      show some (Sum.inl (d', w4 ((j : Int) + 1))) = _
      rw [w1]
 obtain ⟨z, z1, z2⟩ := key (s.size - c) c (by omega) 0 (by omega) (by omega) (Nat.le_refl _)
 have hS : ∀ v, (Sum.elim (fun _ => some (-1)) (fun y1 => some y1) z : Option Int) = some v → b4_ s c e = some v ∧ bF_ s c e = some v := fun v hv => by
  refine ⟨jU_ s c e v ?_, ih_ s c e v ?_⟩
  ·unfold fx_; rw [hbody, z1]; exact hv
  ·unfold ev_; rw [z1]; exact hv
 rcases z2 with rfl | rfl | ⟨v, rfl, hv⟩
 ·obtain ⟨h1, h2⟩ := hS (-1) rfl
  exact ⟨-1, h1, h2, .inl (by omega)⟩
 ·obtain ⟨h1, h2⟩ := hS (-1) rfl
  exact ⟨-1, h1, h2, .inl (by omega)⟩
 ·obtain ⟨h1, h2⟩ := hS v rfl
  exact ⟨v, h1, h2, .inr hv⟩
theorem o5_ {Φ : PhiT} {C : List ah_} {c k n : Nat} (hs : s.size ≤ 200) (hc : c ≤ s.size) (hK : KOk Q env s F M k start Φ C c) (hn : M * EE + k + 2 ≤ n) : ∀ (m : Nat) (e : Int), (e < 0 ∨ ((c : Int) ≤ e ∧ e ≤ s.size ∧ e + m = s.size + 1)) → ∀ M' nw cd mt cs ou nw2 cd2, M' ≤ M → Inv s F M' nw cd mt cs ou nw2 cd2 → (∃ x, cs.l = C ++ x) →
  ∃ b S' r', (if b = true then IBAL c Φ (e, env, s, (F : Int), (F : Int) - M', start, Q.mo, Q.me, 0, nw, cd, mt) = some (.inl (cu_ S')) else IBAL c Φ (e, env, s, (F : Int), (F : Int) - M', start, Q.mo, Q.me, 0, nw, cd, mt) = some (.inr (false, S'))) ∧
   RBAL n c k (e, env, s, (F : Int), Q.md, (F : Int) - M', false, false, false, 0, cs, ou, nw2, cd2) = some (unR r') ∧ Post Q env s F b M' start cd cs cd2 S' r' := by
 intro m
 induction m using Nat.strongRecOn with
 | ind m ih =>
 intro e he M' nw cd mt cs ou nw2 cd2 hM hi hx
 by_cases hneg : e < 0
 ·have hd : decide ((0 : Int) ≤ e) = false := by simp; omega
  refine ⟨true, _, _, ?_, ?_, e1_ hi⟩
  ·rw [if_pos rfl]
   refine ao_ ?_
   show (if decide ((0 : Int) ≤ e) = true then _ else _) = _
   rw [if_neg (by rw [hd]; simp)]
  ·refine ao_ ?_
   show (if decide ((0 : Int) ≤ e) = true then _ else _) = _
   rw [if_neg (by rw [hd]; simp)]
 ·obtain ⟨e, rfl⟩ : ∃ j : Nat, e = j := ⟨e.toNat, by omega⟩
  have he := he.resolve_left hneg
  have hd : decide ((0 : Int) ≤ (e : Int)) = true := by simp
  have hEE : M' * EE ≤ M * EE := Nat.mul_le_mul_right _ hM
  obtain ⟨b, S', r', g1, g2, g3⟩ := hK M' hM nw cd mt cs ou nw2 cd2 e n hi hx (by omega) (by omega) (by omega)
  obtain ⟨v, v1, v2, v3⟩ := su_ (s := s) c (e : Int) hs hc
  have v1' : b4_ r'.s_ (c : Int) (e : Int) = some v := by rw [g3.hs]; exact v1
  have hR : ∀ z, RBAL n c k (v, unR r') = some z → RBAL n c k ((e : Int), env, s, (F : Int), Q.md, (F : Int) - M', false, false, false, 0, cs, ou, nw2, cd2) = some z := fun z hz => by
   refine aC_ ?_ hz
   simp only [hd, decide_true, Bool.false_eq_true, Bool.not_true, Bool.not_false, if_true, if_false, g2, Option.bind_some, v1']
  cases b with
  | false =>
   refine ⟨false, NS S', r', ?_, hR _ (ao_ ?_), g3.ns⟩
   ·rw [if_neg (by simp)]
    refine ao_ ?_
    show (if decide ((0 : Int) ≤ (e : Int)) = true then ((Φ (e : Int) (sI Q env s F ((F : Int) - M') start nw cd mt)).bind _) else _) = _
    rw [if_pos hd, g1]; rfl
   ·have ho := (g3.no rfl).over
    dsimp only [unR]
    split
    ·split
     ·rfl
     ·split
      ·rfl
      ·rename_i h1 h2
       have h3 : r'.code_ ≠ 0 := by
        rcases ho with h | h | h
        ·exact absurd h h1
        ·exact absurd h h2
        ·exact h
       rw [if_neg (by simp [h3])]
    ·rfl
  | true =>
   obtain ⟨M2, nw', cd', mt', cs', ou', nw2', cd2', q1, rfl, rfl, q4, q5⟩ := g3.go rfl
   obtain ⟨x, hx⟩ := hx
   obtain ⟨y, hy⟩ := g3.hcs
   obtain ⟨m2, hm2, hv⟩ : ∃ m2, m2 < m ∧ (v < 0 ∨ ((c : Int) ≤ v ∧ v ≤ s.size ∧ v + m2 = s.size + 1)) := by
    rcases v3 with h | h
    ·exact ⟨0, by omega, .inl h⟩
    ·exact ⟨((s.size : Int) + 1 - v).toNat, by omega, .inr ⟨h.2.1, h.2.2, by omega⟩⟩
   obtain ⟨b, S', r', u1, u2, u3⟩ := ih m2 hm2 v hv M2 nw' cd' mt' cs' ou' nw2' cd2' (by omega) q4 ⟨x ++ y, by
    have hy : cs'.l = cs.l ++ y := hy
    rw [hy, hx, List.append_assoc]⟩
   have hI : ∀ z, IBAL c Φ (v, cu_ (sI Q env s F ((F : Int) - M2) start nw' cd' mt')) = some z → IBAL c Φ ((e : Int), env, s, (F : Int), (F : Int) - M', start, Q.mo, Q.me, 0, nw, cd, mt) = some z := fun z hz => by
    refine aC_ ?_ hz
    show (if decide ((0 : Int) ≤ (e : Int)) = true then ((Φ (e : Int) (sI Q env s F ((F : Int) - M') start nw cd mt)).bind _) else _) = _
    rw [if_pos hd, g1, Option.bind_some]
    show ((bF_ s (c : Int) (e : Int)).bind _) = _
    rw [v2]; rfl
   refine ⟨b, S', r', ?_, hR _ u2, u3.trans q1 g3.hcs q5 g3.c2 (by have h4 : (cs'.l.length : Int) + ((F : Int) - ((F : Int) - M2)) ≤ cs.l.length + M' := g3.c4 rfl; omega)⟩
   split at u1
   ·rename_i h; rw [if_pos h]; exact hI _ u1
   ·rename_i h; rw [if_neg h]; exact hI _ u1
theorem o3_ {Φ : PhiT} {C : List ah_} {c k n : Nat} (hc : c ≤ s.size) (hK : KOk Q env s F M k start Φ C c) (hn : M * EE + k + 2 ≤ n) : ∀ (M' : Nat) nw cd mt cs ou nw2 cd2, M' ≤ M → Inv s F M' nw cd mt cs ou nw2 cd2 → (∃ x, cs.l = C ++ x) →
  ∃ S' r' r1, (ISUC c Φ (env, s, (F : Int), (F : Int) - M', start, Q.mo, Q.me, 0, nw, cd, mt) = some (.inl (cu_ S')) ∨ ISUC c Φ (env, s, (F : Int), (F : Int) - M', start, Q.mo, Q.me, 0, nw, cd, mt) = some (.inr (false, S'))) ∧
   (BG_spec_l12Run_at n).2 (sR Q env s F ((F : Int) - M') cs ou nw2 cd2) (k : Int) (c : Int) = some ((), r1) ∧ RSUC n c k (unR r1) = some (unR r') ∧ Post Q env s F false M' start cd cs cd2 S' r' := by
 intro M'
 induction M' using Nat.strongRecOn with
 | ind M' ih =>
 intro nw cd mt cs ou nw2 cd2 hM hi hx
 have hEE : M' * EE ≤ M * EE := Nat.mul_le_mul_right _ hM
 obtain ⟨b, S', r', g1, g2, g3⟩ := hK M' hM nw cd mt cs ou nw2 cd2 c n hi hx (Nat.le_refl _) hc (by omega)
 cases b with
 | false =>
  refine ⟨S', r', r', .inl (ao_ ?_), g2, ao_ ?_, g3⟩
  ·show ((Φ (c : Int) (sI Q env s F ((F : Int) - M') start nw cd mt)).bind _) = _
   rw [g1]; rfl
  ·have ho := (g3.no rfl).over
   dsimp only [unR]
   split
   ·rfl
   ·split
    ·rfl
    ·rename_i h1 h2
     have h3 : r'.code_ ≠ 0 := by
      rcases ho with h | h | h
      ·exact absurd h h1
      ·exact absurd h h2
      ·exact h
     rw [if_neg (by simp [h3])]
 | true =>
  obtain ⟨M2, nw', cd', mt', cs', ou', nw2', cd2', q1, rfl, rfl, q4, q5⟩ := g3.go rfl
  have hMF := q4.hM
  have hF := q4.hF
  cases M2 with
  | zero =>
   refine ⟨⟨env, s, F, F, start, nw', cd', ⟨true, []⟩, Q.mo, Q.me, T.nilm, 7⟩, ⟨env, s, F, Q.md, F, cs', ou', nw2', cd2', false, false, false, 7⟩, _, .inr (ao_ ?_), g2, ao_ ?_, ?_⟩
   ·show ((Φ (c : Int) (sI Q env s F ((F : Int) - M') start nw cd mt)).bind _) = _
    rw [g1, Option.bind_some]
    simp
   ·simp
   ·have p := g3
    exact ⟨rfl, g3.hcs, by have := g3.c1; exact this, g3.c2, (fun h => by cases h), fun _ => .inl ⟨by simp, rfl, rfl⟩, g3.c3, (fun h => by cases h)⟩
  | succ M3 =>
   obtain ⟨x, hx⟩ := hx
   obtain ⟨y, hy⟩ := g3.hcs
   have hy' : cs'.l = cs.l ++ y := hy
   have hi3 : Inv s F M3 nw' cd' mt' cs' ou' nw2' cd2' := ⟨q4.hF, by omega, q4.nwE, q4.cdE, q4.hcap, q4.mtE, q4.hml, by have := q4.hcl; omega⟩
   obtain ⟨S2, r2, r1, u1, u2, u3, u4⟩ := ih M3 (by omega) nw' cd' mt' cs' ou' nw2' cd2' (by omega) hi3 ⟨x ++ y, by rw [hy', hx, List.append_assoc]⟩
   have w1 : w4 ((F : Int) - ((M3 + 1 : Nat) : Int) + 1) = (F : Int) - M3 := by
    rw [aS_ (by omega) (by omega)]; omega
   have d1 : decide ((F : Int) - ((M3 + 1 : Nat) : Int) = (F : Int)) = false := by simp; omega
   have d2 : decide ((F : Int) ≤ (F : Int) - ((M3 + 1 : Nat) : Int)) = false := by simp; omega
   have hI : ∀ z, ISUC c Φ (env, s, (F : Int), (F : Int) - M3, start, Q.mo, Q.me, 0, nw', cd', mt') = some z → ISUC c Φ (env, s, (F : Int), (F : Int) - M', start, Q.mo, Q.me, 0, nw, cd, mt) = some z := fun z hz => by
    refine aC_ ?_ hz
    show ((Φ (c : Int) (sI Q env s F ((F : Int) - M') start nw cd mt)).bind _) = _
    rw [g1, Option.bind_some]
    simp only [d1, w1, if_true, Bool.false_eq_true, if_false, Option.bind_some, Bool.not_true]
   refine ⟨S2, r2, _, ?_, g2, aC_ (s' := unR r1) ?_ u3, ?_⟩
   ·rcases u1 with h | h
    ·exact .inl (hI _ h)
    ·exact .inr (hI _ h)
   ·simp only [d2, w1, if_true, Bool.false_eq_true, if_false, Option.bind_some, Bool.not_true, Bool.not_false, decide_true, u2]
   ·exact u4.trans (by omega) g3.hcs q5 g3.c2 (by have h4 : (cs'.l.length : Int) + ((F : Int) - ((F : Int) - ((M3 + 1 : Nat) : Int))) ≤ cs.l.length + M' := g3.c4 rfl; omega)
end
end Nt
end Go.Am
end
