/- Functions of the program. -/
import Derived.Test.YthpmndnnpnojjaaAd0
set_option maxRecDepth 100000
set_option maxHeartbeats 4000000
set_option linter.unusedVariables false
set_option linter.unusedSimpArgs false
namespace Go.Am
open Go.Proofs
noncomputable def co_ (a0 : (Sl (Iv .u8))) : Option Bool := (if (decide (1048576 < (a0.l.length : Int))) = true then (some true) else ((c1_ a0).bind fun y1 => ((eT_ 1 a0).bind fun y2 => ((dS_ y2).bind fun y3 => ((ar_ (S := Int) (R := (Unit ⊕ Bool)) (fun st1 => (if (decide (st1 ≤ (y1.size : Int))) = true then ((da_ 4 y3 ⟨true, []⟩).bind fun y5 => ((ct_ ⟨true, []⟩ y5 y1 st1 9).bind fun y6 => ((da_ 5 y3 ⟨true, []⟩).bind fun y7 => ((ct_ ⟨true, []⟩ y7 y1 st1 9).bind fun y8 => (if (!decide (y6.2 = 0)) = true then (some (.inr (.inr false))) else (if (!decide (y8.2 = 0)) = true then (some (.inr (.inr false))) else (if (decide (1 < (y6.1.l.length : Int))) = true then (some (.inr (.inr false))) else (if (decide (1 < (y8.1.l.length : Int))) = true then (some (.inr (.inr false))) else (if (decide ((y6.1.l.length : Int) = 1)) = true then ((elt y6.1 0).bind fun y9 => (if (decide ((y1.size : Int) < y9.v)) = true then (some (.inr (.inr false))) else (if (decide ((y8.1.l.length : Int) = 1)) = true then ((elt y8.1 0).bind fun y10 => (if (decide ((y1.size : Int) ≤ y10.v)) = true then (some (.inr (.inr false))) else (((if (decide (st1 < (y1.size : Int))) = true then ((ak_ y1 st1).bind fun y68 => ((ae_ y3 y68).bind fun y69 => (some y69))) else (some false)) : Option Bool).bind fun y11 => (if (!(y11 == (decide ((y6.1.l.length : Int) = 1)))) = true then (some (.inr (.inr false))) else (if y11 = true then ((elt y6.1 0).bind fun y12 => (if (decide (y12.v ≤ st1)) = true then (some (.inr (.inr false))) else ((elt y6.1 0).bind fun y13 => (if (decide (y13.v < (y1.size : Int))) = true then ((elt y6.1 0).bind fun y14 => ((ak_ y1 y14.v).bind fun y15 => ((ae_ y3 y15).bind fun y16 => (if y16 = true then (some (.inr (.inr false))) else ((ar_ (S := Int) (R := (Unit ⊕ Bool)) (fun st2 => (if (decide ((y6.1.l.length : Int) = 1)) = true then ((elt y6.1 0).bind fun y18 => (if (decide (st2 < y18.v)) = true then ((ak_ y1 st2).bind fun y19 => ((ae_ y3 y19).bind fun y20 => (if (!y20) = true then (some (.inr (.inr false))) else (some (.inl (w4 (st2 + 1))))))) else (some (.inr (.inl ()))))) else (some (.inr (.inl ()))))) st1).bind fun y17 => (Sum.elim (fun y17 => (if (decide ((y8.1.l.length : Int) = 1)) = true then ((elt y8.1 0).bind fun y21 => (if (decide (y21.v < st1)) = true then (some (.inr (.inr false))) else ((elt y8.1 0).bind fun y22 => ((ak_ y1 y22.v).bind fun y23 => ((ae_ y3 y23).bind fun y24 => (if (!y24) = true then (some (.inr (.inr false))) else ((((elt y8.1 0).bind fun y29 => (some y29.v)) : Option Int).bind fun y25 => ((ar_ (S := Int) (R := (Unit ⊕ Bool)) (fun st3 => (if (decide (st3 < y25)) = true then ((ak_ y1 st3).bind fun y27 => ((ae_ y3 y27).bind fun y28 => (if y28 = true then (some (.inr (.inr false))) else (some (.inl (w4 (st3 + 1))))))) else (some (.inr (.inl ()))))) st1).bind fun y26 => (Sum.elim (fun y26 => (some (.inl (w4 (st1 + 1))))) (fun y26 => (some (.inr (.inr y26)))) y26))))))))) else (((some ()) : Option Unit).bind fun y30 => ((ar_ (S := Int) (R := (Unit ⊕ Bool)) (fun st4 => (if (decide (st4 < (y1.size : Int))) = true then ((ak_ y1 st4).bind fun y32 => ((ae_ y3 y32).bind fun y33 => (if y33 = true then (some (.inr (.inr false))) else (some (.inl (w4 (st4 + 1))))))) else (some (.inr (.inl ()))))) st1).bind fun y31 => (Sum.elim (fun y31 => (some (.inl (w4 (st1 + 1))))) (fun y31 => (some (.inr (.inr y31)))) y31))))) (fun y17 => (some (.inr (.inr y17)))) y17)))))) else ((ar_ (S := Int) (R := (Unit ⊕ Bool)) (fun st5 => (if (decide ((y6.1.l.length : Int) = 1)) = true then ((elt y6.1 0).bind fun y35 => (if (decide (st5 < y35.v)) = true then ((ak_ y1 st5).bind fun y36 => ((ae_ y3 y36).bind fun y37 => (if (!y37) = true then (some (.inr (.inr false))) else (some (.inl (w4 (st5 + 1))))))) else (some (.inr (.inl ()))))) else (some (.inr (.inl ()))))) st1).bind fun y34 => (Sum.elim (fun y34 => (if (decide ((y8.1.l.length : Int) = 1)) = true then ((elt y8.1 0).bind fun y38 => (if (decide (y38.v < st1)) = true then (some (.inr (.inr false))) else ((elt y8.1 0).bind fun y39 => ((ak_ y1 y39.v).bind fun y40 => ((ae_ y3 y40).bind fun y41 => (if (!y41) = true then (some (.inr (.inr false))) else ((((elt y8.1 0).bind fun y46 => (some y46.v)) : Option Int).bind fun y42 => ((ar_ (S := Int) (R := (Unit ⊕ Bool)) (fun st6 => (if (decide (st6 < y42)) = true then ((ak_ y1 st6).bind fun y44 => ((ae_ y3 y44).bind fun y45 => (if y45 = true then (some (.inr (.inr false))) else (some (.inl (w4 (st6 + 1))))))) else (some (.inr (.inl ()))))) st1).bind fun y43 => (Sum.elim (fun y43 => (some (.inl (w4 (st1 + 1))))) (fun y43 => (some (.inr (.inr y43)))) y43))))))))) else (((some ()) : Option Unit).bind fun y47 => ((ar_ (S := Int) (R := (Unit ⊕ Bool)) (fun st7 => (if (decide (st7 < (y1.size : Int))) = true then ((ak_ y1 st7).bind fun y49 => ((ae_ y3 y49).bind fun y50 => (if y50 = true then (some (.inr (.inr false))) else (some (.inl (w4 (st7 + 1))))))) else (some (.inr (.inl ()))))) st1).bind fun y48 => (Sum.elim (fun y48 => (some (.inl (w4 (st1 + 1))))) (fun y48 => (some (.inr (.inr y48)))) y48))))) (fun y34 => (some (.inr (.inr y34)))) y34)))))) else ((ar_ (S := Int) (R := (Unit ⊕ Bool)) (fun st8 => (if (decide ((y6.1.l.length : Int) = 1)) = true then ((elt y6.1 0).bind fun y52 => (if (decide (st8 < y52.v)) = true then ((ak_ y1 st8).bind fun y53 => ((ae_ y3 y53).bind fun y54 => (if (!y54) = true then (some (.inr (.inr false))) else (some (.inl (w4 (st8 + 1))))))) else (some (.inr (.inl ()))))) else (some (.inr (.inl ()))))) st1).bind fun y51 => (Sum.elim (fun y51 => (if (decide ((y8.1.l.length : Int) = 1)) = true then ((elt y8.1 0).bind fun y55 => (if (decide (y55.v < st1)) = true then (some (.inr (.inr false))) else ((elt y8.1 0).bind fun y56 => ((ak_ y1 y56.v).bind fun y57 => ((ae_ y3 y57).bind fun y58 => (if (!y58) = true then (some (.inr (.inr false))) else ((((elt y8.1 0).bind fun y63 => (some y63.v)) : Option Int).bind fun y59 => ((ar_ (S := Int) (R := (Unit ⊕ Bool)) (fun st9 => (if (decide (st9 < y59)) = true then ((ak_ y1 st9).bind fun y61 => ((ae_ y3 y61).bind fun y62 => (if y62 = true then (some (.inr (.inr false))) else (some (.inl (w4 (st9 + 1))))))) else (some (.inr (.inl ()))))) st1).bind fun y60 => (Sum.elim (fun y60 => (some (.inl (w4 (st1 + 1))))) (fun y60 => (some (.inr (.inr y60)))) y60))))))))) else (((some ()) : Option Unit).bind fun y64 => ((ar_ (S := Int) (R := (Unit ⊕ Bool)) (fun st10 => (if (decide (st10 < (y1.size : Int))) = true then ((ak_ y1 st10).bind fun y66 => ((ae_ y3 y66).bind fun y67 => (if y67 = true then (some (.inr (.inr false))) else (some (.inl (w4 (st10 + 1))))))) else (some (.inr (.inl ()))))) st1).bind fun y65 => (Sum.elim (fun y65 => (some (.inl (w4 (st1 + 1))))) (fun y65 => (some (.inr (.inr y65)))) y65))))) (fun y51 => (some (.inr (.inr y51)))) y51))))))) else (((if (decide (st1 < (y1.size : Int))) = true then ((ak_ y1 st1).bind fun y127 => ((ae_ y3 y127).bind fun y128 => (some y128))) else (some false)) : Option Bool).bind fun y70 => (if (!(y70 == (decide ((y6.1.l.length : Int) = 1)))) = true then (some (.inr (.inr false))) else (if y70 = true then ((elt y6.1 0).bind fun y71 => (if (decide (y71.v ≤ st1)) = true then (some (.inr (.inr false))) else ((elt y6.1 0).bind fun y72 => (if (decide (y72.v < (y1.size : Int))) = true then ((elt y6.1 0).bind fun y73 => ((ak_ y1 y73.v).bind fun y74 => ((ae_ y3 y74).bind fun y75 => (if y75 = true then (some (.inr (.inr false))) else ((ar_ (S := Int) (R := (Unit ⊕ Bool)) (fun st11 => (if (decide ((y6.1.l.length : Int) = 1)) = true then ((elt y6.1 0).bind fun y77 => (if (decide (st11 < y77.v)) = true then ((ak_ y1 st11).bind fun y78 => ((ae_ y3 y78).bind fun y79 => (if (!y79) = true then (some (.inr (.inr false))) else (some (.inl (w4 (st11 + 1))))))) else (some (.inr (.inl ()))))) else (some (.inr (.inl ()))))) st1).bind fun y76 => (Sum.elim (fun y76 => (if (decide ((y8.1.l.length : Int) = 1)) = true then ((elt y8.1 0).bind fun y80 => (if (decide (y80.v < st1)) = true then (some (.inr (.inr false))) else ((elt y8.1 0).bind fun y81 => ((ak_ y1 y81.v).bind fun y82 => ((ae_ y3 y82).bind fun y83 => (if (!y83) = true then (some (.inr (.inr false))) else ((((elt y8.1 0).bind fun y88 => (some y88.v)) : Option Int).bind fun y84 => ((ar_ (S := Int) (R := (Unit ⊕ Bool)) (fun st12 => (if (decide (st12 < y84)) = true then ((ak_ y1 st12).bind fun y86 => ((ae_ y3 y86).bind fun y87 => (if y87 = true then (some (.inr (.inr false))) else (some (.inl (w4 (st12 + 1))))))) else (some (.inr (.inl ()))))) st1).bind fun y85 => (Sum.elim (fun y85 => (some (.inl (w4 (st1 + 1))))) (fun y85 => (some (.inr (.inr y85)))) y85))))))))) else (((some ()) : Option Unit).bind fun y89 => ((ar_ (S := Int) (R := (Unit ⊕ Bool)) (fun st13 => (if (decide (st13 < (y1.size : Int))) = true then ((ak_ y1 st13).bind fun y91 => ((ae_ y3 y91).bind fun y92 => (if y92 = true then (some (.inr (.inr false))) else (some (.inl (w4 (st13 + 1))))))) else (some (.inr (.inl ()))))) st1).bind fun y90 => (Sum.elim (fun y90 => (some (.inl (w4 (st1 + 1))))) (fun y90 => (some (.inr (.inr y90)))) y90))))) (fun y76 => (some (.inr (.inr y76)))) y76)))))) else ((ar_ (S := Int) (R := (Unit ⊕ Bool)) (fun st14 => (if (decide ((y6.1.l.length : Int) = 1)) = true then ((elt y6.1 0).bind fun y94 => (if (decide (st14 < y94.v)) = true then ((ak_ y1 st14).bind fun y95 => ((ae_ y3 y95).bind fun y96 => (if (!y96) = true then (some (.inr (.inr false))) else (some (.inl (w4 (st14 + 1))))))) else (some (.inr (.inl ()))))) else (some (.inr (.inl ()))))) st1).bind fun y93 => (Sum.elim (fun y93 => (if (decide ((y8.1.l.length : Int) = 1)) = true then ((elt y8.1 0).bind fun y97 => (if (decide (y97.v < st1)) = true then (some (.inr (.inr false))) else ((elt y8.1 0).bind fun y98 => ((ak_ y1 y98.v).bind fun y99 => ((ae_ y3 y99).bind fun y100 => (if (!y100) = true then (some (.inr (.inr false))) else ((((elt y8.1 0).bind fun y105 => (some y105.v)) : Option Int).bind fun y101 => ((ar_ (S := Int) (R := (Unit ⊕ Bool)) (fun st15 => (if (decide (st15 < y101)) = true then ((ak_ y1 st15).bind fun y103 => ((ae_ y3 y103).bind fun y104 => (if y104 = true then (some (.inr (.inr false))) else (some (.inl (w4 (st15 + 1))))))) else (some (.inr (.inl ()))))) st1).bind fun y102 => (Sum.elim (fun y102 => (some (.inl (w4 (st1 + 1))))) (fun y102 => (some (.inr (.inr y102)))) y102))))))))) else (((some ()) : Option Unit).bind fun y106 => ((ar_ (S := Int) (R := (Unit ⊕ Bool)) (fun st16 => (if (decide (st16 < (y1.size : Int))) = true then ((ak_ y1 st16).bind fun y108 => ((ae_ y3 y108).bind fun y109 => (if y109 = true then (some (.inr (.inr false))) else (some (.inl (w4 (st16 + 1))))))) else (some (.inr (.inl ()))))) st1).bind fun y107 => (Sum.elim (fun y107 => (some (.inl (w4 (st1 + 1))))) (fun y107 => (some (.inr (.inr y107)))) y107))))) (fun y93 => (some (.inr (.inr y93)))) y93)))))) else ((ar_ (S := Int) (R := (Unit ⊕ Bool)) (fun st17 => (if (decide ((y6.1.l.length : Int) = 1)) = true then ((elt y6.1 0).bind fun y111 => (if (decide (st17 < y111.v)) = true then ((ak_ y1 st17).bind fun y112 => ((ae_ y3 y112).bind fun y113 => (if (!y113) = true then (some (.inr (.inr false))) else (some (.inl (w4 (st17 + 1))))))) else (some (.inr (.inl ()))))) else (some (.inr (.inl ()))))) st1).bind fun y110 => (Sum.elim (fun y110 => (if (decide ((y8.1.l.length : Int) = 1)) = true then ((elt y8.1 0).bind fun y114 => (if (decide (y114.v < st1)) = true then (some (.inr (.inr false))) else ((elt y8.1 0).bind fun y115 => ((ak_ y1 y115.v).bind fun y116 => ((ae_ y3 y116).bind fun y117 => (if (!y117) = true then (some (.inr (.inr false))) else ((((elt y8.1 0).bind fun y122 => (some y122.v)) : Option Int).bind fun y118 => ((ar_ (S := Int) (R := (Unit ⊕ Bool)) (fun st18 => (if (decide (st18 < y118)) = true then ((ak_ y1 st18).bind fun y120 => ((ae_ y3 y120).bind fun y121 => (if y121 = true then (some (.inr (.inr false))) else (some (.inl (w4 (st18 + 1))))))) else (some (.inr (.inl ()))))) st1).bind fun y119 => (Sum.elim (fun y119 => (some (.inl (w4 (st1 + 1))))) (fun y119 => (some (.inr (.inr y119)))) y119))))))))) else (((some ()) : Option Unit).bind fun y123 => ((ar_ (S := Int) (R := (Unit ⊕ Bool)) (fun st19 => (if (decide (st19 < (y1.size : Int))) = true then ((ak_ y1 st19).bind fun y125 => ((ae_ y3 y125).bind fun y126 => (if y126 = true then (some (.inr (.inr false))) else (some (.inl (w4 (st19 + 1))))))) else (some (.inr (.inl ()))))) st1).bind fun y124 => (Sum.elim (fun y124 => (some (.inl (w4 (st1 + 1))))) (fun y124 => (some (.inr (.inr y124)))) y124))))) (fun y110 => (some (.inr (.inr y110)))) y110)))))))) else (if (decide ((y8.1.l.length : Int) = 1)) = true then ((elt y8.1 0).bind fun y129 => (if (decide ((y1.size : Int) ≤ y129.v)) = true then (some (.inr (.inr false))) else (((if (decide (st1 < (y1.size : Int))) = true then ((ak_ y1 st1).bind fun y187 => ((ae_ y3 y187).bind fun y188 => (some y188))) else (some false)) : Option Bool).bind fun y130 => (if (!(y130 == (decide ((y6.1.l.length : Int) = 1)))) = true then (some (.inr (.inr false))) else (if y130 = true then ((elt y6.1 0).bind fun y131 => (if (decide (y131.v ≤ st1)) = true then (some (.inr (.inr false))) else ((elt y6.1 0).bind fun y132 => (if (decide (y132.v < (y1.size : Int))) = true then ((elt y6.1 0).bind fun y133 => ((ak_ y1 y133.v).bind fun y134 => ((ae_ y3 y134).bind fun y135 => (if y135 = true then (some (.inr (.inr false))) else ((ar_ (S := Int) (R := (Unit ⊕ Bool)) (fun st20 => (if (decide ((y6.1.l.length : Int) = 1)) = true then ((elt y6.1 0).bind fun y137 => (if (decide (st20 < y137.v)) = true then ((ak_ y1 st20).bind fun y138 => ((ae_ y3 y138).bind fun y139 => (if (!y139) = true then (some (.inr (.inr false))) else (some (.inl (w4 (st20 + 1))))))) else (some (.inr (.inl ()))))) else (some (.inr (.inl ()))))) st1).bind fun y136 => (Sum.elim (fun y136 => (if (decide ((y8.1.l.length : Int) = 1)) = true then ((elt y8.1 0).bind fun y140 => (if (decide (y140.v < st1)) = true then (some (.inr (.inr false))) else ((elt y8.1 0).bind fun y141 => ((ak_ y1 y141.v).bind fun y142 => ((ae_ y3 y142).bind fun y143 => (if (!y143) = true then (some (.inr (.inr false))) else ((((elt y8.1 0).bind fun y148 => (some y148.v)) : Option Int).bind fun y144 => ((ar_ (S := Int) (R := (Unit ⊕ Bool)) (fun st21 => (if (decide (st21 < y144)) = true then ((ak_ y1 st21).bind fun y146 => ((ae_ y3 y146).bind fun y147 => (if y147 = true then (some (.inr (.inr false))) else (some (.inl (w4 (st21 + 1))))))) else (some (.inr (.inl ()))))) st1).bind fun y145 => (Sum.elim (fun y145 => (some (.inl (w4 (st1 + 1))))) (fun y145 => (some (.inr (.inr y145)))) y145))))))))) else (((some ()) : Option Unit).bind fun y149 => ((ar_ (S := Int) (R := (Unit ⊕ Bool)) (fun st22 => (if (decide (st22 < (y1.size : Int))) = true then ((ak_ y1 st22).bind fun y151 => ((ae_ y3 y151).bind fun y152 => (if y152 = true then (some (.inr (.inr false))) else (some (.inl (w4 (st22 + 1))))))) else (some (.inr (.inl ()))))) st1).bind fun y150 => (Sum.elim (fun y150 => (some (.inl (w4 (st1 + 1))))) (fun y150 => (some (.inr (.inr y150)))) y150))))) (fun y136 => (some (.inr (.inr y136)))) y136)))))) else ((ar_ (S := Int) (R := (Unit ⊕ Bool)) (fun st23 => (if (decide ((y6.1.l.length : Int) = 1)) = true then ((elt y6.1 0).bind fun y154 => (if (decide (st23 < y154.v)) = true then ((ak_ y1 st23).bind fun y155 => ((ae_ y3 y155).bind fun y156 => (if (!y156) = true then (some (.inr (.inr false))) else (some (.inl (w4 (st23 + 1))))))) else (some (.inr (.inl ()))))) else (some (.inr (.inl ()))))) st1).bind fun y153 => (Sum.elim (fun y153 => (if (decide ((y8.1.l.length : Int) = 1)) = true then ((elt y8.1 0).bind fun y157 => (if (decide (y157.v < st1)) = true then (some (.inr (.inr false))) else ((elt y8.1 0).bind fun y158 => ((ak_ y1 y158.v).bind fun y159 => ((ae_ y3 y159).bind fun y160 => (if (!y160) = true then (some (.inr (.inr false))) else ((((elt y8.1 0).bind fun y165 => (some y165.v)) : Option Int).bind fun y161 => ((ar_ (S := Int) (R := (Unit ⊕ Bool)) (fun st24 => (if (decide (st24 < y161)) = true then ((ak_ y1 st24).bind fun y163 => ((ae_ y3 y163).bind fun y164 => (if y164 = true then (some (.inr (.inr false))) else (some (.inl (w4 (st24 + 1))))))) else (some (.inr (.inl ()))))) st1).bind fun y162 => (Sum.elim (fun y162 => (some (.inl (w4 (st1 + 1))))) (fun y162 => (some (.inr (.inr y162)))) y162))))))))) else (((some ()) : Option Unit).bind fun y166 => ((ar_ (S := Int) (R := (Unit ⊕ Bool)) (fun st25 => (if (decide (st25 < (y1.size : Int))) = true then ((ak_ y1 st25).bind fun y168 => ((ae_ y3 y168).bind fun y169 => (if y169 = true then (some (.inr (.inr false))) else (some (.inl (w4 (st25 + 1))))))) else (some (.inr (.inl ()))))) st1).bind fun y167 => (Sum.elim (fun y167 => (some (.inl (w4 (st1 + 1))))) (fun y167 => (some (.inr (.inr y167)))) y167))))) (fun y153 => (some (.inr (.inr y153)))) y153)))))) else ((ar_ (S := Int) (R := (Unit ⊕ Bool)) (fun st26 => (if (decide ((y6.1.l.length : Int) = 1)) = true then ((elt y6.1 0).bind fun y171 => (if (decide (st26 < y171.v)) = true then ((ak_ y1 st26).bind fun y172 => ((ae_ y3 y172).bind fun y173 => (if (!y173) = true then (some (.inr (.inr false))) else (some (.inl (w4 (st26 + 1))))))) else (some (.inr (.inl ()))))) else (some (.inr (.inl ()))))) st1).bind fun y170 => (Sum.elim (fun y170 => (if (decide ((y8.1.l.length : Int) = 1)) = true then ((elt y8.1 0).bind fun y174 => (if (decide (y174.v < st1)) = true then (some (.inr (.inr false))) else ((elt y8.1 0).bind fun y175 => ((ak_ y1 y175.v).bind fun y176 => ((ae_ y3 y176).bind fun y177 => (if (!y177) = true then (some (.inr (.inr false))) else ((((elt y8.1 0).bind fun y182 => (some y182.v)) : Option Int).bind fun y178 => ((ar_ (S := Int) (R := (Unit ⊕ Bool)) (fun st27 => (if (decide (st27 < y178)) = true then ((ak_ y1 st27).bind fun y180 => ((ae_ y3 y180).bind fun y181 => (if y181 = true then (some (.inr (.inr false))) else (some (.inl (w4 (st27 + 1))))))) else (some (.inr (.inl ()))))) st1).bind fun y179 => (Sum.elim (fun y179 => (some (.inl (w4 (st1 + 1))))) (fun y179 => (some (.inr (.inr y179)))) y179))))))))) else (((some ()) : Option Unit).bind fun y183 => ((ar_ (S := Int) (R := (Unit ⊕ Bool)) (fun st28 => (if (decide (st28 < (y1.size : Int))) = true then ((ak_ y1 st28).bind fun y185 => ((ae_ y3 y185).bind fun y186 => (if y186 = true then (some (.inr (.inr false))) else (some (.inl (w4 (st28 + 1))))))) else (some (.inr (.inl ()))))) st1).bind fun y184 => (Sum.elim (fun y184 => (some (.inl (w4 (st1 + 1))))) (fun y184 => (some (.inr (.inr y184)))) y184))))) (fun y170 => (some (.inr (.inr y170)))) y170))))))) else (((if (decide (st1 < (y1.size : Int))) = true then ((ak_ y1 st1).bind fun y246 => ((ae_ y3 y246).bind fun y247 => (some y247))) else (some false)) : Option Bool).bind fun y189 => (if (!(y189 == (decide ((y6.1.l.length : Int) = 1)))) = true then (some (.inr (.inr false))) else (if y189 = true then ((elt y6.1 0).bind fun y190 => (if (decide (y190.v ≤ st1)) = true then (some (.inr (.inr false))) else ((elt y6.1 0).bind fun y191 => (if (decide (y191.v < (y1.size : Int))) = true then ((elt y6.1 0).bind fun y192 => ((ak_ y1 y192.v).bind fun y193 => ((ae_ y3 y193).bind fun y194 => (if y194 = true then (some (.inr (.inr false))) else ((ar_ (S := Int) (R := (Unit ⊕ Bool)) (fun st29 => (if (decide ((y6.1.l.length : Int) = 1)) = true then ((elt y6.1 0).bind fun y196 => (if (decide (st29 < y196.v)) = true then ((ak_ y1 st29).bind fun y197 => ((ae_ y3 y197).bind fun y198 => (if (!y198) = true then (some (.inr (.inr false))) else (some (.inl (w4 (st29 + 1))))))) else (some (.inr (.inl ()))))) else (some (.inr (.inl ()))))) st1).bind fun y195 => (Sum.elim (fun y195 => (if (decide ((y8.1.l.length : Int) = 1)) = true then ((elt y8.1 0).bind fun y199 => (if (decide (y199.v < st1)) = true then (some (.inr (.inr false))) else ((elt y8.1 0).bind fun y200 => ((ak_ y1 y200.v).bind fun y201 => ((ae_ y3 y201).bind fun y202 => (if (!y202) = true then (some (.inr (.inr false))) else ((((elt y8.1 0).bind fun y207 => (some y207.v)) : Option Int).bind fun y203 => ((ar_ (S := Int) (R := (Unit ⊕ Bool)) (fun st30 => (if (decide (st30 < y203)) = true then ((ak_ y1 st30).bind fun y205 => ((ae_ y3 y205).bind fun y206 => (if y206 = true then (some (.inr (.inr false))) else (some (.inl (w4 (st30 + 1))))))) else (some (.inr (.inl ()))))) st1).bind fun y204 => (Sum.elim (fun y204 => (some (.inl (w4 (st1 + 1))))) (fun y204 => (some (.inr (.inr y204)))) y204))))))))) else (((some ()) : Option Unit).bind fun y208 => ((ar_ (S := Int) (R := (Unit ⊕ Bool)) (fun st31 => (if (decide (st31 < (y1.size : Int))) = true then ((ak_ y1 st31).bind fun y210 => ((ae_ y3 y210).bind fun y211 => (if y211 = true then (some (.inr (.inr false))) else (some (.inl (w4 (st31 + 1))))))) else (some (.inr (.inl ()))))) st1).bind fun y209 => (Sum.elim (fun y209 => (some (.inl (w4 (st1 + 1))))) (fun y209 => (some (.inr (.inr y209)))) y209))))) (fun y195 => (some (.inr (.inr y195)))) y195)))))) else ((ar_ (S := Int) (R := (Unit ⊕ Bool)) (fun st32 => (if (decide ((y6.1.l.length : Int) = 1)) = true then ((elt y6.1 0).bind fun y213 => (if (decide (st32 < y213.v)) = true then ((ak_ y1 st32).bind fun y214 => ((ae_ y3 y214).bind fun y215 => (if (!y215) = true then (some (.inr (.inr false))) else (some (.inl (w4 (st32 + 1))))))) else (some (.inr (.inl ()))))) else (some (.inr (.inl ()))))) st1).bind fun y212 => (Sum.elim (fun y212 => (if (decide ((y8.1.l.length : Int) = 1)) = true then ((elt y8.1 0).bind fun y216 => (if (decide (y216.v < st1)) = true then (some (.inr (.inr false))) else ((elt y8.1 0).bind fun y217 => ((ak_ y1 y217.v).bind fun y218 => ((ae_ y3 y218).bind fun y219 => (if (!y219) = true then (some (.inr (.inr false))) else ((((elt y8.1 0).bind fun y224 => (some y224.v)) : Option Int).bind fun y220 => ((ar_ (S := Int) (R := (Unit ⊕ Bool)) (fun st33 => (if (decide (st33 < y220)) = true then ((ak_ y1 st33).bind fun y222 => ((ae_ y3 y222).bind fun y223 => (if y223 = true then (some (.inr (.inr false))) else (some (.inl (w4 (st33 + 1))))))) else (some (.inr (.inl ()))))) st1).bind fun y221 => (Sum.elim (fun y221 => (some (.inl (w4 (st1 + 1))))) (fun y221 => (some (.inr (.inr y221)))) y221))))))))) else (((some ()) : Option Unit).bind fun y225 => ((ar_ (S := Int) (R := (Unit ⊕ Bool)) (fun st34 => (if (decide (st34 < (y1.size : Int))) = true then ((ak_ y1 st34).bind fun y227 => ((ae_ y3 y227).bind fun y228 => (if y228 = true then (some (.inr (.inr false))) else (some (.inl (w4 (st34 + 1))))))) else (some (.inr (.inl ()))))) st1).bind fun y226 => (Sum.elim (fun y226 => (some (.inl (w4 (st1 + 1))))) (fun y226 => (some (.inr (.inr y226)))) y226))))) (fun y212 => (some (.inr (.inr y212)))) y212)))))) else ((ar_ (S := Int) (R := (Unit ⊕ Bool)) (fun st35 => (if (decide ((y6.1.l.length : Int) = 1)) = true then ((elt y6.1 0).bind fun y230 => (if (decide (st35 < y230.v)) = true then ((ak_ y1 st35).bind fun y231 => ((ae_ y3 y231).bind fun y232 => (if (!y232) = true then (some (.inr (.inr false))) else (some (.inl (w4 (st35 + 1))))))) else (some (.inr (.inl ()))))) else (some (.inr (.inl ()))))) st1).bind fun y229 => (Sum.elim (fun y229 => (if (decide ((y8.1.l.length : Int) = 1)) = true then ((elt y8.1 0).bind fun y233 => (if (decide (y233.v < st1)) = true then (some (.inr (.inr false))) else ((elt y8.1 0).bind fun y234 => ((ak_ y1 y234.v).bind fun y235 => ((ae_ y3 y235).bind fun y236 => (if (!y236) = true then (some (.inr (.inr false))) else ((((elt y8.1 0).bind fun y241 => (some y241.v)) : Option Int).bind fun y237 => ((ar_ (S := Int) (R := (Unit ⊕ Bool)) (fun st36 => (if (decide (st36 < y237)) = true then ((ak_ y1 st36).bind fun y239 => ((ae_ y3 y239).bind fun y240 => (if y240 = true then (some (.inr (.inr false))) else (some (.inl (w4 (st36 + 1))))))) else (some (.inr (.inl ()))))) st1).bind fun y238 => (Sum.elim (fun y238 => (some (.inl (w4 (st1 + 1))))) (fun y238 => (some (.inr (.inr y238)))) y238))))))))) else (((some ()) : Option Unit).bind fun y242 => ((ar_ (S := Int) (R := (Unit ⊕ Bool)) (fun st37 => (if (decide (st37 < (y1.size : Int))) = true then ((ak_ y1 st37).bind fun y244 => ((ae_ y3 y244).bind fun y245 => (if y245 = true then (some (.inr (.inr false))) else (some (.inl (w4 (st37 + 1))))))) else (some (.inr (.inl ()))))) st1).bind fun y243 => (Sum.elim (fun y243 => (some (.inl (w4 (st1 + 1))))) (fun y243 => (some (.inr (.inr y243)))) y243))))) (fun y229 => (some (.inr (.inr y229)))) y229))))))))))))))) else (some (.inr (.inl ()))))) 0).bind fun y4 => (Sum.elim (fun y4 => (some true)) (fun y4 => (some y4)) y4))))))
theorem fM_ (a0 : (Sl (Iv .u8))) (r : Bool) (h : co_ a0 = some r) : dR_ a0 = some r := by
 unfold co_ at h
 refine k_W ok_10 E_bool_inj h (fun σ0 => ?_)
 refine t_RN ?_
 refine t_RN ?_
 refine t_if (fun hc1 => ?_) fun hc1 => ?_
 ·refine t_RN ?_
  exact k_eW (rT rN) E_bool_p
 refine t_RU 1 ?_
 refine af_ fun y1 hy1 => ?_
 refine t_N ?_
 refine t_RU 1 ?_
 refine af_ fun y2 hy2 => ?_
 refine af_ fun y3 hy3 => ?_
 refine t_N ?_
 refine t_RN ?_
 refine ay_ (fun st1 fr => Sub [(3, .str y1), (4, .str y3), (5, i4 st1)] fr.s ∧ Heap σ0 fr.σ []) (fun y4 e fr => (Sum.elim (fun y => e = (.exit 0) ∧ Sub [] fr.s ∧ Heap σ0 fr.σ []) (fun y => e = .ret ∧ endW Try.prog (Try.f10.results.toList) σ0 (E_bool y) .ret fr)) y4) (fun hS hH => ⟨(aa_ hS (by kernel_rfl)), hH⟩) (fun st1 x fr h HI => ?_) fun y4 e fr h HF => ?_
 ·obtain ⟨s, σ⟩ := fr; obtain ⟨hS, hH⟩ := HI
  refine t_bk h hS hH ?_
  refine t_RN ?_
  refine t_if (fun hc2 => ?_) fun hc2 => ?_
  ·refine t_RU 1 ?_
   refine af_ fun y5 hy5 => ?_
   refine t_U 2 ?_
   refine af_ fun y6 hy6 => ?_
   refine t_N ?_
   refine t_RU 1 ?_
   refine af_ fun y7 hy7 => ?_
   refine t_U 2 ?_
   refine af_ fun y8 hy8 => ?_
   refine t_N ?_
   refine t_RU 3 ?_
   refine am_ 46 (fun hc3 => ?_) fun hc3 => ?_
   ·refine t_N ?_
    refine t_cT rfl ?_
    refine t_RN ?_
    exact t_e fun he hS hH => he ▸ ⟨rfl, (eW hS hH (rT rN) E_bool_p)⟩
   refine t_U 4 ?_
   refine am_ 50 (fun hc4 => ?_) fun hc4 => ?_
   ·refine t_N ?_
    refine t_cT rfl ?_
    refine t_RN ?_
    exact t_e fun he hS hH => he ▸ ⟨rfl, (eW hS hH (rT rN) E_bool_p)⟩
   refine t_U 5 ?_
   refine am_ 55 (fun hc5 => ?_) fun hc5 => ?_
   ·refine t_N ?_
    refine t_cT rfl ?_
    refine t_RN ?_
    exact t_e fun he hS hH => he ▸ ⟨rfl, (eW hS hH (rT rN) E_bool_p)⟩
   refine t_U 5 ?_
   refine am_ 60 (fun hc6 => ?_) fun hc6 => ?_
   ·refine t_N ?_
    refine t_cT rfl ?_
    refine t_RN ?_
    exact t_e fun he hS hH => he ▸ ⟨rfl, (eW hS hH (rT rN) E_bool_p)⟩
   refine t_U 4 ?_
   refine am_ 64 (fun hc7 => ?_) fun hc7 => ?_
   ·refine t_U 1 ?_
    refine aF_ fun y9 rest1 hy9 => ?_
    refine t_U 7 ?_
    refine am_ 73 (fun hc8 => ?_) fun hc8 => ?_
    ·refine t_N ?_
     refine t_cT rfl ?_
     refine t_RN ?_
     exact t_e fun he hS hH => he ▸ ⟨rfl, (eW hS hH (rT rN) E_bool_p)⟩
    refine t_U 4 ?_
    refine am_ 77 (fun hc9 => ?_) fun hc9 => ?_
    ·refine t_U 1 ?_
     refine aF_ fun y10 rest2 hy10 => ?_
     refine t_N ?_
     refine t_if (fun hc10 => ?_) fun hc10 => ?_
     ·refine t_RN ?_
      exact t_e fun he hS hH => he ▸ ⟨rfl, (eW hS hH (rT rN) E_bool_p)⟩
     refine bd_ 0 (fun y11 e fr => e = .normal ∧ Sub [(3, .str y1), (4, .str y3), (5, i4 st1), (6, y6.1.t), (8, y8.1.t), (10, .bool y11)] fr.s ∧ Heap σ0 fr.σ []) (fun y11 e fr h HF => ?_) fun y11 => ?_
     ·obtain ⟨s, σ⟩ := fr
      obtain ⟨rfl, hS, hH⟩ := HF
      refine t_bx h hS hH ?_
      refine t_RU 6 ?_
      refine am_ 102 (fun hc11 => ?_) fun hc11 => ?_
      ·refine t_N ?_
       refine t_cT rfl ?_
       refine t_RN ?_
       exact t_e fun he hS hH => he ▸ ⟨rfl, (eW hS hH (rT rN) E_bool_p)⟩
      refine t_U 2 ?_
      refine am_ 104 (fun hc12 => ?_) fun hc12 => ?_
      ·refine t_U 1 ?_
       refine aF_ fun y12 rest3 hy12 => ?_
       refine t_U 4 ?_
       refine am_ 110 (fun hc13 => ?_) fun hc13 => ?_
       ·refine t_N ?_
        refine t_cT rfl ?_
        refine t_RN ?_
        exact t_e fun he hS hH => he ▸ ⟨rfl, (eW hS hH (rT rN) E_bool_p)⟩
       refine t_U 1 ?_
       refine aF_ fun y13 rest4 hy13 => ?_
       refine t_U 5 ?_
       refine am_ 117 (fun hc14 => ?_) fun hc14 => ?_
       ·refine t_U 3 ?_
        refine aF_ fun y14 rest5 hy14 => ?_
        refine t_U 1 ?_
        refine av_ fun y15 hy15 => ?_
        refine af_ fun y16 hy16 => ?_
        refine t_N ?_
        refine t_if (fun hc15 => ?_) fun hc15 => ?_
        ·refine t_RN ?_
         exact t_e fun he hS hH => he ▸ ⟨rfl, (eW hS hH (rT rN) E_bool_p)⟩
        refine t_RN ?_
        refine ay_ (fun st2 fr => Sub [(3, .str y1), (4, .str y3), (5, i4 st1), (6, y6.1.t), (8, y8.1.t), (11, i4 st2)] fr.s ∧ Heap σ0 fr.σ []) (fun y17 e fr => (Sum.elim (fun y => e = (.exit 2) ∧ Sub [(3, .str y1), (4, .str y3), (5, i4 st1), (8, y8.1.t)] fr.s ∧ Heap σ0 fr.σ []) (fun y => e = .ret ∧ endW Try.prog (Try.f10.results.toList) σ0 (E_bool y) .ret fr)) y17) (fun hS hH => ⟨(aa_ hS (by kernel_rfl)), hH⟩) (fun st2 x fr h HI => ?_) fun y17 e fr h HF => ?_
        ·obtain ⟨s, σ⟩ := fr; obtain ⟨hS, hH⟩ := HI
         refine t_bk h hS hH ?_
         refine t_RU 4 ?_
         refine am_ 133 (fun hc16 => ?_) fun hc16 => ?_
         ·refine t_U 2 ?_
          refine aF_ fun y18 rest6 hy18 => ?_
          refine t_N ?_
          refine t_if (fun hc17 => ?_) fun hc17 => ?_
          ·refine t_RU 3 ?_
           refine av_ fun y19 hy19 => ?_
           refine af_ fun y20 hy20 => ?_
           refine t_N ?_
           refine t_if (fun hc18 => ?_) fun hc18 => ?_
           ·refine t_RN ?_
            exact t_e fun he hS hH => he ▸ ⟨rfl, (eW hS hH (rT rN) E_bool_p)⟩
           refine t_RN ?_
           exact t_e fun he hS hH => he ▸ ⟨(aa_ hS (by kernel_rfl)), hH⟩
          exact t_e fun he hS hH => he ▸ ⟨rfl, (aa_ hS (by kernel_rfl)), hH⟩
         refine t_N ?_
         refine t_cF ff_ne ?_
         exact t_e fun he hS hH => he ▸ ⟨rfl, (aa_ hS (by kernel_rfl)), hH⟩
        obtain ⟨s, σ⟩ := fr
        rcases y17 with y17 | y17
        ·have h := el_l h
         obtain ⟨rfl, hS, hH⟩ := HF
         refine t_bx h hS hH ?_
         refine t_RU 4 ?_
         refine am_ 151 (fun hc19 => ?_) fun hc19 => ?_
         ·refine t_U 1 ?_
          refine aF_ fun y21 rest7 hy21 => ?_
          refine t_U 4 ?_
          refine am_ 157 (fun hc20 => ?_) fun hc20 => ?_
          ·refine t_N ?_
           refine t_cT rfl ?_
           refine t_RN ?_
           exact t_e fun he hS hH => he ▸ ⟨rfl, (eW hS hH (rT rN) E_bool_p)⟩
          refine t_U 3 ?_
          refine aF_ fun y22 rest8 hy22 => ?_
          refine t_U 1 ?_
          refine av_ fun y23 hy23 => ?_
          refine af_ fun y24 hy24 => ?_
          refine t_N ?_
          refine t_if (fun hc21 => ?_) fun hc21 => ?_
          ·refine t_RN ?_
           exact t_e fun he hS hH => he ▸ ⟨rfl, (eW hS hH (rT rN) E_bool_p)⟩
          refine t_RN ?_
          refine t_RN ?_
          refine bd_ 0 (fun y25 e fr => e = .normal ∧ Sub [(3, .str y1), (4, .str y3), (5, i4 st1), (12, i4 y25)] fr.s ∧ Heap σ0 fr.σ []) (fun y25 e fr h HF => ?_) fun y25 => ?_
          ·obtain ⟨s, σ⟩ := fr
           obtain ⟨rfl, hS, hH⟩ := HF
           refine t_bx h hS hH ?_
           refine t_RN ?_
           refine ay_ (fun st3 fr => Sub [(3, .str y1), (4, .str y3), (5, i4 st1), (12, i4 y25), (13, i4 st3)] fr.s ∧ Heap σ0 fr.σ []) (fun y26 e fr => (Sum.elim (fun y => e = (.exit 4) ∧ Sub [(3, .str y1), (4, .str y3), (5, i4 st1)] fr.s ∧ Heap σ0 fr.σ []) (fun y => e = .ret ∧ endW Try.prog (Try.f10.results.toList) σ0 (E_bool y) .ret fr)) y26) (fun hS hH => ⟨(aa_ hS (by kernel_rfl)), hH⟩) (fun st3 x fr h HI => ?_) fun y26 e fr h HF => ?_
           ·obtain ⟨s, σ⟩ := fr; obtain ⟨hS, hH⟩ := HI
            refine t_bk h hS hH ?_
            refine t_RN ?_
            refine t_if (fun hc22 => ?_) fun hc22 => ?_
            ·refine t_RU 3 ?_
             refine av_ fun y27 hy27 => ?_
             refine af_ fun y28 hy28 => ?_
             refine t_N ?_
             refine t_if (fun hc23 => ?_) fun hc23 => ?_
             ·refine t_RN ?_
              exact t_e fun he hS hH => he ▸ ⟨rfl, (eW hS hH (rT rN) E_bool_p)⟩
             refine t_RN ?_
             exact t_e fun he hS hH => he ▸ ⟨(aa_ hS (by kernel_rfl)), hH⟩
            exact t_e fun he hS hH => he ▸ ⟨rfl, (aa_ hS (by kernel_rfl)), hH⟩
           obtain ⟨s, σ⟩ := fr
           rcases y26 with y26 | y26
           ·have h := el_l h
            obtain ⟨rfl, hS, hH⟩ := HF
            refine t_bx h hS hH ?_
            refine t_RN ?_
            exact t_e fun he hS hH => he ▸ ⟨(aa_ hS (by kernel_rfl)), hH⟩
           have h := el_r h
           obtain ⟨rfl, HE⟩ := HF
           obtain rfl := si_1 h; exact ⟨rfl, HE⟩
          refine t_cT hc19 ?_
          refine t_RU 1 ?_
          refine aF_ fun y29 rest9 hy29 => ?_
          refine t_N ?_
          exact t_e fun he hS hH => he ▸ ⟨rfl, (aa_ hS (by kernel_rfl)), hH⟩
         refine t_N ?_
         refine t_cF ff_ne ?_
         refine t_RN ?_
         refine t_RN ?_
         refine bd_ 0 (fun y30 e fr => e = .normal ∧ Sub [(3, .str y1), (4, .str y3), (5, i4 st1), (12, i4 (y1.size : Int))] fr.s ∧ Heap σ0 fr.σ []) (fun y30 e fr h HF => ?_) fun y30 => ?_
         ·obtain ⟨s, σ⟩ := fr
          obtain ⟨rfl, hS, hH⟩ := HF
          refine t_bx h hS hH ?_
          refine t_RN ?_
          refine ay_ (fun st4 fr => Sub [(3, .str y1), (4, .str y3), (5, i4 st1), (12, i4 (y1.size : Int)), (13, i4 st4)] fr.s ∧ Heap σ0 fr.σ []) (fun y31 e fr => (Sum.elim (fun y => e = (.exit 4) ∧ Sub [(3, .str y1), (4, .str y3), (5, i4 st1)] fr.s ∧ Heap σ0 fr.σ []) (fun y => e = .ret ∧ endW Try.prog (Try.f10.results.toList) σ0 (E_bool y) .ret fr)) y31) (fun hS hH => ⟨(aa_ hS (by kernel_rfl)), hH⟩) (fun st4 x fr h HI => ?_) fun y31 e fr h HF => ?_
          ·obtain ⟨s, σ⟩ := fr; obtain ⟨hS, hH⟩ := HI
           refine t_bk h hS hH ?_
           refine t_RN ?_
           refine t_if (fun hc24 => ?_) fun hc24 => ?_
           ·refine t_RU 3 ?_
            refine av_ fun y32 hy32 => ?_
            refine af_ fun y33 hy33 => ?_
            refine t_N ?_
            refine t_if (fun hc25 => ?_) fun hc25 => ?_
            ·refine t_RN ?_
             exact t_e fun he hS hH => he ▸ ⟨rfl, (eW hS hH (rT rN) E_bool_p)⟩
            refine t_RN ?_
            exact t_e fun he hS hH => he ▸ ⟨(aa_ hS (by kernel_rfl)), hH⟩
           exact t_e fun he hS hH => he ▸ ⟨rfl, (aa_ hS (by kernel_rfl)), hH⟩
          obtain ⟨s, σ⟩ := fr
          rcases y31 with y31 | y31
          ·have h := el_l h
           obtain ⟨rfl, hS, hH⟩ := HF
           refine t_bx h hS hH ?_
           refine t_RN ?_
           exact t_e fun he hS hH => he ▸ ⟨(aa_ hS (by kernel_rfl)), hH⟩
          have h := el_r h
          obtain ⟨rfl, HE⟩ := HF
          obtain rfl := si_1 h; exact ⟨rfl, HE⟩
         refine t_cF hc19 ?_
         exact t_e fun he hS hH => ⟨rfl, (aa_ hS (by kernel_rfl)), hH⟩
        have h := el_r h
        obtain ⟨rfl, HE⟩ := HF
        obtain rfl := si_1 h; exact ⟨rfl, HE⟩
       refine t_N ?_
       refine t_cF ff_ne ?_
       refine t_RN ?_
       refine ay_ (fun st5 fr => Sub [(3, .str y1), (4, .str y3), (5, i4 st1), (6, y6.1.t), (8, y8.1.t), (11, i4 st5)] fr.s ∧ Heap σ0 fr.σ []) (fun y34 e fr => (Sum.elim (fun y => e = (.exit 2) ∧ Sub [(3, .str y1), (4, .str y3), (5, i4 st1), (8, y8.1.t)] fr.s ∧ Heap σ0 fr.σ []) (fun y => e = .ret ∧ endW Try.prog (Try.f10.results.toList) σ0 (E_bool y) .ret fr)) y34) (fun hS hH => ⟨(aa_ hS (by kernel_rfl)), hH⟩) (fun st5 x fr h HI => ?_) fun y34 e fr h HF => ?_
       ·obtain ⟨s, σ⟩ := fr; obtain ⟨hS, hH⟩ := HI
        refine t_bk h hS hH ?_
        refine t_RU 4 ?_
        refine am_ 133 (fun hc26 => ?_) fun hc26 => ?_
        ·refine t_U 2 ?_
         refine aF_ fun y35 rest10 hy35 => ?_
         refine t_N ?_
         refine t_if (fun hc27 => ?_) fun hc27 => ?_
         ·refine t_RU 3 ?_
          refine av_ fun y36 hy36 => ?_
          refine af_ fun y37 hy37 => ?_
          refine t_N ?_
          refine t_if (fun hc28 => ?_) fun hc28 => ?_
          ·refine t_RN ?_
           exact t_e fun he hS hH => he ▸ ⟨rfl, (eW hS hH (rT rN) E_bool_p)⟩
          refine t_RN ?_
          exact t_e fun he hS hH => he ▸ ⟨(aa_ hS (by kernel_rfl)), hH⟩
         exact t_e fun he hS hH => he ▸ ⟨rfl, (aa_ hS (by kernel_rfl)), hH⟩
        refine t_N ?_
        refine t_cF ff_ne ?_
        exact t_e fun he hS hH => he ▸ ⟨rfl, (aa_ hS (by kernel_rfl)), hH⟩
       obtain ⟨s, σ⟩ := fr
       rcases y34 with y34 | y34
       ·have h := el_l h
        obtain ⟨rfl, hS, hH⟩ := HF
        refine t_bx h hS hH ?_
        refine t_RU 4 ?_
        refine am_ 151 (fun hc29 => ?_) fun hc29 => ?_
        ·refine t_U 1 ?_
         refine aF_ fun y38 rest11 hy38 => ?_
         refine t_U 4 ?_
         refine am_ 157 (fun hc30 => ?_) fun hc30 => ?_
         ·refine t_N ?_
          refine t_cT rfl ?_
          refine t_RN ?_
          exact t_e fun he hS hH => he ▸ ⟨rfl, (eW hS hH (rT rN) E_bool_p)⟩
         refine t_U 3 ?_
         refine aF_ fun y39 rest12 hy39 => ?_
         refine t_U 1 ?_
         refine av_ fun y40 hy40 => ?_
         refine af_ fun y41 hy41 => ?_
         refine t_N ?_
         refine t_if (fun hc31 => ?_) fun hc31 => ?_
         ·refine t_RN ?_
          exact t_e fun he hS hH => he ▸ ⟨rfl, (eW hS hH (rT rN) E_bool_p)⟩
         refine t_RN ?_
         refine t_RN ?_
         refine bd_ 0 (fun y42 e fr => e = .normal ∧ Sub [(3, .str y1), (4, .str y3), (5, i4 st1), (12, i4 y42)] fr.s ∧ Heap σ0 fr.σ []) (fun y42 e fr h HF => ?_) fun y42 => ?_
         ·obtain ⟨s, σ⟩ := fr
          obtain ⟨rfl, hS, hH⟩ := HF
          refine t_bx h hS hH ?_
          refine t_RN ?_
          refine ay_ (fun st6 fr => Sub [(3, .str y1), (4, .str y3), (5, i4 st1), (12, i4 y42), (13, i4 st6)] fr.s ∧ Heap σ0 fr.σ []) (fun y43 e fr => (Sum.elim (fun y => e = (.exit 4) ∧ Sub [(3, .str y1), (4, .str y3), (5, i4 st1)] fr.s ∧ Heap σ0 fr.σ []) (fun y => e = .ret ∧ endW Try.prog (Try.f10.results.toList) σ0 (E_bool y) .ret fr)) y43) (fun hS hH => ⟨(aa_ hS (by kernel_rfl)), hH⟩) (fun st6 x fr h HI => ?_) fun y43 e fr h HF => ?_
          ·obtain ⟨s, σ⟩ := fr; obtain ⟨hS, hH⟩ := HI
           refine t_bk h hS hH ?_
           refine t_RN ?_
           refine t_if (fun hc32 => ?_) fun hc32 => ?_
           ·refine t_RU 3 ?_
            refine av_ fun y44 hy44 => ?_
            refine af_ fun y45 hy45 => ?_
            refine t_N ?_
            refine t_if (fun hc33 => ?_) fun hc33 => ?_
            ·refine t_RN ?_
             exact t_e fun he hS hH => he ▸ ⟨rfl, (eW hS hH (rT rN) E_bool_p)⟩
            refine t_RN ?_
            exact t_e fun he hS hH => he ▸ ⟨(aa_ hS (by kernel_rfl)), hH⟩
           exact t_e fun he hS hH => he ▸ ⟨rfl, (aa_ hS (by kernel_rfl)), hH⟩
          obtain ⟨s, σ⟩ := fr
          rcases y43 with y43 | y43
          ·have h := el_l h
           obtain ⟨rfl, hS, hH⟩ := HF
           refine t_bx h hS hH ?_
           refine t_RN ?_
           exact t_e fun he hS hH => he ▸ ⟨(aa_ hS (by kernel_rfl)), hH⟩
          have h := el_r h
          obtain ⟨rfl, HE⟩ := HF
          obtain rfl := si_1 h; exact ⟨rfl, HE⟩
         refine t_cT hc29 ?_
         refine t_RU 1 ?_
         refine aF_ fun y46 rest13 hy46 => ?_
         refine t_N ?_
         exact t_e fun he hS hH => he ▸ ⟨rfl, (aa_ hS (by kernel_rfl)), hH⟩
        refine t_N ?_
        refine t_cF ff_ne ?_
        refine t_RN ?_
        refine t_RN ?_
        refine bd_ 0 (fun y47 e fr => e = .normal ∧ Sub [(3, .str y1), (4, .str y3), (5, i4 st1), (12, i4 (y1.size : Int))] fr.s ∧ Heap σ0 fr.σ []) (fun y47 e fr h HF => ?_) fun y47 => ?_
        ·obtain ⟨s, σ⟩ := fr
         obtain ⟨rfl, hS, hH⟩ := HF
         refine t_bx h hS hH ?_
         refine t_RN ?_
         refine ay_ (fun st7 fr => Sub [(3, .str y1), (4, .str y3), (5, i4 st1), (12, i4 (y1.size : Int)), (13, i4 st7)] fr.s ∧ Heap σ0 fr.σ []) (fun y48 e fr => (Sum.elim (fun y => e = (.exit 4) ∧ Sub [(3, .str y1), (4, .str y3), (5, i4 st1)] fr.s ∧ Heap σ0 fr.σ []) (fun y => e = .ret ∧ endW Try.prog (Try.f10.results.toList) σ0 (E_bool y) .ret fr)) y48) (fun hS hH => ⟨(aa_ hS (by kernel_rfl)), hH⟩) (fun st7 x fr h HI => ?_) fun y48 e fr h HF => ?_
         ·obtain ⟨s, σ⟩ := fr; obtain ⟨hS, hH⟩ := HI
          refine t_bk h hS hH ?_
          refine t_RN ?_
          refine t_if (fun hc34 => ?_) fun hc34 => ?_
          ·refine t_RU 3 ?_
           refine av_ fun y49 hy49 => ?_
           refine af_ fun y50 hy50 => ?_
           refine t_N ?_
           refine t_if (fun hc35 => ?_) fun hc35 => ?_
           ·refine t_RN ?_
            exact t_e fun he hS hH => he ▸ ⟨rfl, (eW hS hH (rT rN) E_bool_p)⟩
           refine t_RN ?_
           exact t_e fun he hS hH => he ▸ ⟨(aa_ hS (by kernel_rfl)), hH⟩
          exact t_e fun he hS hH => he ▸ ⟨rfl, (aa_ hS (by kernel_rfl)), hH⟩
         obtain ⟨s, σ⟩ := fr
         rcases y48 with y48 | y48
         ·have h := el_l h
          obtain ⟨rfl, hS, hH⟩ := HF
          refine t_bx h hS hH ?_
          refine t_RN ?_
          exact t_e fun he hS hH => he ▸ ⟨(aa_ hS (by kernel_rfl)), hH⟩
         have h := el_r h
         obtain ⟨rfl, HE⟩ := HF
         obtain rfl := si_1 h; exact ⟨rfl, HE⟩
        refine t_cF hc29 ?_
        exact t_e fun he hS hH => ⟨rfl, (aa_ hS (by kernel_rfl)), hH⟩
       have h := el_r h
       obtain ⟨rfl, HE⟩ := HF
       obtain rfl := si_1 h; exact ⟨rfl, HE⟩
      refine t_N ?_
      refine t_cF ff_ne ?_
      refine t_RN ?_
      refine ay_ (fun st8 fr => Sub [(3, .str y1), (4, .str y3), (5, i4 st1), (6, y6.1.t), (8, y8.1.t), (11, i4 st8)] fr.s ∧ Heap σ0 fr.σ []) (fun y51 e fr => (Sum.elim (fun y => e = (.exit 2) ∧ Sub [(3, .str y1), (4, .str y3), (5, i4 st1), (8, y8.1.t)] fr.s ∧ Heap σ0 fr.σ []) (fun y => e = .ret ∧ endW Try.prog (Try.f10.results.toList) σ0 (E_bool y) .ret fr)) y51) (fun hS hH => ⟨(aa_ hS (by kernel_rfl)), hH⟩) (fun st8 x fr h HI => ?_) fun y51 e fr h HF => ?_
      ·obtain ⟨s, σ⟩ := fr; obtain ⟨hS, hH⟩ := HI
       refine t_bk h hS hH ?_
       refine t_RU 4 ?_
       refine am_ 133 (fun hc36 => ?_) fun hc36 => ?_
       ·refine t_U 2 ?_
        refine aF_ fun y52 rest14 hy52 => ?_
        refine t_N ?_
        refine t_if (fun hc37 => ?_) fun hc37 => ?_
        ·refine t_RU 3 ?_
         refine av_ fun y53 hy53 => ?_
         refine af_ fun y54 hy54 => ?_
         refine t_N ?_
         refine t_if (fun hc38 => ?_) fun hc38 => ?_
         ·refine t_RN ?_
          exact t_e fun he hS hH => he ▸ ⟨rfl, (eW hS hH (rT rN) E_bool_p)⟩
         refine t_RN ?_
         exact t_e fun he hS hH => he ▸ ⟨(aa_ hS (by kernel_rfl)), hH⟩
        exact t_e fun he hS hH => he ▸ ⟨rfl, (aa_ hS (by kernel_rfl)), hH⟩
       refine t_N ?_
       refine t_cF ff_ne ?_
       exact t_e fun he hS hH => he ▸ ⟨rfl, (aa_ hS (by kernel_rfl)), hH⟩
      obtain ⟨s, σ⟩ := fr
      rcases y51 with y51 | y51
      ·have h := el_l h
       obtain ⟨rfl, hS, hH⟩ := HF
       refine t_bx h hS hH ?_
       refine t_RU 4 ?_
       refine am_ 151 (fun hc39 => ?_) fun hc39 => ?_
       ·refine t_U 1 ?_
        refine aF_ fun y55 rest15 hy55 => ?_
        refine t_U 4 ?_
        refine am_ 157 (fun hc40 => ?_) fun hc40 => ?_
        ·refine t_N ?_
         refine t_cT rfl ?_
         refine t_RN ?_
         exact t_e fun he hS hH => he ▸ ⟨rfl, (eW hS hH (rT rN) E_bool_p)⟩
        refine t_U 3 ?_
        refine aF_ fun y56 rest16 hy56 => ?_
        refine t_U 1 ?_
        refine av_ fun y57 hy57 => ?_
        refine af_ fun y58 hy58 => ?_
        refine t_N ?_
        refine t_if (fun hc41 => ?_) fun hc41 => ?_
        ·refine t_RN ?_
         exact t_e fun he hS hH => he ▸ ⟨rfl, (eW hS hH (rT rN) E_bool_p)⟩
        refine t_RN ?_
        refine t_RN ?_
        refine bd_ 0 (fun y59 e fr => e = .normal ∧ Sub [(3, .str y1), (4, .str y3), (5, i4 st1), (12, i4 y59)] fr.s ∧ Heap σ0 fr.σ []) (fun y59 e fr h HF => ?_) fun y59 => ?_
        ·obtain ⟨s, σ⟩ := fr
         obtain ⟨rfl, hS, hH⟩ := HF
         refine t_bx h hS hH ?_
         refine t_RN ?_
         refine ay_ (fun st9 fr => Sub [(3, .str y1), (4, .str y3), (5, i4 st1), (12, i4 y59), (13, i4 st9)] fr.s ∧ Heap σ0 fr.σ []) (fun y60 e fr => (Sum.elim (fun y => e = (.exit 4) ∧ Sub [(3, .str y1), (4, .str y3), (5, i4 st1)] fr.s ∧ Heap σ0 fr.σ []) (fun y => e = .ret ∧ endW Try.prog (Try.f10.results.toList) σ0 (E_bool y) .ret fr)) y60) (fun hS hH => ⟨(aa_ hS (by kernel_rfl)), hH⟩) (fun st9 x fr h HI => ?_) fun y60 e fr h HF => ?_
         ·obtain ⟨s, σ⟩ := fr; obtain ⟨hS, hH⟩ := HI
          refine t_bk h hS hH ?_
          refine t_RN ?_
          refine t_if (fun hc42 => ?_) fun hc42 => ?_
          ·refine t_RU 3 ?_
           refine av_ fun y61 hy61 => ?_
           refine af_ fun y62 hy62 => ?_
           refine t_N ?_
           refine t_if (fun hc43 => ?_) fun hc43 => ?_
           ·refine t_RN ?_
            exact t_e fun he hS hH => he ▸ ⟨rfl, (eW hS hH (rT rN) E_bool_p)⟩
           refine t_RN ?_
           exact t_e fun he hS hH => he ▸ ⟨(aa_ hS (by kernel_rfl)), hH⟩
          exact t_e fun he hS hH => he ▸ ⟨rfl, (aa_ hS (by kernel_rfl)), hH⟩
         obtain ⟨s, σ⟩ := fr
         rcases y60 with y60 | y60
         ·have h := el_l h
          obtain ⟨rfl, hS, hH⟩ := HF
          refine t_bx h hS hH ?_
          refine t_RN ?_
          exact t_e fun he hS hH => he ▸ ⟨(aa_ hS (by kernel_rfl)), hH⟩
         have h := el_r h
         obtain ⟨rfl, HE⟩ := HF
         obtain rfl := si_1 h; exact ⟨rfl, HE⟩
        refine t_cT hc39 ?_
        refine t_RU 1 ?_
        refine aF_ fun y63 rest17 hy63 => ?_
        refine t_N ?_
        exact t_e fun he hS hH => he ▸ ⟨rfl, (aa_ hS (by kernel_rfl)), hH⟩
       refine t_N ?_
       refine t_cF ff_ne ?_
       refine t_RN ?_
       refine t_RN ?_
       refine bd_ 0 (fun y64 e fr => e = .normal ∧ Sub [(3, .str y1), (4, .str y3), (5, i4 st1), (12, i4 (y1.size : Int))] fr.s ∧ Heap σ0 fr.σ []) (fun y64 e fr h HF => ?_) fun y64 => ?_
       ·obtain ⟨s, σ⟩ := fr
        obtain ⟨rfl, hS, hH⟩ := HF
        refine t_bx h hS hH ?_
        refine t_RN ?_
        refine ay_ (fun st10 fr => Sub [(3, .str y1), (4, .str y3), (5, i4 st1), (12, i4 (y1.size : Int)), (13, i4 st10)] fr.s ∧ Heap σ0 fr.σ []) (fun y65 e fr => (Sum.elim (fun y => e = (.exit 4) ∧ Sub [(3, .str y1), (4, .str y3), (5, i4 st1)] fr.s ∧ Heap σ0 fr.σ []) (fun y => e = .ret ∧ endW Try.prog (Try.f10.results.toList) σ0 (E_bool y) .ret fr)) y65) (fun hS hH => ⟨(aa_ hS (by kernel_rfl)), hH⟩) (fun st10 x fr h HI => ?_) fun y65 e fr h HF => ?_
        ·obtain ⟨s, σ⟩ := fr; obtain ⟨hS, hH⟩ := HI
         refine t_bk h hS hH ?_
         refine t_RN ?_
         refine t_if (fun hc44 => ?_) fun hc44 => ?_
         ·refine t_RU 3 ?_
          refine av_ fun y66 hy66 => ?_
          refine af_ fun y67 hy67 => ?_
          refine t_N ?_
          refine t_if (fun hc45 => ?_) fun hc45 => ?_
          ·refine t_RN ?_
           exact t_e fun he hS hH => he ▸ ⟨rfl, (eW hS hH (rT rN) E_bool_p)⟩
          refine t_RN ?_
          exact t_e fun he hS hH => he ▸ ⟨(aa_ hS (by kernel_rfl)), hH⟩
         exact t_e fun he hS hH => he ▸ ⟨rfl, (aa_ hS (by kernel_rfl)), hH⟩
        obtain ⟨s, σ⟩ := fr
        rcases y65 with y65 | y65
        ·have h := el_l h
         obtain ⟨rfl, hS, hH⟩ := HF
         refine t_bx h hS hH ?_
         refine t_RN ?_
         exact t_e fun he hS hH => he ▸ ⟨(aa_ hS (by kernel_rfl)), hH⟩
        have h := el_r h
        obtain ⟨rfl, HE⟩ := HF
        obtain rfl := si_1 h; exact ⟨rfl, HE⟩
       refine t_cF hc39 ?_
       exact t_e fun he hS hH => ⟨rfl, (aa_ hS (by kernel_rfl)), hH⟩
      have h := el_r h
      obtain ⟨rfl, HE⟩ := HF
      obtain rfl := si_1 h; exact ⟨rfl, HE⟩
     refine t_RU 5 ?_
     refine am_ 90 (fun hc46 => ?_) fun hc46 => ?_
     ·refine t_U 3 ?_
      refine av_ fun y68 hy68 => ?_
      refine af_ fun y69 hy69 => ?_
      refine t_N ?_
      exact t_e fun he hS hH => he ▸ ⟨rfl, (aa_ hS (by kernel_rfl)), hH⟩
     refine t_N ?_
     exact t_e fun he hS hH => he ▸ ⟨rfl, (aa_ hS (by kernel_rfl)), hH⟩
    refine t_N ?_
    refine t_cF ff_ne ?_
    refine bd_ 0 (fun y70 e fr => e = .normal ∧ Sub [(3, .str y1), (4, .str y3), (5, i4 st1), (6, y6.1.t), (8, y8.1.t), (10, .bool y70)] fr.s ∧ Heap σ0 fr.σ []) (fun y70 e fr h HF => ?_) fun y70 => ?_
    ·obtain ⟨s, σ⟩ := fr
     obtain ⟨rfl, hS, hH⟩ := HF
     refine t_bx h hS hH ?_
     refine t_RU 6 ?_
     refine am_ 102 (fun hc47 => ?_) fun hc47 => ?_
     ·refine t_N ?_
      refine t_cT rfl ?_
      refine t_RN ?_
      exact t_e fun he hS hH => he ▸ ⟨rfl, (eW hS hH (rT rN) E_bool_p)⟩
     refine t_U 2 ?_
     refine am_ 104 (fun hc48 => ?_) fun hc48 => ?_
     ·refine t_U 1 ?_
      refine aF_ fun y71 rest18 hy71 => ?_
      refine t_U 4 ?_
      refine am_ 110 (fun hc49 => ?_) fun hc49 => ?_
      ·refine t_N ?_
       refine t_cT rfl ?_
       refine t_RN ?_
       exact t_e fun he hS hH => he ▸ ⟨rfl, (eW hS hH (rT rN) E_bool_p)⟩
      refine t_U 1 ?_
      refine aF_ fun y72 rest19 hy72 => ?_
      refine t_U 5 ?_
      refine am_ 117 (fun hc50 => ?_) fun hc50 => ?_
      ·refine t_U 3 ?_
       refine aF_ fun y73 rest20 hy73 => ?_
       refine t_U 1 ?_
       refine av_ fun y74 hy74 => ?_
       refine af_ fun y75 hy75 => ?_
       refine t_N ?_
       refine t_if (fun hc51 => ?_) fun hc51 => ?_
       ·refine t_RN ?_
        exact t_e fun he hS hH => he ▸ ⟨rfl, (eW hS hH (rT rN) E_bool_p)⟩
       refine t_RN ?_
       refine ay_ (fun st11 fr => Sub [(3, .str y1), (4, .str y3), (5, i4 st1), (6, y6.1.t), (8, y8.1.t), (11, i4 st11)] fr.s ∧ Heap σ0 fr.σ []) (fun y76 e fr => (Sum.elim (fun y => e = (.exit 2) ∧ Sub [(3, .str y1), (4, .str y3), (5, i4 st1), (8, y8.1.t)] fr.s ∧ Heap σ0 fr.σ []) (fun y => e = .ret ∧ endW Try.prog (Try.f10.results.toList) σ0 (E_bool y) .ret fr)) y76) (fun hS hH => ⟨(aa_ hS (by kernel_rfl)), hH⟩) (fun st11 x fr h HI => ?_) fun y76 e fr h HF => ?_
       ·obtain ⟨s, σ⟩ := fr; obtain ⟨hS, hH⟩ := HI
        refine t_bk h hS hH ?_
        refine t_RU 4 ?_
        refine am_ 133 (fun hc52 => ?_) fun hc52 => ?_
        ·refine t_U 2 ?_
         refine aF_ fun y77 rest21 hy77 => ?_
         refine t_N ?_
         refine t_if (fun hc53 => ?_) fun hc53 => ?_
         ·refine t_RU 3 ?_
          refine av_ fun y78 hy78 => ?_
          refine af_ fun y79 hy79 => ?_
          refine t_N ?_
          refine t_if (fun hc54 => ?_) fun hc54 => ?_
          ·refine t_RN ?_
           exact t_e fun he hS hH => he ▸ ⟨rfl, (eW hS hH (rT rN) E_bool_p)⟩
          refine t_RN ?_
          exact t_e fun he hS hH => he ▸ ⟨(aa_ hS (by kernel_rfl)), hH⟩
         exact t_e fun he hS hH => he ▸ ⟨rfl, (aa_ hS (by kernel_rfl)), hH⟩
        refine t_N ?_
        refine t_cF ff_ne ?_
        exact t_e fun he hS hH => he ▸ ⟨rfl, (aa_ hS (by kernel_rfl)), hH⟩
       obtain ⟨s, σ⟩ := fr
       rcases y76 with y76 | y76
       ·have h := el_l h
        obtain ⟨rfl, hS, hH⟩ := HF
        refine t_bx h hS hH ?_
        refine t_RU 4 ?_
        refine am_ 151 (fun hc55 => ?_) fun hc55 => ?_
        ·refine t_U 1 ?_
         refine aF_ fun y80 rest22 hy80 => ?_
         refine t_U 4 ?_
         refine am_ 157 (fun hc56 => ?_) fun hc56 => ?_
         ·refine t_N ?_
          refine t_cT rfl ?_
          refine t_RN ?_
          exact t_e fun he hS hH => he ▸ ⟨rfl, (eW hS hH (rT rN) E_bool_p)⟩
         refine t_U 3 ?_
         refine aF_ fun y81 rest23 hy81 => ?_
         refine t_U 1 ?_
         refine av_ fun y82 hy82 => ?_
         refine af_ fun y83 hy83 => ?_
         refine t_N ?_
         refine t_if (fun hc57 => ?_) fun hc57 => ?_
         ·refine t_RN ?_
          exact t_e fun he hS hH => he ▸ ⟨rfl, (eW hS hH (rT rN) E_bool_p)⟩
         refine t_RN ?_
         refine t_RN ?_
         refine bd_ 0 (fun y84 e fr => e = .normal ∧ Sub [(3, .str y1), (4, .str y3), (5, i4 st1), (12, i4 y84)] fr.s ∧ Heap σ0 fr.σ []) (fun y84 e fr h HF => ?_) fun y84 => ?_
         ·obtain ⟨s, σ⟩ := fr
          obtain ⟨rfl, hS, hH⟩ := HF
          refine t_bx h hS hH ?_
          refine t_RN ?_
          refine ay_ (fun st12 fr => Sub [(3, .str y1), (4, .str y3), (5, i4 st1), (12, i4 y84), (13, i4 st12)] fr.s ∧ Heap σ0 fr.σ []) (fun y85 e fr => (Sum.elim (fun y => e = (.exit 4) ∧ Sub [(3, .str y1), (4, .str y3), (5, i4 st1)] fr.s ∧ Heap σ0 fr.σ []) (fun y => e = .ret ∧ endW Try.prog (Try.f10.results.toList) σ0 (E_bool y) .ret fr)) y85) (fun hS hH => ⟨(aa_ hS (by kernel_rfl)), hH⟩) (fun st12 x fr h HI => ?_) fun y85 e fr h HF => ?_
          ·obtain ⟨s, σ⟩ := fr; obtain ⟨hS, hH⟩ := HI
           refine t_bk h hS hH ?_
           refine t_RN ?_
           refine t_if (fun hc58 => ?_) fun hc58 => ?_
           ·refine t_RU 3 ?_
            refine av_ fun y86 hy86 => ?_
            refine af_ fun y87 hy87 => ?_
            refine t_N ?_
            refine t_if (fun hc59 => ?_) fun hc59 => ?_
            ·refine t_RN ?_
             exact t_e fun he hS hH => he ▸ ⟨rfl, (eW hS hH (rT rN) E_bool_p)⟩
            refine t_RN ?_
            exact t_e fun he hS hH => he ▸ ⟨(aa_ hS (by kernel_rfl)), hH⟩
           exact t_e fun he hS hH => he ▸ ⟨rfl, (aa_ hS (by kernel_rfl)), hH⟩
          obtain ⟨s, σ⟩ := fr
          rcases y85 with y85 | y85
          ·have h := el_l h
           obtain ⟨rfl, hS, hH⟩ := HF
           refine t_bx h hS hH ?_
           refine t_RN ?_
           exact t_e fun he hS hH => he ▸ ⟨(aa_ hS (by kernel_rfl)), hH⟩
          have h := el_r h
          obtain ⟨rfl, HE⟩ := HF
          obtain rfl := si_1 h; exact ⟨rfl, HE⟩
         refine t_cT hc55 ?_
         refine t_RU 1 ?_
         refine aF_ fun y88 rest24 hy88 => ?_
         refine t_N ?_
         exact t_e fun he hS hH => he ▸ ⟨rfl, (aa_ hS (by kernel_rfl)), hH⟩
        refine t_N ?_
        refine t_cF ff_ne ?_
        refine t_RN ?_
        refine t_RN ?_
        refine bd_ 0 (fun y89 e fr => e = .normal ∧ Sub [(3, .str y1), (4, .str y3), (5, i4 st1), (12, i4 (y1.size : Int))] fr.s ∧ Heap σ0 fr.σ []) (fun y89 e fr h HF => ?_) fun y89 => ?_
        ·obtain ⟨s, σ⟩ := fr
         obtain ⟨rfl, hS, hH⟩ := HF
         refine t_bx h hS hH ?_
         refine t_RN ?_
         refine ay_ (fun st13 fr => Sub [(3, .str y1), (4, .str y3), (5, i4 st1), (12, i4 (y1.size : Int)), (13, i4 st13)] fr.s ∧ Heap σ0 fr.σ []) (fun y90 e fr => (Sum.elim (fun y => e = (.exit 4) ∧ Sub [(3, .str y1), (4, .str y3), (5, i4 st1)] fr.s ∧ Heap σ0 fr.σ []) (fun y => e = .ret ∧ endW Try.prog (Try.f10.results.toList) σ0 (E_bool y) .ret fr)) y90) (fun hS hH => ⟨(aa_ hS (by kernel_rfl)), hH⟩) (fun st13 x fr h HI => ?_) fun y90 e fr h HF => ?_
         ·obtain ⟨s, σ⟩ := fr; obtain ⟨hS, hH⟩ := HI
          refine t_bk h hS hH ?_
          refine t_RN ?_
          refine t_if (fun hc60 => ?_) fun hc60 => ?_
          ·refine t_RU 3 ?_
           refine av_ fun y91 hy91 => ?_
           refine af_ fun y92 hy92 => ?_
           refine t_N ?_
           refine t_if (fun hc61 => ?_) fun hc61 => ?_
           ·refine t_RN ?_
            exact t_e fun he hS hH => he ▸ ⟨rfl, (eW hS hH (rT rN) E_bool_p)⟩
           refine t_RN ?_
           exact t_e fun he hS hH => he ▸ ⟨(aa_ hS (by kernel_rfl)), hH⟩
          exact t_e fun he hS hH => he ▸ ⟨rfl, (aa_ hS (by kernel_rfl)), hH⟩
         obtain ⟨s, σ⟩ := fr
         rcases y90 with y90 | y90
         ·have h := el_l h
          obtain ⟨rfl, hS, hH⟩ := HF
          refine t_bx h hS hH ?_
          refine t_RN ?_
          exact t_e fun he hS hH => he ▸ ⟨(aa_ hS (by kernel_rfl)), hH⟩
         have h := el_r h
         obtain ⟨rfl, HE⟩ := HF
         obtain rfl := si_1 h; exact ⟨rfl, HE⟩
        refine t_cF hc55 ?_
        exact t_e fun he hS hH => ⟨rfl, (aa_ hS (by kernel_rfl)), hH⟩
       have h := el_r h
       obtain ⟨rfl, HE⟩ := HF
       obtain rfl := si_1 h; exact ⟨rfl, HE⟩
      refine t_N ?_
      refine t_cF ff_ne ?_
      refine t_RN ?_
      refine ay_ (fun st14 fr => Sub [(3, .str y1), (4, .str y3), (5, i4 st1), (6, y6.1.t), (8, y8.1.t), (11, i4 st14)] fr.s ∧ Heap σ0 fr.σ []) (fun y93 e fr => (Sum.elim (fun y => e = (.exit 2) ∧ Sub [(3, .str y1), (4, .str y3), (5, i4 st1), (8, y8.1.t)] fr.s ∧ Heap σ0 fr.σ []) (fun y => e = .ret ∧ endW Try.prog (Try.f10.results.toList) σ0 (E_bool y) .ret fr)) y93) (fun hS hH => ⟨(aa_ hS (by kernel_rfl)), hH⟩) (fun st14 x fr h HI => ?_) fun y93 e fr h HF => ?_
      ·obtain ⟨s, σ⟩ := fr; obtain ⟨hS, hH⟩ := HI
       refine t_bk h hS hH ?_
       refine t_RU 4 ?_
       refine am_ 133 (fun hc62 => ?_) fun hc62 => ?_
       ·refine t_U 2 ?_
        refine aF_ fun y94 rest25 hy94 => ?_
        refine t_N ?_
        refine t_if (fun hc63 => ?_) fun hc63 => ?_
        ·refine t_RU 3 ?_
         refine av_ fun y95 hy95 => ?_
         refine af_ fun y96 hy96 => ?_
         refine t_N ?_
         refine t_if (fun hc64 => ?_) fun hc64 => ?_
         ·refine t_RN ?_
          exact t_e fun he hS hH => he ▸ ⟨rfl, (eW hS hH (rT rN) E_bool_p)⟩
         refine t_RN ?_
         exact t_e fun he hS hH => he ▸ ⟨(aa_ hS (by kernel_rfl)), hH⟩
        exact t_e fun he hS hH => he ▸ ⟨rfl, (aa_ hS (by kernel_rfl)), hH⟩
       refine t_N ?_
       refine t_cF ff_ne ?_
       exact t_e fun he hS hH => he ▸ ⟨rfl, (aa_ hS (by kernel_rfl)), hH⟩
      obtain ⟨s, σ⟩ := fr
      rcases y93 with y93 | y93
      ·have h := el_l h
       obtain ⟨rfl, hS, hH⟩ := HF
       refine t_bx h hS hH ?_
       refine t_RU 4 ?_
       refine am_ 151 (fun hc65 => ?_) fun hc65 => ?_
       ·refine t_U 1 ?_
        refine aF_ fun y97 rest26 hy97 => ?_
        refine t_U 4 ?_
        refine am_ 157 (fun hc66 => ?_) fun hc66 => ?_
        ·refine t_N ?_
         refine t_cT rfl ?_
         refine t_RN ?_
         exact t_e fun he hS hH => he ▸ ⟨rfl, (eW hS hH (rT rN) E_bool_p)⟩
        refine t_U 3 ?_
        refine aF_ fun y98 rest27 hy98 => ?_
        refine t_U 1 ?_
        refine av_ fun y99 hy99 => ?_
        refine af_ fun y100 hy100 => ?_
        refine t_N ?_
        refine t_if (fun hc67 => ?_) fun hc67 => ?_
        ·refine t_RN ?_
         exact t_e fun he hS hH => he ▸ ⟨rfl, (eW hS hH (rT rN) E_bool_p)⟩
        refine t_RN ?_
        refine t_RN ?_
        refine bd_ 0 (fun y101 e fr => e = .normal ∧ Sub [(3, .str y1), (4, .str y3), (5, i4 st1), (12, i4 y101)] fr.s ∧ Heap σ0 fr.σ []) (fun y101 e fr h HF => ?_) fun y101 => ?_
        ·obtain ⟨s, σ⟩ := fr
         obtain ⟨rfl, hS, hH⟩ := HF
         refine t_bx h hS hH ?_
         refine t_RN ?_
         refine ay_ (fun st15 fr => Sub [(3, .str y1), (4, .str y3), (5, i4 st1), (12, i4 y101), (13, i4 st15)] fr.s ∧ Heap σ0 fr.σ []) (fun y102 e fr => (Sum.elim (fun y => e = (.exit 4) ∧ Sub [(3, .str y1), (4, .str y3), (5, i4 st1)] fr.s ∧ Heap σ0 fr.σ []) (fun y => e = .ret ∧ endW Try.prog (Try.f10.results.toList) σ0 (E_bool y) .ret fr)) y102) (fun hS hH => ⟨(aa_ hS (by kernel_rfl)), hH⟩) (fun st15 x fr h HI => ?_) fun y102 e fr h HF => ?_
         ·obtain ⟨s, σ⟩ := fr; obtain ⟨hS, hH⟩ := HI
          refine t_bk h hS hH ?_
          refine t_RN ?_
          refine t_if (fun hc68 => ?_) fun hc68 => ?_
          ·refine t_RU 3 ?_
           refine av_ fun y103 hy103 => ?_
           refine af_ fun y104 hy104 => ?_
           refine t_N ?_
           refine t_if (fun hc69 => ?_) fun hc69 => ?_
           ·refine t_RN ?_
            exact t_e fun he hS hH => he ▸ ⟨rfl, (eW hS hH (rT rN) E_bool_p)⟩
           refine t_RN ?_
           exact t_e fun he hS hH => he ▸ ⟨(aa_ hS (by kernel_rfl)), hH⟩
          exact t_e fun he hS hH => he ▸ ⟨rfl, (aa_ hS (by kernel_rfl)), hH⟩
         obtain ⟨s, σ⟩ := fr
         rcases y102 with y102 | y102
         ·have h := el_l h
          obtain ⟨rfl, hS, hH⟩ := HF
          refine t_bx h hS hH ?_
          refine t_RN ?_
          exact t_e fun he hS hH => he ▸ ⟨(aa_ hS (by kernel_rfl)), hH⟩
         have h := el_r h
         obtain ⟨rfl, HE⟩ := HF
         obtain rfl := si_1 h; exact ⟨rfl, HE⟩
        refine t_cT hc65 ?_
        refine t_RU 1 ?_
        refine aF_ fun y105 rest28 hy105 => ?_
        refine t_N ?_
        exact t_e fun he hS hH => he ▸ ⟨rfl, (aa_ hS (by kernel_rfl)), hH⟩
       refine t_N ?_
       refine t_cF ff_ne ?_
       refine t_RN ?_
       refine t_RN ?_
       refine bd_ 0 (fun y106 e fr => e = .normal ∧ Sub [(3, .str y1), (4, .str y3), (5, i4 st1), (12, i4 (y1.size : Int))] fr.s ∧ Heap σ0 fr.σ []) (fun y106 e fr h HF => ?_) fun y106 => ?_
       ·obtain ⟨s, σ⟩ := fr
        obtain ⟨rfl, hS, hH⟩ := HF
        refine t_bx h hS hH ?_
        refine t_RN ?_
        refine ay_ (fun st16 fr => Sub [(3, .str y1), (4, .str y3), (5, i4 st1), (12, i4 (y1.size : Int)), (13, i4 st16)] fr.s ∧ Heap σ0 fr.σ []) (fun y107 e fr => (Sum.elim (fun y => e = (.exit 4) ∧ Sub [(3, .str y1), (4, .str y3), (5, i4 st1)] fr.s ∧ Heap σ0 fr.σ []) (fun y => e = .ret ∧ endW Try.prog (Try.f10.results.toList) σ0 (E_bool y) .ret fr)) y107) (fun hS hH => ⟨(aa_ hS (by kernel_rfl)), hH⟩) (fun st16 x fr h HI => ?_) fun y107 e fr h HF => ?_
        ·obtain ⟨s, σ⟩ := fr; obtain ⟨hS, hH⟩ := HI
         refine t_bk h hS hH ?_
         refine t_RN ?_
         refine t_if (fun hc70 => ?_) fun hc70 => ?_
         ·refine t_RU 3 ?_
          refine av_ fun y108 hy108 => ?_
          refine af_ fun y109 hy109 => ?_
          refine t_N ?_
          refine t_if (fun hc71 => ?_) fun hc71 => ?_
          ·refine t_RN ?_
           exact t_e fun he hS hH => he ▸ ⟨rfl, (eW hS hH (rT rN) E_bool_p)⟩
          refine t_RN ?_
          exact t_e fun he hS hH => he ▸ ⟨(aa_ hS (by kernel_rfl)), hH⟩
         exact t_e fun he hS hH => he ▸ ⟨rfl, (aa_ hS (by kernel_rfl)), hH⟩
        obtain ⟨s, σ⟩ := fr
        rcases y107 with y107 | y107
        ·have h := el_l h
         obtain ⟨rfl, hS, hH⟩ := HF
         refine t_bx h hS hH ?_
         refine t_RN ?_
         exact t_e fun he hS hH => he ▸ ⟨(aa_ hS (by kernel_rfl)), hH⟩
        have h := el_r h
        obtain ⟨rfl, HE⟩ := HF
        obtain rfl := si_1 h; exact ⟨rfl, HE⟩
       refine t_cF hc65 ?_
       exact t_e fun he hS hH => ⟨rfl, (aa_ hS (by kernel_rfl)), hH⟩
      have h := el_r h
      obtain ⟨rfl, HE⟩ := HF
      obtain rfl := si_1 h; exact ⟨rfl, HE⟩
     refine t_N ?_
     refine t_cF ff_ne ?_
     refine t_RN ?_
     refine ay_ (fun st17 fr => Sub [(3, .str y1), (4, .str y3), (5, i4 st1), (6, y6.1.t), (8, y8.1.t), (11, i4 st17)] fr.s ∧ Heap σ0 fr.σ []) (fun y110 e fr => (Sum.elim (fun y => e = (.exit 2) ∧ Sub [(3, .str y1), (4, .str y3), (5, i4 st1), (8, y8.1.t)] fr.s ∧ Heap σ0 fr.σ []) (fun y => e = .ret ∧ endW Try.prog (Try.f10.results.toList) σ0 (E_bool y) .ret fr)) y110) (fun hS hH => ⟨(aa_ hS (by kernel_rfl)), hH⟩) (fun st17 x fr h HI => ?_) fun y110 e fr h HF => ?_
     ·obtain ⟨s, σ⟩ := fr; obtain ⟨hS, hH⟩ := HI
      refine t_bk h hS hH ?_
      refine t_RU 4 ?_
      refine am_ 133 (fun hc72 => ?_) fun hc72 => ?_
      ·refine t_U 2 ?_
       refine aF_ fun y111 rest29 hy111 => ?_
       refine t_N ?_
       refine t_if (fun hc73 => ?_) fun hc73 => ?_
       ·refine t_RU 3 ?_
        refine av_ fun y112 hy112 => ?_
        refine af_ fun y113 hy113 => ?_
        refine t_N ?_
        refine t_if (fun hc74 => ?_) fun hc74 => ?_
        ·refine t_RN ?_
         exact t_e fun he hS hH => he ▸ ⟨rfl, (eW hS hH (rT rN) E_bool_p)⟩
        refine t_RN ?_
        exact t_e fun he hS hH => he ▸ ⟨(aa_ hS (by kernel_rfl)), hH⟩
       exact t_e fun he hS hH => he ▸ ⟨rfl, (aa_ hS (by kernel_rfl)), hH⟩
      refine t_N ?_
      refine t_cF ff_ne ?_
      exact t_e fun he hS hH => he ▸ ⟨rfl, (aa_ hS (by kernel_rfl)), hH⟩
     obtain ⟨s, σ⟩ := fr
     rcases y110 with y110 | y110
     ·have h := el_l h
      obtain ⟨rfl, hS, hH⟩ := HF
      refine t_bx h hS hH ?_
      refine t_RU 4 ?_
      refine am_ 151 (fun hc75 => ?_) fun hc75 => ?_
      ·refine t_U 1 ?_
       refine aF_ fun y114 rest30 hy114 => ?_
       refine t_U 4 ?_
       refine am_ 157 (fun hc76 => ?_) fun hc76 => ?_
       ·refine t_N ?_
        refine t_cT rfl ?_
        refine t_RN ?_
        exact t_e fun he hS hH => he ▸ ⟨rfl, (eW hS hH (rT rN) E_bool_p)⟩
       refine t_U 3 ?_
       refine aF_ fun y115 rest31 hy115 => ?_
       refine t_U 1 ?_
       refine av_ fun y116 hy116 => ?_
       refine af_ fun y117 hy117 => ?_
       refine t_N ?_
       refine t_if (fun hc77 => ?_) fun hc77 => ?_
       ·refine t_RN ?_
        exact t_e fun he hS hH => he ▸ ⟨rfl, (eW hS hH (rT rN) E_bool_p)⟩
       refine t_RN ?_
       refine t_RN ?_
       refine bd_ 0 (fun y118 e fr => e = .normal ∧ Sub [(3, .str y1), (4, .str y3), (5, i4 st1), (12, i4 y118)] fr.s ∧ Heap σ0 fr.σ []) (fun y118 e fr h HF => ?_) fun y118 => ?_
       ·obtain ⟨s, σ⟩ := fr
        obtain ⟨rfl, hS, hH⟩ := HF
        refine t_bx h hS hH ?_
        refine t_RN ?_
        refine ay_ (fun st18 fr => Sub [(3, .str y1), (4, .str y3), (5, i4 st1), (12, i4 y118), (13, i4 st18)] fr.s ∧ Heap σ0 fr.σ []) (fun y119 e fr => (Sum.elim (fun y => e = (.exit 4) ∧ Sub [(3, .str y1), (4, .str y3), (5, i4 st1)] fr.s ∧ Heap σ0 fr.σ []) (fun y => e = .ret ∧ endW Try.prog (Try.f10.results.toList) σ0 (E_bool y) .ret fr)) y119) (fun hS hH => ⟨(aa_ hS (by kernel_rfl)), hH⟩) (fun st18 x fr h HI => ?_) fun y119 e fr h HF => ?_
        ·obtain ⟨s, σ⟩ := fr; obtain ⟨hS, hH⟩ := HI
         refine t_bk h hS hH ?_
         refine t_RN ?_
         refine t_if (fun hc78 => ?_) fun hc78 => ?_
         ·refine t_RU 3 ?_
          refine av_ fun y120 hy120 => ?_
          refine af_ fun y121 hy121 => ?_
          refine t_N ?_
          refine t_if (fun hc79 => ?_) fun hc79 => ?_
          ·refine t_RN ?_
           exact t_e fun he hS hH => he ▸ ⟨rfl, (eW hS hH (rT rN) E_bool_p)⟩
          refine t_RN ?_
          exact t_e fun he hS hH => he ▸ ⟨(aa_ hS (by kernel_rfl)), hH⟩
         exact t_e fun he hS hH => he ▸ ⟨rfl, (aa_ hS (by kernel_rfl)), hH⟩
        obtain ⟨s, σ⟩ := fr
        rcases y119 with y119 | y119
        ·have h := el_l h
         obtain ⟨rfl, hS, hH⟩ := HF
         refine t_bx h hS hH ?_
         refine t_RN ?_
         exact t_e fun he hS hH => he ▸ ⟨(aa_ hS (by kernel_rfl)), hH⟩
        have h := el_r h
        obtain ⟨rfl, HE⟩ := HF
        obtain rfl := si_1 h; exact ⟨rfl, HE⟩
       refine t_cT hc75 ?_
       refine t_RU 1 ?_
       refine aF_ fun y122 rest32 hy122 => ?_
       refine t_N ?_
       exact t_e fun he hS hH => he ▸ ⟨rfl, (aa_ hS (by kernel_rfl)), hH⟩
      refine t_N ?_
      refine t_cF ff_ne ?_
      refine t_RN ?_
      refine t_RN ?_
      refine bd_ 0 (fun y123 e fr => e = .normal ∧ Sub [(3, .str y1), (4, .str y3), (5, i4 st1), (12, i4 (y1.size : Int))] fr.s ∧ Heap σ0 fr.σ []) (fun y123 e fr h HF => ?_) fun y123 => ?_
      ·obtain ⟨s, σ⟩ := fr
       obtain ⟨rfl, hS, hH⟩ := HF
       refine t_bx h hS hH ?_
       refine t_RN ?_
       refine ay_ (fun st19 fr => Sub [(3, .str y1), (4, .str y3), (5, i4 st1), (12, i4 (y1.size : Int)), (13, i4 st19)] fr.s ∧ Heap σ0 fr.σ []) (fun y124 e fr => (Sum.elim (fun y => e = (.exit 4) ∧ Sub [(3, .str y1), (4, .str y3), (5, i4 st1)] fr.s ∧ Heap σ0 fr.σ []) (fun y => e = .ret ∧ endW Try.prog (Try.f10.results.toList) σ0 (E_bool y) .ret fr)) y124) (fun hS hH => ⟨(aa_ hS (by kernel_rfl)), hH⟩) (fun st19 x fr h HI => ?_) fun y124 e fr h HF => ?_
       ·obtain ⟨s, σ⟩ := fr; obtain ⟨hS, hH⟩ := HI
        refine t_bk h hS hH ?_
        refine t_RN ?_
        refine t_if (fun hc80 => ?_) fun hc80 => ?_
        ·refine t_RU 3 ?_
         refine av_ fun y125 hy125 => ?_
         refine af_ fun y126 hy126 => ?_
         refine t_N ?_
         refine t_if (fun hc81 => ?_) fun hc81 => ?_
         ·refine t_RN ?_
          exact t_e fun he hS hH => he ▸ ⟨rfl, (eW hS hH (rT rN) E_bool_p)⟩
         refine t_RN ?_
         exact t_e fun he hS hH => he ▸ ⟨(aa_ hS (by kernel_rfl)), hH⟩
        exact t_e fun he hS hH => he ▸ ⟨rfl, (aa_ hS (by kernel_rfl)), hH⟩
       obtain ⟨s, σ⟩ := fr
       rcases y124 with y124 | y124
       ·have h := el_l h
        obtain ⟨rfl, hS, hH⟩ := HF
        refine t_bx h hS hH ?_
        refine t_RN ?_
        exact t_e fun he hS hH => he ▸ ⟨(aa_ hS (by kernel_rfl)), hH⟩
       have h := el_r h
       obtain ⟨rfl, HE⟩ := HF
       obtain rfl := si_1 h; exact ⟨rfl, HE⟩
      refine t_cF hc75 ?_
      exact t_e fun he hS hH => ⟨rfl, (aa_ hS (by kernel_rfl)), hH⟩
     have h := el_r h
     obtain ⟨rfl, HE⟩ := HF
     obtain rfl := si_1 h; exact ⟨rfl, HE⟩
    refine t_RU 5 ?_
    refine am_ 90 (fun hc82 => ?_) fun hc82 => ?_
    ·refine t_U 3 ?_
     refine av_ fun y127 hy127 => ?_
     refine af_ fun y128 hy128 => ?_
     refine t_N ?_
     exact t_e fun he hS hH => he ▸ ⟨rfl, (aa_ hS (by kernel_rfl)), hH⟩
    refine t_N ?_
    exact t_e fun he hS hH => he ▸ ⟨rfl, (aa_ hS (by kernel_rfl)), hH⟩
   refine t_U 13 ?_
   refine am_ 77 (fun hc83 => ?_) fun hc83 => ?_
   ·refine t_U 1 ?_
    refine aF_ fun y129 rest33 hy129 => ?_
    refine t_N ?_
    refine t_if (fun hc84 => ?_) fun hc84 => ?_
    ·refine t_RN ?_
     exact t_e fun he hS hH => he ▸ ⟨rfl, (eW hS hH (rT rN) E_bool_p)⟩
    refine bd_ 0 (fun y130 e fr => e = .normal ∧ Sub [(3, .str y1), (4, .str y3), (5, i4 st1), (6, y6.1.t), (8, y8.1.t), (10, .bool y130)] fr.s ∧ Heap σ0 fr.σ []) (fun y130 e fr h HF => ?_) fun y130 => ?_
    ·obtain ⟨s, σ⟩ := fr
     obtain ⟨rfl, hS, hH⟩ := HF
     refine t_bx h hS hH ?_
     refine t_RU 6 ?_
     refine am_ 102 (fun hc85 => ?_) fun hc85 => ?_
     ·refine t_N ?_
      refine t_cT rfl ?_
      refine t_RN ?_
      exact t_e fun he hS hH => he ▸ ⟨rfl, (eW hS hH (rT rN) E_bool_p)⟩
     refine t_U 2 ?_
     refine am_ 104 (fun hc86 => ?_) fun hc86 => ?_
     ·refine t_U 1 ?_
      refine aF_ fun y131 rest34 hy131 => ?_
      refine t_U 4 ?_
      refine am_ 110 (fun hc87 => ?_) fun hc87 => ?_
      ·refine t_N ?_
       refine t_cT rfl ?_
       refine t_RN ?_
       exact t_e fun he hS hH => he ▸ ⟨rfl, (eW hS hH (rT rN) E_bool_p)⟩
      refine t_U 1 ?_
      refine aF_ fun y132 rest35 hy132 => ?_
      refine t_U 5 ?_
      refine am_ 117 (fun hc88 => ?_) fun hc88 => ?_
      ·refine t_U 3 ?_
       refine aF_ fun y133 rest36 hy133 => ?_
       refine t_U 1 ?_
       refine av_ fun y134 hy134 => ?_
       refine af_ fun y135 hy135 => ?_
       refine t_N ?_
       refine t_if (fun hc89 => ?_) fun hc89 => ?_
       ·refine t_RN ?_
        exact t_e fun he hS hH => he ▸ ⟨rfl, (eW hS hH (rT rN) E_bool_p)⟩
       refine t_RN ?_
       refine ay_ (fun st20 fr => Sub [(3, .str y1), (4, .str y3), (5, i4 st1), (6, y6.1.t), (8, y8.1.t), (11, i4 st20)] fr.s ∧ Heap σ0 fr.σ []) (fun y136 e fr => (Sum.elim (fun y => e = (.exit 2) ∧ Sub [(3, .str y1), (4, .str y3), (5, i4 st1), (8, y8.1.t)] fr.s ∧ Heap σ0 fr.σ []) (fun y => e = .ret ∧ endW Try.prog (Try.f10.results.toList) σ0 (E_bool y) .ret fr)) y136) (fun hS hH => ⟨(aa_ hS (by kernel_rfl)), hH⟩) (fun st20 x fr h HI => ?_) fun y136 e fr h HF => ?_
       ·obtain ⟨s, σ⟩ := fr; obtain ⟨hS, hH⟩ := HI
        refine t_bk h hS hH ?_
        refine t_RU 4 ?_
        refine am_ 133 (fun hc90 => ?_) fun hc90 => ?_
        ·refine t_U 2 ?_
         refine aF_ fun y137 rest37 hy137 => ?_
         refine t_N ?_
         refine t_if (fun hc91 => ?_) fun hc91 => ?_
         ·refine t_RU 3 ?_
          refine av_ fun y138 hy138 => ?_
          refine af_ fun y139 hy139 => ?_
          refine t_N ?_
          refine t_if (fun hc92 => ?_) fun hc92 => ?_
          ·refine t_RN ?_
           exact t_e fun he hS hH => he ▸ ⟨rfl, (eW hS hH (rT rN) E_bool_p)⟩
          refine t_RN ?_
          exact t_e fun he hS hH => he ▸ ⟨(aa_ hS (by kernel_rfl)), hH⟩
         exact t_e fun he hS hH => he ▸ ⟨rfl, (aa_ hS (by kernel_rfl)), hH⟩
        refine t_N ?_
        refine t_cF ff_ne ?_
        exact t_e fun he hS hH => he ▸ ⟨rfl, (aa_ hS (by kernel_rfl)), hH⟩
       obtain ⟨s, σ⟩ := fr
       rcases y136 with y136 | y136
       ·have h := el_l h
        obtain ⟨rfl, hS, hH⟩ := HF
        refine t_bx h hS hH ?_
        refine t_RU 4 ?_
        refine am_ 151 (fun hc93 => ?_) fun hc93 => ?_
        ·refine t_U 1 ?_
         refine aF_ fun y140 rest38 hy140 => ?_
         refine t_U 4 ?_
         refine am_ 157 (fun hc94 => ?_) fun hc94 => ?_
         ·refine t_N ?_
          refine t_cT rfl ?_
          refine t_RN ?_
          exact t_e fun he hS hH => he ▸ ⟨rfl, (eW hS hH (rT rN) E_bool_p)⟩
         refine t_U 3 ?_
         refine aF_ fun y141 rest39 hy141 => ?_
         refine t_U 1 ?_
         refine av_ fun y142 hy142 => ?_
         refine af_ fun y143 hy143 => ?_
         refine t_N ?_
         refine t_if (fun hc95 => ?_) fun hc95 => ?_
         ·refine t_RN ?_
          exact t_e fun he hS hH => he ▸ ⟨rfl, (eW hS hH (rT rN) E_bool_p)⟩
         refine t_RN ?_
         refine t_RN ?_
         refine bd_ 0 (fun y144 e fr => e = .normal ∧ Sub [(3, .str y1), (4, .str y3), (5, i4 st1), (12, i4 y144)] fr.s ∧ Heap σ0 fr.σ []) (fun y144 e fr h HF => ?_) fun y144 => ?_
         ·obtain ⟨s, σ⟩ := fr
          obtain ⟨rfl, hS, hH⟩ := HF
          refine t_bx h hS hH ?_
          refine t_RN ?_
          refine ay_ (fun st21 fr => Sub [(3, .str y1), (4, .str y3), (5, i4 st1), (12, i4 y144), (13, i4 st21)] fr.s ∧ Heap σ0 fr.σ []) (fun y145 e fr => (Sum.elim (fun y => e = (.exit 4) ∧ Sub [(3, .str y1), (4, .str y3), (5, i4 st1)] fr.s ∧ Heap σ0 fr.σ []) (fun y => e = .ret ∧ endW Try.prog (Try.f10.results.toList) σ0 (E_bool y) .ret fr)) y145) (fun hS hH => ⟨(aa_ hS (by kernel_rfl)), hH⟩) (fun st21 x fr h HI => ?_) fun y145 e fr h HF => ?_
          ·obtain ⟨s, σ⟩ := fr; obtain ⟨hS, hH⟩ := HI
           refine t_bk h hS hH ?_
           refine t_RN ?_
           refine t_if (fun hc96 => ?_) fun hc96 => ?_
           ·refine t_RU 3 ?_
            refine av_ fun y146 hy146 => ?_
            refine af_ fun y147 hy147 => ?_
            refine t_N ?_
            refine t_if (fun hc97 => ?_) fun hc97 => ?_
            ·refine t_RN ?_
             exact t_e fun he hS hH => he ▸ ⟨rfl, (eW hS hH (rT rN) E_bool_p)⟩
            refine t_RN ?_
            exact t_e fun he hS hH => he ▸ ⟨(aa_ hS (by kernel_rfl)), hH⟩
           exact t_e fun he hS hH => he ▸ ⟨rfl, (aa_ hS (by kernel_rfl)), hH⟩
          obtain ⟨s, σ⟩ := fr
          rcases y145 with y145 | y145
          ·have h := el_l h
           obtain ⟨rfl, hS, hH⟩ := HF
           refine t_bx h hS hH ?_
           refine t_RN ?_
           exact t_e fun he hS hH => he ▸ ⟨(aa_ hS (by kernel_rfl)), hH⟩
          have h := el_r h
          obtain ⟨rfl, HE⟩ := HF
          obtain rfl := si_1 h; exact ⟨rfl, HE⟩
         refine t_cT hc93 ?_
         refine t_RU 1 ?_
         refine aF_ fun y148 rest40 hy148 => ?_
         refine t_N ?_
         exact t_e fun he hS hH => he ▸ ⟨rfl, (aa_ hS (by kernel_rfl)), hH⟩
        refine t_N ?_
        refine t_cF ff_ne ?_
        refine t_RN ?_
        refine t_RN ?_
        refine bd_ 0 (fun y149 e fr => e = .normal ∧ Sub [(3, .str y1), (4, .str y3), (5, i4 st1), (12, i4 (y1.size : Int))] fr.s ∧ Heap σ0 fr.σ []) (fun y149 e fr h HF => ?_) fun y149 => ?_
        ·obtain ⟨s, σ⟩ := fr
         obtain ⟨rfl, hS, hH⟩ := HF
         refine t_bx h hS hH ?_
         refine t_RN ?_
         refine ay_ (fun st22 fr => Sub [(3, .str y1), (4, .str y3), (5, i4 st1), (12, i4 (y1.size : Int)), (13, i4 st22)] fr.s ∧ Heap σ0 fr.σ []) (fun y150 e fr => (Sum.elim (fun y => e = (.exit 4) ∧ Sub [(3, .str y1), (4, .str y3), (5, i4 st1)] fr.s ∧ Heap σ0 fr.σ []) (fun y => e = .ret ∧ endW Try.prog (Try.f10.results.toList) σ0 (E_bool y) .ret fr)) y150) (fun hS hH => ⟨(aa_ hS (by kernel_rfl)), hH⟩) (fun st22 x fr h HI => ?_) fun y150 e fr h HF => ?_
         ·obtain ⟨s, σ⟩ := fr; obtain ⟨hS, hH⟩ := HI
          refine t_bk h hS hH ?_
          refine t_RN ?_
          refine t_if (fun hc98 => ?_) fun hc98 => ?_
          ·refine t_RU 3 ?_
           refine av_ fun y151 hy151 => ?_
           refine af_ fun y152 hy152 => ?_
           refine t_N ?_
           refine t_if (fun hc99 => ?_) fun hc99 => ?_
           ·refine t_RN ?_
            exact t_e fun he hS hH => he ▸ ⟨rfl, (eW hS hH (rT rN) E_bool_p)⟩
           refine t_RN ?_
           exact t_e fun he hS hH => he ▸ ⟨(aa_ hS (by kernel_rfl)), hH⟩
          exact t_e fun he hS hH => he ▸ ⟨rfl, (aa_ hS (by kernel_rfl)), hH⟩
         obtain ⟨s, σ⟩ := fr
         rcases y150 with y150 | y150
         ·have h := el_l h
          obtain ⟨rfl, hS, hH⟩ := HF
          refine t_bx h hS hH ?_
          refine t_RN ?_
          exact t_e fun he hS hH => he ▸ ⟨(aa_ hS (by kernel_rfl)), hH⟩
         have h := el_r h
         obtain ⟨rfl, HE⟩ := HF
         obtain rfl := si_1 h; exact ⟨rfl, HE⟩
        refine t_cF hc93 ?_
        exact t_e fun he hS hH => ⟨rfl, (aa_ hS (by kernel_rfl)), hH⟩
       have h := el_r h
       obtain ⟨rfl, HE⟩ := HF
       obtain rfl := si_1 h; exact ⟨rfl, HE⟩
      refine t_N ?_
      refine t_cF ff_ne ?_
      refine t_RN ?_
      refine ay_ (fun st23 fr => Sub [(3, .str y1), (4, .str y3), (5, i4 st1), (6, y6.1.t), (8, y8.1.t), (11, i4 st23)] fr.s ∧ Heap σ0 fr.σ []) (fun y153 e fr => (Sum.elim (fun y => e = (.exit 2) ∧ Sub [(3, .str y1), (4, .str y3), (5, i4 st1), (8, y8.1.t)] fr.s ∧ Heap σ0 fr.σ []) (fun y => e = .ret ∧ endW Try.prog (Try.f10.results.toList) σ0 (E_bool y) .ret fr)) y153) (fun hS hH => ⟨(aa_ hS (by kernel_rfl)), hH⟩) (fun st23 x fr h HI => ?_) fun y153 e fr h HF => ?_
      ·obtain ⟨s, σ⟩ := fr; obtain ⟨hS, hH⟩ := HI
       refine t_bk h hS hH ?_
       refine t_RU 4 ?_
       refine am_ 133 (fun hc100 => ?_) fun hc100 => ?_
       ·refine t_U 2 ?_
        refine aF_ fun y154 rest41 hy154 => ?_
        refine t_N ?_
        refine t_if (fun hc101 => ?_) fun hc101 => ?_
        ·refine t_RU 3 ?_
         refine av_ fun y155 hy155 => ?_
         refine af_ fun y156 hy156 => ?_
         refine t_N ?_
         refine t_if (fun hc102 => ?_) fun hc102 => ?_
         ·refine t_RN ?_
          exact t_e fun he hS hH => he ▸ ⟨rfl, (eW hS hH (rT rN) E_bool_p)⟩
         refine t_RN ?_
         exact t_e fun he hS hH => he ▸ ⟨(aa_ hS (by kernel_rfl)), hH⟩
        exact t_e fun he hS hH => he ▸ ⟨rfl, (aa_ hS (by kernel_rfl)), hH⟩
       refine t_N ?_
       refine t_cF ff_ne ?_
       exact t_e fun he hS hH => he ▸ ⟨rfl, (aa_ hS (by kernel_rfl)), hH⟩
      obtain ⟨s, σ⟩ := fr
      rcases y153 with y153 | y153
      ·have h := el_l h
       obtain ⟨rfl, hS, hH⟩ := HF
       refine t_bx h hS hH ?_
       refine t_RU 4 ?_
       refine am_ 151 (fun hc103 => ?_) fun hc103 => ?_
       ·refine t_U 1 ?_
        refine aF_ fun y157 rest42 hy157 => ?_
        refine t_U 4 ?_
        refine am_ 157 (fun hc104 => ?_) fun hc104 => ?_
        ·refine t_N ?_
         refine t_cT rfl ?_
         refine t_RN ?_
         exact t_e fun he hS hH => he ▸ ⟨rfl, (eW hS hH (rT rN) E_bool_p)⟩
        refine t_U 3 ?_
        refine aF_ fun y158 rest43 hy158 => ?_
        refine t_U 1 ?_
        refine av_ fun y159 hy159 => ?_
        refine af_ fun y160 hy160 => ?_
        refine t_N ?_
        refine t_if (fun hc105 => ?_) fun hc105 => ?_
        ·refine t_RN ?_
         exact t_e fun he hS hH => he ▸ ⟨rfl, (eW hS hH (rT rN) E_bool_p)⟩
        refine t_RN ?_
        refine t_RN ?_
        refine bd_ 0 (fun y161 e fr => e = .normal ∧ Sub [(3, .str y1), (4, .str y3), (5, i4 st1), (12, i4 y161)] fr.s ∧ Heap σ0 fr.σ []) (fun y161 e fr h HF => ?_) fun y161 => ?_
        ·obtain ⟨s, σ⟩ := fr
         obtain ⟨rfl, hS, hH⟩ := HF
         refine t_bx h hS hH ?_
         refine t_RN ?_
         refine ay_ (fun st24 fr => Sub [(3, .str y1), (4, .str y3), (5, i4 st1), (12, i4 y161), (13, i4 st24)] fr.s ∧ Heap σ0 fr.σ []) (fun y162 e fr => (Sum.elim (fun y => e = (.exit 4) ∧ Sub [(3, .str y1), (4, .str y3), (5, i4 st1)] fr.s ∧ Heap σ0 fr.σ []) (fun y => e = .ret ∧ endW Try.prog (Try.f10.results.toList) σ0 (E_bool y) .ret fr)) y162) (fun hS hH => ⟨(aa_ hS (by kernel_rfl)), hH⟩) (fun st24 x fr h HI => ?_) fun y162 e fr h HF => ?_
         ·obtain ⟨s, σ⟩ := fr; obtain ⟨hS, hH⟩ := HI
          refine t_bk h hS hH ?_
          refine t_RN ?_
          refine t_if (fun hc106 => ?_) fun hc106 => ?_
          ·refine t_RU 3 ?_
           refine av_ fun y163 hy163 => ?_
           refine af_ fun y164 hy164 => ?_
           refine t_N ?_
           refine t_if (fun hc107 => ?_) fun hc107 => ?_
           ·refine t_RN ?_
            exact t_e fun he hS hH => he ▸ ⟨rfl, (eW hS hH (rT rN) E_bool_p)⟩
           refine t_RN ?_
           exact t_e fun he hS hH => he ▸ ⟨(aa_ hS (by kernel_rfl)), hH⟩
          exact t_e fun he hS hH => he ▸ ⟨rfl, (aa_ hS (by kernel_rfl)), hH⟩
         obtain ⟨s, σ⟩ := fr
         rcases y162 with y162 | y162
         ·have h := el_l h
          obtain ⟨rfl, hS, hH⟩ := HF
          refine t_bx h hS hH ?_
          refine t_RN ?_
          exact t_e fun he hS hH => he ▸ ⟨(aa_ hS (by kernel_rfl)), hH⟩
         have h := el_r h
         obtain ⟨rfl, HE⟩ := HF
         obtain rfl := si_1 h; exact ⟨rfl, HE⟩
        refine t_cT hc103 ?_
        refine t_RU 1 ?_
        refine aF_ fun y165 rest44 hy165 => ?_
        refine t_N ?_
        exact t_e fun he hS hH => he ▸ ⟨rfl, (aa_ hS (by kernel_rfl)), hH⟩
       refine t_N ?_
       refine t_cF ff_ne ?_
       refine t_RN ?_
       refine t_RN ?_
       refine bd_ 0 (fun y166 e fr => e = .normal ∧ Sub [(3, .str y1), (4, .str y3), (5, i4 st1), (12, i4 (y1.size : Int))] fr.s ∧ Heap σ0 fr.σ []) (fun y166 e fr h HF => ?_) fun y166 => ?_
       ·obtain ⟨s, σ⟩ := fr
        obtain ⟨rfl, hS, hH⟩ := HF
        refine t_bx h hS hH ?_
        refine t_RN ?_
        refine ay_ (fun st25 fr => Sub [(3, .str y1), (4, .str y3), (5, i4 st1), (12, i4 (y1.size : Int)), (13, i4 st25)] fr.s ∧ Heap σ0 fr.σ []) (fun y167 e fr => (Sum.elim (fun y => e = (.exit 4) ∧ Sub [(3, .str y1), (4, .str y3), (5, i4 st1)] fr.s ∧ Heap σ0 fr.σ []) (fun y => e = .ret ∧ endW Try.prog (Try.f10.results.toList) σ0 (E_bool y) .ret fr)) y167) (fun hS hH => ⟨(aa_ hS (by kernel_rfl)), hH⟩) (fun st25 x fr h HI => ?_) fun y167 e fr h HF => ?_
        ·obtain ⟨s, σ⟩ := fr; obtain ⟨hS, hH⟩ := HI
         refine t_bk h hS hH ?_
         refine t_RN ?_
         refine t_if (fun hc108 => ?_) fun hc108 => ?_
         ·refine t_RU 3 ?_
          refine av_ fun y168 hy168 => ?_
          refine af_ fun y169 hy169 => ?_
          refine t_N ?_
          refine t_if (fun hc109 => ?_) fun hc109 => ?_
          ·refine t_RN ?_
           exact t_e fun he hS hH => he ▸ ⟨rfl, (eW hS hH (rT rN) E_bool_p)⟩
          refine t_RN ?_
          exact t_e fun he hS hH => he ▸ ⟨(aa_ hS (by kernel_rfl)), hH⟩
         exact t_e fun he hS hH => he ▸ ⟨rfl, (aa_ hS (by kernel_rfl)), hH⟩
        obtain ⟨s, σ⟩ := fr
        rcases y167 with y167 | y167
        ·have h := el_l h
         obtain ⟨rfl, hS, hH⟩ := HF
         refine t_bx h hS hH ?_
         refine t_RN ?_
         exact t_e fun he hS hH => he ▸ ⟨(aa_ hS (by kernel_rfl)), hH⟩
        have h := el_r h
        obtain ⟨rfl, HE⟩ := HF
        obtain rfl := si_1 h; exact ⟨rfl, HE⟩
       refine t_cF hc103 ?_
       exact t_e fun he hS hH => ⟨rfl, (aa_ hS (by kernel_rfl)), hH⟩
      have h := el_r h
      obtain ⟨rfl, HE⟩ := HF
      obtain rfl := si_1 h; exact ⟨rfl, HE⟩
     refine t_N ?_
     refine t_cF ff_ne ?_
     refine t_RN ?_
     refine ay_ (fun st26 fr => Sub [(3, .str y1), (4, .str y3), (5, i4 st1), (6, y6.1.t), (8, y8.1.t), (11, i4 st26)] fr.s ∧ Heap σ0 fr.σ []) (fun y170 e fr => (Sum.elim (fun y => e = (.exit 2) ∧ Sub [(3, .str y1), (4, .str y3), (5, i4 st1), (8, y8.1.t)] fr.s ∧ Heap σ0 fr.σ []) (fun y => e = .ret ∧ endW Try.prog (Try.f10.results.toList) σ0 (E_bool y) .ret fr)) y170) (fun hS hH => ⟨(aa_ hS (by kernel_rfl)), hH⟩) (fun st26 x fr h HI => ?_) fun y170 e fr h HF => ?_
     ·obtain ⟨s, σ⟩ := fr; obtain ⟨hS, hH⟩ := HI
      refine t_bk h hS hH ?_
      refine t_RU 4 ?_
      refine am_ 133 (fun hc110 => ?_) fun hc110 => ?_
      ·refine t_U 2 ?_
       refine aF_ fun y171 rest45 hy171 => ?_
       refine t_N ?_
       refine t_if (fun hc111 => ?_) fun hc111 => ?_
       ·refine t_RU 3 ?_
        refine av_ fun y172 hy172 => ?_
        refine af_ fun y173 hy173 => ?_
        refine t_N ?_
        refine t_if (fun hc112 => ?_) fun hc112 => ?_
        ·refine t_RN ?_
         exact t_e fun he hS hH => he ▸ ⟨rfl, (eW hS hH (rT rN) E_bool_p)⟩
        refine t_RN ?_
        exact t_e fun he hS hH => he ▸ ⟨(aa_ hS (by kernel_rfl)), hH⟩
       exact t_e fun he hS hH => he ▸ ⟨rfl, (aa_ hS (by kernel_rfl)), hH⟩
      refine t_N ?_
      refine t_cF ff_ne ?_
      exact t_e fun he hS hH => he ▸ ⟨rfl, (aa_ hS (by kernel_rfl)), hH⟩
     obtain ⟨s, σ⟩ := fr
     rcases y170 with y170 | y170
     ·have h := el_l h
      obtain ⟨rfl, hS, hH⟩ := HF
      refine t_bx h hS hH ?_
      refine t_RU 4 ?_
      refine am_ 151 (fun hc113 => ?_) fun hc113 => ?_
      ·refine t_U 1 ?_
       refine aF_ fun y174 rest46 hy174 => ?_
       refine t_U 4 ?_
       refine am_ 157 (fun hc114 => ?_) fun hc114 => ?_
       ·refine t_N ?_
        refine t_cT rfl ?_
        refine t_RN ?_
        exact t_e fun he hS hH => he ▸ ⟨rfl, (eW hS hH (rT rN) E_bool_p)⟩
       refine t_U 3 ?_
       refine aF_ fun y175 rest47 hy175 => ?_
       refine t_U 1 ?_
       refine av_ fun y176 hy176 => ?_
       refine af_ fun y177 hy177 => ?_
       refine t_N ?_
       refine t_if (fun hc115 => ?_) fun hc115 => ?_
       ·refine t_RN ?_
        exact t_e fun he hS hH => he ▸ ⟨rfl, (eW hS hH (rT rN) E_bool_p)⟩
       refine t_RN ?_
       refine t_RN ?_
       refine bd_ 0 (fun y178 e fr => e = .normal ∧ Sub [(3, .str y1), (4, .str y3), (5, i4 st1), (12, i4 y178)] fr.s ∧ Heap σ0 fr.σ []) (fun y178 e fr h HF => ?_) fun y178 => ?_
       ·obtain ⟨s, σ⟩ := fr
        obtain ⟨rfl, hS, hH⟩ := HF
        refine t_bx h hS hH ?_
        refine t_RN ?_
        refine ay_ (fun st27 fr => Sub [(3, .str y1), (4, .str y3), (5, i4 st1), (12, i4 y178), (13, i4 st27)] fr.s ∧ Heap σ0 fr.σ []) (fun y179 e fr => (Sum.elim (fun y => e = (.exit 4) ∧ Sub [(3, .str y1), (4, .str y3), (5, i4 st1)] fr.s ∧ Heap σ0 fr.σ []) (fun y => e = .ret ∧ endW Try.prog (Try.f10.results.toList) σ0 (E_bool y) .ret fr)) y179) (fun hS hH => ⟨(aa_ hS (by kernel_rfl)), hH⟩) (fun st27 x fr h HI => ?_) fun y179 e fr h HF => ?_
        ·obtain ⟨s, σ⟩ := fr; obtain ⟨hS, hH⟩ := HI
         refine t_bk h hS hH ?_
         refine t_RN ?_
         refine t_if (fun hc116 => ?_) fun hc116 => ?_
         ·refine t_RU 3 ?_
          refine av_ fun y180 hy180 => ?_
          refine af_ fun y181 hy181 => ?_
          refine t_N ?_
          refine t_if (fun hc117 => ?_) fun hc117 => ?_
          ·refine t_RN ?_
           exact t_e fun he hS hH => he ▸ ⟨rfl, (eW hS hH (rT rN) E_bool_p)⟩
          refine t_RN ?_
          exact t_e fun he hS hH => he ▸ ⟨(aa_ hS (by kernel_rfl)), hH⟩
         exact t_e fun he hS hH => he ▸ ⟨rfl, (aa_ hS (by kernel_rfl)), hH⟩
        obtain ⟨s, σ⟩ := fr
        rcases y179 with y179 | y179
        ·have h := el_l h
         obtain ⟨rfl, hS, hH⟩ := HF
         refine t_bx h hS hH ?_
         refine t_RN ?_
         exact t_e fun he hS hH => he ▸ ⟨(aa_ hS (by kernel_rfl)), hH⟩
        have h := el_r h
        obtain ⟨rfl, HE⟩ := HF
        obtain rfl := si_1 h; exact ⟨rfl, HE⟩
       refine t_cT hc113 ?_
       refine t_RU 1 ?_
       refine aF_ fun y182 rest48 hy182 => ?_
       refine t_N ?_
       exact t_e fun he hS hH => he ▸ ⟨rfl, (aa_ hS (by kernel_rfl)), hH⟩
      refine t_N ?_
      refine t_cF ff_ne ?_
      refine t_RN ?_
      refine t_RN ?_
      refine bd_ 0 (fun y183 e fr => e = .normal ∧ Sub [(3, .str y1), (4, .str y3), (5, i4 st1), (12, i4 (y1.size : Int))] fr.s ∧ Heap σ0 fr.σ []) (fun y183 e fr h HF => ?_) fun y183 => ?_
      ·obtain ⟨s, σ⟩ := fr
       obtain ⟨rfl, hS, hH⟩ := HF
       refine t_bx h hS hH ?_
       refine t_RN ?_
       refine ay_ (fun st28 fr => Sub [(3, .str y1), (4, .str y3), (5, i4 st1), (12, i4 (y1.size : Int)), (13, i4 st28)] fr.s ∧ Heap σ0 fr.σ []) (fun y184 e fr => (Sum.elim (fun y => e = (.exit 4) ∧ Sub [(3, .str y1), (4, .str y3), (5, i4 st1)] fr.s ∧ Heap σ0 fr.σ []) (fun y => e = .ret ∧ endW Try.prog (Try.f10.results.toList) σ0 (E_bool y) .ret fr)) y184) (fun hS hH => ⟨(aa_ hS (by kernel_rfl)), hH⟩) (fun st28 x fr h HI => ?_) fun y184 e fr h HF => ?_
       ·obtain ⟨s, σ⟩ := fr; obtain ⟨hS, hH⟩ := HI
        refine t_bk h hS hH ?_
        refine t_RN ?_
        refine t_if (fun hc118 => ?_) fun hc118 => ?_
        ·refine t_RU 3 ?_
         refine av_ fun y185 hy185 => ?_
         refine af_ fun y186 hy186 => ?_
         refine t_N ?_
         refine t_if (fun hc119 => ?_) fun hc119 => ?_
         ·refine t_RN ?_
          exact t_e fun he hS hH => he ▸ ⟨rfl, (eW hS hH (rT rN) E_bool_p)⟩
         refine t_RN ?_
         exact t_e fun he hS hH => he ▸ ⟨(aa_ hS (by kernel_rfl)), hH⟩
        exact t_e fun he hS hH => he ▸ ⟨rfl, (aa_ hS (by kernel_rfl)), hH⟩
       obtain ⟨s, σ⟩ := fr
       rcases y184 with y184 | y184
       ·have h := el_l h
        obtain ⟨rfl, hS, hH⟩ := HF
        refine t_bx h hS hH ?_
        refine t_RN ?_
        exact t_e fun he hS hH => he ▸ ⟨(aa_ hS (by kernel_rfl)), hH⟩
       have h := el_r h
       obtain ⟨rfl, HE⟩ := HF
       obtain rfl := si_1 h; exact ⟨rfl, HE⟩
      refine t_cF hc113 ?_
      exact t_e fun he hS hH => ⟨rfl, (aa_ hS (by kernel_rfl)), hH⟩
     have h := el_r h
     obtain ⟨rfl, HE⟩ := HF
     obtain rfl := si_1 h; exact ⟨rfl, HE⟩
    refine t_RU 5 ?_
    refine am_ 90 (fun hc120 => ?_) fun hc120 => ?_
    ·refine t_U 3 ?_
     refine av_ fun y187 hy187 => ?_
     refine af_ fun y188 hy188 => ?_
     refine t_N ?_
     exact t_e fun he hS hH => he ▸ ⟨rfl, (aa_ hS (by kernel_rfl)), hH⟩
    refine t_N ?_
    exact t_e fun he hS hH => he ▸ ⟨rfl, (aa_ hS (by kernel_rfl)), hH⟩
   refine t_N ?_
   refine t_cF ff_ne ?_
   refine bd_ 0 (fun y189 e fr => e = .normal ∧ Sub [(3, .str y1), (4, .str y3), (5, i4 st1), (6, y6.1.t), (8, y8.1.t), (10, .bool y189)] fr.s ∧ Heap σ0 fr.σ []) (fun y189 e fr h HF => ?_) fun y189 => ?_
   ·obtain ⟨s, σ⟩ := fr
    obtain ⟨rfl, hS, hH⟩ := HF
    refine t_bx h hS hH ?_
    refine t_RU 6 ?_
    refine am_ 102 (fun hc121 => ?_) fun hc121 => ?_
    ·refine t_N ?_
     refine t_cT rfl ?_
     refine t_RN ?_
     exact t_e fun he hS hH => he ▸ ⟨rfl, (eW hS hH (rT rN) E_bool_p)⟩
    refine t_U 2 ?_
    refine am_ 104 (fun hc122 => ?_) fun hc122 => ?_
    ·refine t_U 1 ?_
     refine aF_ fun y190 rest49 hy190 => ?_
     refine t_U 4 ?_
     refine am_ 110 (fun hc123 => ?_) fun hc123 => ?_
     ·refine t_N ?_
      refine t_cT rfl ?_
      refine t_RN ?_
      exact t_e fun he hS hH => he ▸ ⟨rfl, (eW hS hH (rT rN) E_bool_p)⟩
     refine t_U 1 ?_
     refine aF_ fun y191 rest50 hy191 => ?_
     refine t_U 5 ?_
     refine am_ 117 (fun hc124 => ?_) fun hc124 => ?_
     ·refine t_U 3 ?_
      refine aF_ fun y192 rest51 hy192 => ?_
      refine t_U 1 ?_
      refine av_ fun y193 hy193 => ?_
      refine af_ fun y194 hy194 => ?_
      refine t_N ?_
      refine t_if (fun hc125 => ?_) fun hc125 => ?_
      ·refine t_RN ?_
       exact t_e fun he hS hH => he ▸ ⟨rfl, (eW hS hH (rT rN) E_bool_p)⟩
      refine t_RN ?_
      refine ay_ (fun st29 fr => Sub [(3, .str y1), (4, .str y3), (5, i4 st1), (6, y6.1.t), (8, y8.1.t), (11, i4 st29)] fr.s ∧ Heap σ0 fr.σ []) (fun y195 e fr => (Sum.elim (fun y => e = (.exit 2) ∧ Sub [(3, .str y1), (4, .str y3), (5, i4 st1), (8, y8.1.t)] fr.s ∧ Heap σ0 fr.σ []) (fun y => e = .ret ∧ endW Try.prog (Try.f10.results.toList) σ0 (E_bool y) .ret fr)) y195) (fun hS hH => ⟨(aa_ hS (by kernel_rfl)), hH⟩) (fun st29 x fr h HI => ?_) fun y195 e fr h HF => ?_
      ·obtain ⟨s, σ⟩ := fr; obtain ⟨hS, hH⟩ := HI
       refine t_bk h hS hH ?_
       refine t_RU 4 ?_
       refine am_ 133 (fun hc126 => ?_) fun hc126 => ?_
       ·refine t_U 2 ?_
        refine aF_ fun y196 rest52 hy196 => ?_
        refine t_N ?_
        refine t_if (fun hc127 => ?_) fun hc127 => ?_
        ·refine t_RU 3 ?_
         refine av_ fun y197 hy197 => ?_
         refine af_ fun y198 hy198 => ?_
         refine t_N ?_
         refine t_if (fun hc128 => ?_) fun hc128 => ?_
         ·refine t_RN ?_
          exact t_e fun he hS hH => he ▸ ⟨rfl, (eW hS hH (rT rN) E_bool_p)⟩
         refine t_RN ?_
         exact t_e fun he hS hH => he ▸ ⟨(aa_ hS (by kernel_rfl)), hH⟩
        exact t_e fun he hS hH => he ▸ ⟨rfl, (aa_ hS (by kernel_rfl)), hH⟩
       refine t_N ?_
       refine t_cF ff_ne ?_
       exact t_e fun he hS hH => he ▸ ⟨rfl, (aa_ hS (by kernel_rfl)), hH⟩
      obtain ⟨s, σ⟩ := fr
      rcases y195 with y195 | y195
      ·have h := el_l h
       obtain ⟨rfl, hS, hH⟩ := HF
       refine t_bx h hS hH ?_
       refine t_RU 4 ?_
       refine am_ 151 (fun hc129 => ?_) fun hc129 => ?_
       ·refine t_U 1 ?_
        refine aF_ fun y199 rest53 hy199 => ?_
        refine t_U 4 ?_
        refine am_ 157 (fun hc130 => ?_) fun hc130 => ?_
        ·refine t_N ?_
         refine t_cT rfl ?_
         refine t_RN ?_
         exact t_e fun he hS hH => he ▸ ⟨rfl, (eW hS hH (rT rN) E_bool_p)⟩
        refine t_U 3 ?_
        refine aF_ fun y200 rest54 hy200 => ?_
        refine t_U 1 ?_
        refine av_ fun y201 hy201 => ?_
        refine af_ fun y202 hy202 => ?_
        refine t_N ?_
        refine t_if (fun hc131 => ?_) fun hc131 => ?_
        ·refine t_RN ?_
         exact t_e fun he hS hH => he ▸ ⟨rfl, (eW hS hH (rT rN) E_bool_p)⟩
        refine t_RN ?_
        refine t_RN ?_
        refine bd_ 0 (fun y203 e fr => e = .normal ∧ Sub [(3, .str y1), (4, .str y3), (5, i4 st1), (12, i4 y203)] fr.s ∧ Heap σ0 fr.σ []) (fun y203 e fr h HF => ?_) fun y203 => ?_
        ·obtain ⟨s, σ⟩ := fr
         obtain ⟨rfl, hS, hH⟩ := HF
         refine t_bx h hS hH ?_
         refine t_RN ?_
         refine ay_ (fun st30 fr => Sub [(3, .str y1), (4, .str y3), (5, i4 st1), (12, i4 y203), (13, i4 st30)] fr.s ∧ Heap σ0 fr.σ []) (fun y204 e fr => (Sum.elim (fun y => e = (.exit 4) ∧ Sub [(3, .str y1), (4, .str y3), (5, i4 st1)] fr.s ∧ Heap σ0 fr.σ []) (fun y => e = .ret ∧ endW Try.prog (Try.f10.results.toList) σ0 (E_bool y) .ret fr)) y204) (fun hS hH => ⟨(aa_ hS (by kernel_rfl)), hH⟩) (fun st30 x fr h HI => ?_) fun y204 e fr h HF => ?_
         ·obtain ⟨s, σ⟩ := fr; obtain ⟨hS, hH⟩ := HI
          refine t_bk h hS hH ?_
          refine t_RN ?_
          refine t_if (fun hc132 => ?_) fun hc132 => ?_
          ·refine t_RU 3 ?_
           refine av_ fun y205 hy205 => ?_
           refine af_ fun y206 hy206 => ?_
           refine t_N ?_
           refine t_if (fun hc133 => ?_) fun hc133 => ?_
           ·refine t_RN ?_
            exact t_e fun he hS hH => he ▸ ⟨rfl, (eW hS hH (rT rN) E_bool_p)⟩
           refine t_RN ?_
           exact t_e fun he hS hH => he ▸ ⟨(aa_ hS (by kernel_rfl)), hH⟩
          exact t_e fun he hS hH => he ▸ ⟨rfl, (aa_ hS (by kernel_rfl)), hH⟩
         obtain ⟨s, σ⟩ := fr
         rcases y204 with y204 | y204
         ·have h := el_l h
          obtain ⟨rfl, hS, hH⟩ := HF
          refine t_bx h hS hH ?_
          refine t_RN ?_
          exact t_e fun he hS hH => he ▸ ⟨(aa_ hS (by kernel_rfl)), hH⟩
         have h := el_r h
         obtain ⟨rfl, HE⟩ := HF
         obtain rfl := si_1 h; exact ⟨rfl, HE⟩
        refine t_cT hc129 ?_
        refine t_RU 1 ?_
        refine aF_ fun y207 rest55 hy207 => ?_
        refine t_N ?_
        exact t_e fun he hS hH => he ▸ ⟨rfl, (aa_ hS (by kernel_rfl)), hH⟩
       refine t_N ?_
       refine t_cF ff_ne ?_
       refine t_RN ?_
       refine t_RN ?_
       refine bd_ 0 (fun y208 e fr => e = .normal ∧ Sub [(3, .str y1), (4, .str y3), (5, i4 st1), (12, i4 (y1.size : Int))] fr.s ∧ Heap σ0 fr.σ []) (fun y208 e fr h HF => ?_) fun y208 => ?_
       ·obtain ⟨s, σ⟩ := fr
        obtain ⟨rfl, hS, hH⟩ := HF
        refine t_bx h hS hH ?_
        refine t_RN ?_
        refine ay_ (fun st31 fr => Sub [(3, .str y1), (4, .str y3), (5, i4 st1), (12, i4 (y1.size : Int)), (13, i4 st31)] fr.s ∧ Heap σ0 fr.σ []) (fun y209 e fr => (Sum.elim (fun y => e = (.exit 4) ∧ Sub [(3, .str y1), (4, .str y3), (5, i4 st1)] fr.s ∧ Heap σ0 fr.σ []) (fun y => e = .ret ∧ endW Try.prog (Try.f10.results.toList) σ0 (E_bool y) .ret fr)) y209) (fun hS hH => ⟨(aa_ hS (by kernel_rfl)), hH⟩) (fun st31 x fr h HI => ?_) fun y209 e fr h HF => ?_
        ·obtain ⟨s, σ⟩ := fr; obtain ⟨hS, hH⟩ := HI
         refine t_bk h hS hH ?_
         refine t_RN ?_
         refine t_if (fun hc134 => ?_) fun hc134 => ?_
         ·refine t_RU 3 ?_
          refine av_ fun y210 hy210 => ?_
          refine af_ fun y211 hy211 => ?_
          refine t_N ?_
          refine t_if (fun hc135 => ?_) fun hc135 => ?_
          ·refine t_RN ?_
           exact t_e fun he hS hH => he ▸ ⟨rfl, (eW hS hH (rT rN) E_bool_p)⟩
          refine t_RN ?_
          exact t_e fun he hS hH => he ▸ ⟨(aa_ hS (by kernel_rfl)), hH⟩
         exact t_e fun he hS hH => he ▸ ⟨rfl, (aa_ hS (by kernel_rfl)), hH⟩
        obtain ⟨s, σ⟩ := fr
        rcases y209 with y209 | y209
        ·have h := el_l h
         obtain ⟨rfl, hS, hH⟩ := HF
         refine t_bx h hS hH ?_
         refine t_RN ?_
         exact t_e fun he hS hH => he ▸ ⟨(aa_ hS (by kernel_rfl)), hH⟩
        have h := el_r h
        obtain ⟨rfl, HE⟩ := HF
        obtain rfl := si_1 h; exact ⟨rfl, HE⟩
       refine t_cF hc129 ?_
       exact t_e fun he hS hH => ⟨rfl, (aa_ hS (by kernel_rfl)), hH⟩
      have h := el_r h
      obtain ⟨rfl, HE⟩ := HF
      obtain rfl := si_1 h; exact ⟨rfl, HE⟩
     refine t_N ?_
     refine t_cF ff_ne ?_
     refine t_RN ?_
     refine ay_ (fun st32 fr => Sub [(3, .str y1), (4, .str y3), (5, i4 st1), (6, y6.1.t), (8, y8.1.t), (11, i4 st32)] fr.s ∧ Heap σ0 fr.σ []) (fun y212 e fr => (Sum.elim (fun y => e = (.exit 2) ∧ Sub [(3, .str y1), (4, .str y3), (5, i4 st1), (8, y8.1.t)] fr.s ∧ Heap σ0 fr.σ []) (fun y => e = .ret ∧ endW Try.prog (Try.f10.results.toList) σ0 (E_bool y) .ret fr)) y212) (fun hS hH => ⟨(aa_ hS (by kernel_rfl)), hH⟩) (fun st32 x fr h HI => ?_) fun y212 e fr h HF => ?_
     ·obtain ⟨s, σ⟩ := fr; obtain ⟨hS, hH⟩ := HI
      refine t_bk h hS hH ?_
      refine t_RU 4 ?_
      refine am_ 133 (fun hc136 => ?_) fun hc136 => ?_
      ·refine t_U 2 ?_
       refine aF_ fun y213 rest56 hy213 => ?_
       refine t_N ?_
       refine t_if (fun hc137 => ?_) fun hc137 => ?_
       ·refine t_RU 3 ?_
        refine av_ fun y214 hy214 => ?_
        refine af_ fun y215 hy215 => ?_
        refine t_N ?_
        refine t_if (fun hc138 => ?_) fun hc138 => ?_
        ·refine t_RN ?_
         exact t_e fun he hS hH => he ▸ ⟨rfl, (eW hS hH (rT rN) E_bool_p)⟩
        refine t_RN ?_
        exact t_e fun he hS hH => he ▸ ⟨(aa_ hS (by kernel_rfl)), hH⟩
       exact t_e fun he hS hH => he ▸ ⟨rfl, (aa_ hS (by kernel_rfl)), hH⟩
      refine t_N ?_
      refine t_cF ff_ne ?_
      exact t_e fun he hS hH => he ▸ ⟨rfl, (aa_ hS (by kernel_rfl)), hH⟩
     obtain ⟨s, σ⟩ := fr
     rcases y212 with y212 | y212
     ·have h := el_l h
      obtain ⟨rfl, hS, hH⟩ := HF
      refine t_bx h hS hH ?_
      refine t_RU 4 ?_
      refine am_ 151 (fun hc139 => ?_) fun hc139 => ?_
      ·refine t_U 1 ?_
       refine aF_ fun y216 rest57 hy216 => ?_
       refine t_U 4 ?_
       refine am_ 157 (fun hc140 => ?_) fun hc140 => ?_
       ·refine t_N ?_
        refine t_cT rfl ?_
        refine t_RN ?_
        exact t_e fun he hS hH => he ▸ ⟨rfl, (eW hS hH (rT rN) E_bool_p)⟩
       refine t_U 3 ?_
       refine aF_ fun y217 rest58 hy217 => ?_
       refine t_U 1 ?_
       refine av_ fun y218 hy218 => ?_
       refine af_ fun y219 hy219 => ?_
       refine t_N ?_
       refine t_if (fun hc141 => ?_) fun hc141 => ?_
       ·refine t_RN ?_
        exact t_e fun he hS hH => he ▸ ⟨rfl, (eW hS hH (rT rN) E_bool_p)⟩
       refine t_RN ?_
       refine t_RN ?_
       refine bd_ 0 (fun y220 e fr => e = .normal ∧ Sub [(3, .str y1), (4, .str y3), (5, i4 st1), (12, i4 y220)] fr.s ∧ Heap σ0 fr.σ []) (fun y220 e fr h HF => ?_) fun y220 => ?_
       ·obtain ⟨s, σ⟩ := fr
        obtain ⟨rfl, hS, hH⟩ := HF
        refine t_bx h hS hH ?_
        refine t_RN ?_
        refine ay_ (fun st33 fr => Sub [(3, .str y1), (4, .str y3), (5, i4 st1), (12, i4 y220), (13, i4 st33)] fr.s ∧ Heap σ0 fr.σ []) (fun y221 e fr => (Sum.elim (fun y => e = (.exit 4) ∧ Sub [(3, .str y1), (4, .str y3), (5, i4 st1)] fr.s ∧ Heap σ0 fr.σ []) (fun y => e = .ret ∧ endW Try.prog (Try.f10.results.toList) σ0 (E_bool y) .ret fr)) y221) (fun hS hH => ⟨(aa_ hS (by kernel_rfl)), hH⟩) (fun st33 x fr h HI => ?_) fun y221 e fr h HF => ?_
        ·obtain ⟨s, σ⟩ := fr; obtain ⟨hS, hH⟩ := HI
         refine t_bk h hS hH ?_
         refine t_RN ?_
         refine t_if (fun hc142 => ?_) fun hc142 => ?_
         ·refine t_RU 3 ?_
          refine av_ fun y222 hy222 => ?_
          refine af_ fun y223 hy223 => ?_
          refine t_N ?_
          refine t_if (fun hc143 => ?_) fun hc143 => ?_
          ·refine t_RN ?_
           exact t_e fun he hS hH => he ▸ ⟨rfl, (eW hS hH (rT rN) E_bool_p)⟩
          refine t_RN ?_
          exact t_e fun he hS hH => he ▸ ⟨(aa_ hS (by kernel_rfl)), hH⟩
         exact t_e fun he hS hH => he ▸ ⟨rfl, (aa_ hS (by kernel_rfl)), hH⟩
        obtain ⟨s, σ⟩ := fr
        rcases y221 with y221 | y221
        ·have h := el_l h
         obtain ⟨rfl, hS, hH⟩ := HF
         refine t_bx h hS hH ?_
         refine t_RN ?_
         exact t_e fun he hS hH => he ▸ ⟨(aa_ hS (by kernel_rfl)), hH⟩
        have h := el_r h
        obtain ⟨rfl, HE⟩ := HF
        obtain rfl := si_1 h; exact ⟨rfl, HE⟩
       refine t_cT hc139 ?_
       refine t_RU 1 ?_
       refine aF_ fun y224 rest59 hy224 => ?_
       refine t_N ?_
       exact t_e fun he hS hH => he ▸ ⟨rfl, (aa_ hS (by kernel_rfl)), hH⟩
      refine t_N ?_
      refine t_cF ff_ne ?_
      refine t_RN ?_
      refine t_RN ?_
      refine bd_ 0 (fun y225 e fr => e = .normal ∧ Sub [(3, .str y1), (4, .str y3), (5, i4 st1), (12, i4 (y1.size : Int))] fr.s ∧ Heap σ0 fr.σ []) (fun y225 e fr h HF => ?_) fun y225 => ?_
      ·obtain ⟨s, σ⟩ := fr
       obtain ⟨rfl, hS, hH⟩ := HF
       refine t_bx h hS hH ?_
       refine t_RN ?_
       refine ay_ (fun st34 fr => Sub [(3, .str y1), (4, .str y3), (5, i4 st1), (12, i4 (y1.size : Int)), (13, i4 st34)] fr.s ∧ Heap σ0 fr.σ []) (fun y226 e fr => (Sum.elim (fun y => e = (.exit 4) ∧ Sub [(3, .str y1), (4, .str y3), (5, i4 st1)] fr.s ∧ Heap σ0 fr.σ []) (fun y => e = .ret ∧ endW Try.prog (Try.f10.results.toList) σ0 (E_bool y) .ret fr)) y226) (fun hS hH => ⟨(aa_ hS (by kernel_rfl)), hH⟩) (fun st34 x fr h HI => ?_) fun y226 e fr h HF => ?_
       ·obtain ⟨s, σ⟩ := fr; obtain ⟨hS, hH⟩ := HI
        refine t_bk h hS hH ?_
        refine t_RN ?_
        refine t_if (fun hc144 => ?_) fun hc144 => ?_
        ·refine t_RU 3 ?_
         refine av_ fun y227 hy227 => ?_
         refine af_ fun y228 hy228 => ?_
         refine t_N ?_
         refine t_if (fun hc145 => ?_) fun hc145 => ?_
         ·refine t_RN ?_
          exact t_e fun he hS hH => he ▸ ⟨rfl, (eW hS hH (rT rN) E_bool_p)⟩
         refine t_RN ?_
         exact t_e fun he hS hH => he ▸ ⟨(aa_ hS (by kernel_rfl)), hH⟩
        exact t_e fun he hS hH => he ▸ ⟨rfl, (aa_ hS (by kernel_rfl)), hH⟩
       obtain ⟨s, σ⟩ := fr
       rcases y226 with y226 | y226
       ·have h := el_l h
        obtain ⟨rfl, hS, hH⟩ := HF
        refine t_bx h hS hH ?_
        refine t_RN ?_
        exact t_e fun he hS hH => he ▸ ⟨(aa_ hS (by kernel_rfl)), hH⟩
       have h := el_r h
       obtain ⟨rfl, HE⟩ := HF
       obtain rfl := si_1 h; exact ⟨rfl, HE⟩
      refine t_cF hc139 ?_
      exact t_e fun he hS hH => ⟨rfl, (aa_ hS (by kernel_rfl)), hH⟩
     have h := el_r h
     obtain ⟨rfl, HE⟩ := HF
     obtain rfl := si_1 h; exact ⟨rfl, HE⟩
    refine t_N ?_
    refine t_cF ff_ne ?_
    refine t_RN ?_
    refine ay_ (fun st35 fr => Sub [(3, .str y1), (4, .str y3), (5, i4 st1), (6, y6.1.t), (8, y8.1.t), (11, i4 st35)] fr.s ∧ Heap σ0 fr.σ []) (fun y229 e fr => (Sum.elim (fun y => e = (.exit 2) ∧ Sub [(3, .str y1), (4, .str y3), (5, i4 st1), (8, y8.1.t)] fr.s ∧ Heap σ0 fr.σ []) (fun y => e = .ret ∧ endW Try.prog (Try.f10.results.toList) σ0 (E_bool y) .ret fr)) y229) (fun hS hH => ⟨(aa_ hS (by kernel_rfl)), hH⟩) (fun st35 x fr h HI => ?_) fun y229 e fr h HF => ?_
    ·obtain ⟨s, σ⟩ := fr; obtain ⟨hS, hH⟩ := HI
     refine t_bk h hS hH ?_
     refine t_RU 4 ?_
     refine am_ 133 (fun hc146 => ?_) fun hc146 => ?_
     ·refine t_U 2 ?_
      refine aF_ fun y230 rest60 hy230 => ?_
      refine t_N ?_
      refine t_if (fun hc147 => ?_) fun hc147 => ?_
      ·refine t_RU 3 ?_
       refine av_ fun y231 hy231 => ?_
       refine af_ fun y232 hy232 => ?_
       refine t_N ?_
       refine t_if (fun hc148 => ?_) fun hc148 => ?_
       ·refine t_RN ?_
        exact t_e fun he hS hH => he ▸ ⟨rfl, (eW hS hH (rT rN) E_bool_p)⟩
       refine t_RN ?_
       exact t_e fun he hS hH => he ▸ ⟨(aa_ hS (by kernel_rfl)), hH⟩
      exact t_e fun he hS hH => he ▸ ⟨rfl, (aa_ hS (by kernel_rfl)), hH⟩
     refine t_N ?_
     refine t_cF ff_ne ?_
     exact t_e fun he hS hH => he ▸ ⟨rfl, (aa_ hS (by kernel_rfl)), hH⟩
    obtain ⟨s, σ⟩ := fr
    rcases y229 with y229 | y229
    ·have h := el_l h
     obtain ⟨rfl, hS, hH⟩ := HF
     refine t_bx h hS hH ?_
     refine t_RU 4 ?_
     refine am_ 151 (fun hc149 => ?_) fun hc149 => ?_
     ·refine t_U 1 ?_
      refine aF_ fun y233 rest61 hy233 => ?_
      refine t_U 4 ?_
      refine am_ 157 (fun hc150 => ?_) fun hc150 => ?_
      ·refine t_N ?_
       refine t_cT rfl ?_
       refine t_RN ?_
       exact t_e fun he hS hH => he ▸ ⟨rfl, (eW hS hH (rT rN) E_bool_p)⟩
      refine t_U 3 ?_
      refine aF_ fun y234 rest62 hy234 => ?_
      refine t_U 1 ?_
      refine av_ fun y235 hy235 => ?_
      refine af_ fun y236 hy236 => ?_
      refine t_N ?_
      refine t_if (fun hc151 => ?_) fun hc151 => ?_
      ·refine t_RN ?_
       exact t_e fun he hS hH => he ▸ ⟨rfl, (eW hS hH (rT rN) E_bool_p)⟩
      refine t_RN ?_
      refine t_RN ?_
      refine bd_ 0 (fun y237 e fr => e = .normal ∧ Sub [(3, .str y1), (4, .str y3), (5, i4 st1), (12, i4 y237)] fr.s ∧ Heap σ0 fr.σ []) (fun y237 e fr h HF => ?_) fun y237 => ?_
      ·obtain ⟨s, σ⟩ := fr
       obtain ⟨rfl, hS, hH⟩ := HF
       refine t_bx h hS hH ?_
       refine t_RN ?_
       refine ay_ (fun st36 fr => Sub [(3, .str y1), (4, .str y3), (5, i4 st1), (12, i4 y237), (13, i4 st36)] fr.s ∧ Heap σ0 fr.σ []) (fun y238 e fr => (Sum.elim (fun y => e = (.exit 4) ∧ Sub [(3, .str y1), (4, .str y3), (5, i4 st1)] fr.s ∧ Heap σ0 fr.σ []) (fun y => e = .ret ∧ endW Try.prog (Try.f10.results.toList) σ0 (E_bool y) .ret fr)) y238) (fun hS hH => ⟨(aa_ hS (by kernel_rfl)), hH⟩) (fun st36 x fr h HI => ?_) fun y238 e fr h HF => ?_
       ·obtain ⟨s, σ⟩ := fr; obtain ⟨hS, hH⟩ := HI
        refine t_bk h hS hH ?_
        refine t_RN ?_
        refine t_if (fun hc152 => ?_) fun hc152 => ?_
        ·refine t_RU 3 ?_
         refine av_ fun y239 hy239 => ?_
         refine af_ fun y240 hy240 => ?_
         refine t_N ?_
         refine t_if (fun hc153 => ?_) fun hc153 => ?_
         ·refine t_RN ?_
          exact t_e fun he hS hH => he ▸ ⟨rfl, (eW hS hH (rT rN) E_bool_p)⟩
         refine t_RN ?_
         exact t_e fun he hS hH => he ▸ ⟨(aa_ hS (by kernel_rfl)), hH⟩
        exact t_e fun he hS hH => he ▸ ⟨rfl, (aa_ hS (by kernel_rfl)), hH⟩
       obtain ⟨s, σ⟩ := fr
       rcases y238 with y238 | y238
       ·have h := el_l h
        obtain ⟨rfl, hS, hH⟩ := HF
        refine t_bx h hS hH ?_
        refine t_RN ?_
        exact t_e fun he hS hH => he ▸ ⟨(aa_ hS (by kernel_rfl)), hH⟩
       have h := el_r h
       obtain ⟨rfl, HE⟩ := HF
       obtain rfl := si_1 h; exact ⟨rfl, HE⟩
      refine t_cT hc149 ?_
      refine t_RU 1 ?_
      refine aF_ fun y241 rest63 hy241 => ?_
      refine t_N ?_
      exact t_e fun he hS hH => he ▸ ⟨rfl, (aa_ hS (by kernel_rfl)), hH⟩
     refine t_N ?_
     refine t_cF ff_ne ?_
     refine t_RN ?_
     refine t_RN ?_
     refine bd_ 0 (fun y242 e fr => e = .normal ∧ Sub [(3, .str y1), (4, .str y3), (5, i4 st1), (12, i4 (y1.size : Int))] fr.s ∧ Heap σ0 fr.σ []) (fun y242 e fr h HF => ?_) fun y242 => ?_
     ·obtain ⟨s, σ⟩ := fr
      obtain ⟨rfl, hS, hH⟩ := HF
      refine t_bx h hS hH ?_
      refine t_RN ?_
      refine ay_ (fun st37 fr => Sub [(3, .str y1), (4, .str y3), (5, i4 st1), (12, i4 (y1.size : Int)), (13, i4 st37)] fr.s ∧ Heap σ0 fr.σ []) (fun y243 e fr => (Sum.elim (fun y => e = (.exit 4) ∧ Sub [(3, .str y1), (4, .str y3), (5, i4 st1)] fr.s ∧ Heap σ0 fr.σ []) (fun y => e = .ret ∧ endW Try.prog (Try.f10.results.toList) σ0 (E_bool y) .ret fr)) y243) (fun hS hH => ⟨(aa_ hS (by kernel_rfl)), hH⟩) (fun st37 x fr h HI => ?_) fun y243 e fr h HF => ?_
      ·obtain ⟨s, σ⟩ := fr; obtain ⟨hS, hH⟩ := HI
       refine t_bk h hS hH ?_
       refine t_RN ?_
       refine t_if (fun hc154 => ?_) fun hc154 => ?_
       ·refine t_RU 3 ?_
        refine av_ fun y244 hy244 => ?_
        refine af_ fun y245 hy245 => ?_
        refine t_N ?_
        refine t_if (fun hc155 => ?_) fun hc155 => ?_
        ·refine t_RN ?_
         exact t_e fun he hS hH => he ▸ ⟨rfl, (eW hS hH (rT rN) E_bool_p)⟩
        refine t_RN ?_
        exact t_e fun he hS hH => he ▸ ⟨(aa_ hS (by kernel_rfl)), hH⟩
       exact t_e fun he hS hH => he ▸ ⟨rfl, (aa_ hS (by kernel_rfl)), hH⟩
      obtain ⟨s, σ⟩ := fr
      rcases y243 with y243 | y243
      ·have h := el_l h
       obtain ⟨rfl, hS, hH⟩ := HF
       refine t_bx h hS hH ?_
       refine t_RN ?_
       exact t_e fun he hS hH => he ▸ ⟨(aa_ hS (by kernel_rfl)), hH⟩
      have h := el_r h
      obtain ⟨rfl, HE⟩ := HF
      obtain rfl := si_1 h; exact ⟨rfl, HE⟩
     refine t_cF hc149 ?_
     exact t_e fun he hS hH => ⟨rfl, (aa_ hS (by kernel_rfl)), hH⟩
    have h := el_r h
    obtain ⟨rfl, HE⟩ := HF
    obtain rfl := si_1 h; exact ⟨rfl, HE⟩
   refine t_RU 5 ?_
   refine am_ 90 (fun hc156 => ?_) fun hc156 => ?_
   ·refine t_U 3 ?_
    refine av_ fun y246 hy246 => ?_
    refine af_ fun y247 hy247 => ?_
    refine t_N ?_
    exact t_e fun he hS hH => he ▸ ⟨rfl, (aa_ hS (by kernel_rfl)), hH⟩
   refine t_N ?_
   exact t_e fun he hS hH => he ▸ ⟨rfl, (aa_ hS (by kernel_rfl)), hH⟩
  exact t_e fun he hS hH => he ▸ ⟨rfl, (aa_ hS (by kernel_rfl)), hH⟩
 obtain ⟨s, σ⟩ := fr
 rcases y4 with y4 | y4
 ·have h := el_l h
  obtain ⟨rfl, hS, hH⟩ := HF
  refine t_bx h hS hH ?_
  refine t_RN ?_
  exact k_eW (rT rN) E_bool_p
 have h := el_r h
 obtain ⟨rfl, HE⟩ := HF
 obtain rfl := si_1 h; exact HE
end Go.Am
