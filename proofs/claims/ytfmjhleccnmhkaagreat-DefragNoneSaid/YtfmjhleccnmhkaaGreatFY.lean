/- Parts of the run, told once. -/
import Derived.Test.YtfmjhleccnmhkaaGreatDA
import Derived.Test.YtfmjhleccnmhkaaGreatDC
import Derived.Test.YtfmjhleccnmhkaaGreatDE
import Derived.Test.YtfmjhleccnmhkaaGreatDF
import Derived.Test.YtfmjhleccnmhkaaGreatDH
import Derived.Test.YtfmjhleccnmhkaaGreatDJ
import Derived.Test.YtfmjhleccnmhkaaGreatDL
import Derived.Test.YtfmjhleccnmhkaaGreatDN
import Derived.Test.YtfmjhleccnmhkaaGreatDU
import Derived.Test.YtfmjhleccnmhkaaGreatGA
import Derived.Test.YtfmjhleccnmhkaaGreatGB
import Derived.Test.YtfmjhleccnmhkaaGreatGD
import Derived.Test.YtfmjhleccnmhkaaGreatGF
import Derived.Test.YtfmjhleccnmhkaaGreatGG
import Derived.Test.YtfmjhleccnmhkaaGreatGI
import Derived.Test.YtfmjhleccnmhkaaGreatGK
import Derived.Test.YtfmjhleccnmhkaaGreatGR
import Derived.Test.YtfmjhleccnmhkaaGreatGS
namespace Go.Proofs.YtfmjhleccnmhkaaGreat
open Go.Ex Go.Proofs
set_option maxRecDepth 1000000

noncomputable def natLaw : List (FuncId × CF) := (53, (memoC dP3 (memoC dP2 (memoC dP1 (memoC dP0 (fnC Tryz.T Tryz.F 53)))))) :: (29, (memoC dB1 (memoC dA10 (fnC Tryz.T Tryz.F 29)))) :: (28, (memoC dA9 (fnC Tryz.T Tryz.F 28))) :: (9, (memoC dA8 (fnC Tryz.T Tryz.F 9))) :: (119, (memoC dA7 (fnC Tryz.T Tryz.F 119))) :: (24, (memoC dA6 (fnC Tryz.T Tryz.F 24))) :: (197, (memoC dA5 (memoC dA3 (fnC Tryz.T Tryz.F 197)))) :: (6, (memoC dA4 (memoC dA2 (fnC Tryz.T Tryz.F 6)))) :: (22, (memoC dA1 (fnC Tryz.T Tryz.F 22))) :: natL
theorem natLaw_ok {ρ : Env} : ∀ x ∈ natLaw, CfOK Tryz.prog ρ x.1 x.2 := (cons_ok (dP3_ok (dP2_ok (dP1_ok (dP0_ok (fnw (by decide +kernel)))))) (cons_ok (dB1_ok (dA10_ok (fnw (by decide +kernel)))) (cons_ok (dA9_ok (fnw (by decide +kernel))) (cons_ok (dA8_ok (fnw (by decide +kernel))) (cons_ok (dA7_ok (fnw (by decide +kernel))) (cons_ok (dA6_ok (fnw (by decide +kernel))) (cons_ok (dA5_ok (dA3_ok (fnw (by decide +kernel)))) (cons_ok (dA4_ok (dA2_ok (fnw (by decide +kernel)))) (cons_ok (dA1_ok (fnw (by decide +kernel))) natOK)))))))))
noncomputable def natLiv : List (FuncId × CF) := (53, (memoC k7 (fnC Tryz.T Tryz.F 53))) :: (18, (memoC k8 (memoC g1 (fnC Tryz.T Tryz.F 18)))) :: (29, (memoC k6 (memoC f6 (fnC Tryz.T Tryz.F 29)))) :: (28, (memoC k5 (memoC f5 (fnC Tryz.T Tryz.F 28)))) :: (120, (memoC k4 (memoC k3 (memoC k2 (memoC k1 (memoC k0 (memoC f4 (memoC f3 (memoC f2 (memoC f1 (memoC f0 (fnC Tryz.T Tryz.F 120)))))))))))) :: (9, (memoC h8 (memoC dA8 (fnC Tryz.T Tryz.F 9)))) :: (119, (memoC h7 (memoC dA7 (fnC Tryz.T Tryz.F 119)))) :: (24, (memoC h6 (memoC dA6 (fnC Tryz.T Tryz.F 24)))) :: (197, (memoC h5 (memoC h3 (memoC dA5 (memoC dA3 (fnC Tryz.T Tryz.F 197)))))) :: (6, (memoC h4 (memoC h2 (memoC dA4 (memoC dA2 (fnC Tryz.T Tryz.F 6)))))) :: (22, (memoC h1 (memoC dA1 (fnC Tryz.T Tryz.F 22)))) :: natL
theorem natLiv_ok {ρ : Env} : ∀ x ∈ natLiv, CfOK Tryz.prog ρ x.1 x.2 := (cons_ok (k7_ok (fnw (by decide +kernel))) (cons_ok (k8_ok (g1_ok (fnw (by decide +kernel)))) (cons_ok (k6_ok (f6_ok (fnw (by decide +kernel)))) (cons_ok (k5_ok (f5_ok (fnw (by decide +kernel)))) (cons_ok (k4_ok (k3_ok (k2_ok (k1_ok (k0_ok (f4_ok (f3_ok (f2_ok (f1_ok (f0_ok (fnw (by decide +kernel)))))))))))) (cons_ok (h8_ok (dA8_ok (fnw (by decide +kernel)))) (cons_ok (h7_ok (dA7_ok (fnw (by decide +kernel)))) (cons_ok (h6_ok (dA6_ok (fnw (by decide +kernel)))) (cons_ok (h5_ok (h3_ok (dA5_ok (dA3_ok (fnw (by decide +kernel)))))) (cons_ok (h4_ok (h2_ok (dA4_ok (dA2_ok (fnw (by decide +kernel)))))) (cons_ok (h1_ok (dA1_ok (fnw (by decide +kernel)))) natOK)))))))))))
end Go.Proofs.YtfmjhleccnmhkaaGreat
