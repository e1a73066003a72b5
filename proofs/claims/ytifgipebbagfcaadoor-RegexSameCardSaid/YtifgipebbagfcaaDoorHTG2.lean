/-
  THE LOADED FUNCTIONS AS TYPED CODE AND AS PLAIN FUNCTIONS, printed by program; each pair held by the kernel.
-/
import Derived.Test.YtifgipebbagfcaaDoorHTG1
import Derived.Test.YtifgipebbagfcaaDoorHL5
set_option linter.unusedVariables false
set_option linter.unusedSimpArgs false
namespace Go.Proofs.YtifgipebbagfcaaDoor
open Go Go.Av Go.Ev
open Z
def f_ref15_Same : TF := ⟨zC zT zX0 400 0x70616416203e1119003f54d10702164162196b830481b1e5c3811c1229191a40721800571a9311ad131450423c4c0671a91811af131b45e1a1194218176205103121200101c1c181cf20018c13114f11c21429c206014e8318201c41d154e11b20000354010001224d0100491235040176185197f13044a12a23da207021641621949830048181c1b53819195f13440319691314481c6585301b54104c6c1c1855f221b469221f438563c52901b2b2a101bc1dc1c2e55f2139469213d43a2b61ac53f01b4948129c2bc1c4a55f204d469205943b12ca22ee20256403832a1c03812a212d2, [.tm 4], 53, q_ref15_Same, 0⟩
def L_ref15_Same_0 (O : Oracle) (n : Nat) (a : Rx) (b : Rx) (s : (Int × Unit)) : Option ((Int × Unit) ⊕ (Bool × Unit) ⊕ Unit) :=
 bif decide (s.1 < (a.out.2.2.2.1.length : Int)) then
 Option.bind (getI a.out.2.2.2.1 s.1) fun v4 =>
 Option.bind (getI b.out.2.2.2.1 s.1) fun v5 =>
 Option.bind (callR O N_ref15_Same [.d .rx v4, .d .rx v5] [] q_ref15_Same) fun v6 =>
 bif (!v6.1) then
 some (.inr (.inl ((false, ()))))
else
 some (.inl (IntKind.wrap .i64 (s.1 + (1 : Int)), ()))
else
 some (.inr (.inr (())))
def G_ref15_Same (O : Oracle) (n : Nat) (a : Rx) (b : Rx) : Option (Option S) :=
 Option.bind (bif (a.out.1 != b.out.1) then some (true) else
 some ((a.out.2.1 != b.out.2.1))) fun v =>
 Option.bind (bif v then some (true) else
 some ((a.out.2.2.1 != b.out.2.2.1))) fun v1 =>
 Option.bind (bif v1 then some (true) else
 some (((a.out.2.2.2.1.length : Int) != (b.out.2.2.2.1.length : Int)))) fun v2 =>
 bif v2 then
 retQ q_ref15_Same (false, ())
else
 Option.bind (loopN n (L_ref15_Same_0 O n a b) ((0 : Int), ())) fun (v7 : (Bool × Unit) ⊕ Unit) =>
 Sum.elim (fun v8 =>
 retQ q_ref15_Same (v8.1, ())) (fun v9 =>
 retQ q_ref15_Same (true, ())) v7
theorem x_ref15_Same (O : Oracle) (n : Nat) (a : Rx) (b : Rx) : evF1 O n f_ref15_Same [.d .rx a, .d .rx b] [] = G_ref15_Same O n a b := by kernel_rfl
def f_law15_RegexSame : TF := ⟨zC zT zX0 400 0x702e2e105a01b2d1a1a2e21a852a11b282b103e6815812391f1a3901d23901b23c2827851811b6191284073a5c1810122951a2f032390123e1c12c123921a2f042390621f1e1d1c1b1a1918765432101d1e291d1c21c1c21a1b21a7277191847171562522243300102002828183b920701e115a01b1f1a412822c1a83005928111a71a505228186385201b031594111a11a70226168219e20256403832a1c03812a212d2, [.tm 4], 27, q_law15_RegexSame, 0⟩
def G_law15_RegexSame (O : Oracle) (n : Nat) (a : Rx) (b : Rx) : Option (Option S) :=
 Option.bind (callR O N_law15_Large [.d .rx a] [] q_law15_Large) fun v =>
 Option.bind (bif v.1 then some (true) else
 Option.bind (callR O N_law15_Large [.d .rx b] [] q_law15_Large) fun v1 =>
 some (v1.1)) fun v2 =>
 bif v2 then
 Option.bind (callR O N_law15_awake [] [] q_law15_awake) fun v3 =>
 retQ q_law15_RegexSame (v3.1, ())
else
 Option.bind (callR O N_regex_Same [.d .rx a, .d .rx b] [] q_regex_Same) fun v4 =>
 Option.bind (callR O N_ref15_Same [.d .rx a, .d .rx b] [] q_ref15_Same) fun v5 =>
 Option.bind (bif (false ^^ (v4.1 == v5.1)) then
 Option.bind (callR O N_regex_Same [.d .rx a, .d .rx a] [] q_regex_Same) fun v6 =>
 some (v6.1)
else some (false)) fun v7 =>
 Option.bind (bif v7 then
 Option.bind (callR O N_law15_awake [] [] q_law15_awake) fun v8 =>
 some (v8.1)
else some (false)) fun v9 =>
 retQ q_law15_RegexSame (v9, ())
theorem x_law15_RegexSame (O : Oracle) (n : Nat) (a : Rx) (b : Rx) : evF1 O n f_law15_RegexSame [.d .rx a, .d .rx b] [] = G_law15_RegexSame O n a b := by kernel_rfl
end Go.Proofs.YtifgipebbagfcaaDoor
