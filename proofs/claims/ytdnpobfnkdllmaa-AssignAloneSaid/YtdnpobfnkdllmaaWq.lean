/- Wide numbers and widths: contracts that say no more of the world than that nothing has turned. -/
import Derived.Test.YtdnpobfnkdllmaaWi
import Derived.Test.YtdnpobfnkdllmaaWt
import Derived.Test.YtdnpobfnkdllmaaWn
import Derived.Test.YtdnpobfnkdllmaaWh
import Derived.Test.YtdnpobfnkdllmaaBld
set_option linter.unusedSimpArgs false
set_option linter.unusedVariables false
namespace Go.Proofs.Ytdnpobfnkdllmaa
open Go.RowKit

def AnsB (v : Value) (w : World) (e : Ending) (w' : World) : Prop := e = .returned v ∧ Below w.heap.size w w'
section
variable (w : World)
theorem of_b (n : Int) (h0 : -9223372036854775808 ≤ n) (h1 : n < 9223372036854775808) : Calls Try.prog 61 #[.int .i64 n] w (AnsB (.agg #[hiOf n, loOf n]) w) :=
  (of_any n w h0 h1).mono fun _ _ ⟨he, hw⟩ => ⟨he, hw ▸ bal (Below.refl _ _) _⟩
theorem plus_b (a b : Int) (h : W128 (a + b)) : Calls Try.prog 60 #[.agg #[hiOf a, loOf a], .agg #[hiOf b, loOf b]] w (AnsB (.agg #[hiOf (a + b), loOf (a + b)]) w) :=
  (plus_any a b w h).mono fun _ _ ⟨he, hw⟩ => ⟨he, hw ▸ bal (bal (bal (Below.refl _ _) _) _) _⟩
theorem minus_b (a b : Int) (h : W128 (a - b)) : Calls Try.prog 63 #[.agg #[hiOf a, loOf a], .agg #[hiOf b, loOf b]] w (AnsB (.agg #[hiOf (a - b), loOf (a - b)]) w) :=
  (minus_any a b w h).mono fun _ _ ⟨he, hw⟩ => ⟨he, hw ▸ bal (bal (bal (Below.refl _ _) _) _) _⟩
theorem against_b (a b : Int) : Calls Try.prog 62 #[.agg #[hiOf a, loOf a], .agg #[hiOf b, loOf b]] w (AnsB (.int .i64 (cmpI a b)) w) :=
  (against_any a b w).mono fun _ _ ⟨he, hw⟩ => ⟨he, hw ▸ bal (bal (Below.refl _ _) _) _⟩
theorem times_b (a b : Int) (ha : -9223372036854775808 ≤ a ∧ a < 9223372036854775808) (hb : -9223372036854775808 ≤ b ∧ b < 9223372036854775808) : Calls Try.prog 64 #[.int .i64 a, .int .i64 b] w (AnsB (.agg #[hiOf (a * b), loOf (a * b)]) w) :=
  (times_any a b w ha hb).mono fun _ _ ⟨he, hw⟩ => ⟨he, hw ▸ bal (Below.refl _ _) _⟩
theorem resolve_b (l : Ln) (c : Int) (hl : LnM l) (hc : CB c) : Calls Try.prog 73 #[.agg #[.int .u8 l.k, .int .i64 l.n], .int .i64 c] w (AnsB (.tuple #[.int .i64 (resF l c).1, .bool (resF l c).2]) w) :=
  (resolve_any l.k l.n c w hl hc).mono fun _ _ ⟨he, hw⟩ => ⟨he, hw ▸ bal (Below.refl _ _) _⟩
theorem clamp_b (s : Sty) (c v : Int) (h1 : LnM s.maxw) (h2 : LnM s.minw) (hc : CB c) : Calls Try.prog 75 #[.agg (styCells s).toArray, .int .i64 c, .int .i64 v] w (AnsB (.int .i64 (clampF s c v)) w) :=
  (clamp_any s c v w h1 h2 hc).mono fun _ _ ⟨he, hw⟩ => ⟨he, hw ▸ bal (bal (bal (Below.refl _ _) _) _) _⟩
end
end Go.Proofs.Ytdnpobfnkdllmaa
