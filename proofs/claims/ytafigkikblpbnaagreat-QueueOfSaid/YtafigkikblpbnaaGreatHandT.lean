/- A scope that may be; no condition beyond each theorem its own. -/
import Derived.Test.YtafigkikblpbnaaGreatHandK
namespace Go.Proofs.YtafigkikblpbnaaGreat.PG
open Go.RowKit Go.Proofs.YtafigkikblpbnaaGreatW.PrintWords Go.Proofs.YtafigkikblpbnaaGreatW.PrintLast Go.Proofs.YtafigkikblpbnaaGreatW.PrintMore
set_option linter.unusedVariables false
set_option linter.unusedSimpArgs false
set_option maxRecDepth 100000

theorem May20_any (x : S52) (A : Option Addr) (c : Nat) (W : World) (hz : Z52 x) (hC : Kd.C k52 W A x.f4.length x.f4) (hl : x.f4.length ≤ c) : Calls Tryz.prog 42 #[.agg #[.int .i64 x.f0, .string x.f1, .int .i64 x.f2, .int .i64 x.f3, .slice A x.f4.length c]] W (RBb W) := by
  have HB := Lib.hid (show Below W.heap.size W (W.alloc (.cells #[.int .i64 x.f0, .string x.f1, .int .i64 x.f2, .int .i64 x.f3, .slice A x.f4.length c] 52 (0, 0))) from below_alloc (Below.refl _ _) _)
  have HCALL := Lib.hid (left20 8 x A c 24 (W.alloc (.cells #[.int .i64 x.f0, .string x.f1, .int .i64 x.f2, .int .i64 x.f3, .slice A x.f4.length c] 52 (0, 0))) (by omega) (by omega) (by omega) hz (Kd.C_below hC HB.out) hl)
  go_enter Tryz.func42, Tryz.ntmps42
  go_wp2_with fail
  refine HCALL.out.mono ?_
  rintro e w2 ⟨r, rfl, hr1, hr2, hb⟩
  have HB2 := Lib.hid (below_tr HB.out hb)
  clear hb
  go_wp2
  all_goals (go_ret; exact RBb.mk HB2.out)
end Go.Proofs.YtafigkikblpbnaaGreat.PG
