/- A call of WriterNil returns true, whatever the slice that it gets, and turns nothing that was there: what known returns is known, and the law is run both where the slice is long and where it is not. No condition. -/
import Derived.Test.YtphmfjgllccgbaaGreatCons
namespace Go.Proofs.YtphmfjgllccgbaaGreat
open Go Go.Proofs.YtphmfjgllccgbaaGreat.Eng Go.Proofs
noncomputable def ev : Ev := evR tb Tryz.prog cs53 60
theorem ev_ok : @EvFOK Interp.void (fun _ => none) tb Tryz.prog ev := @evR_ok (fun _ => none) tb Tryz.prog Interp.void (@tb_ok Interp.void) cs53 cs53_ok 60
theorem writerNil_run (a : Option Addr) (len cap : Nat) : (topF tb Tryz.prog ev 3 [.lit (.slice a len cap)] .leaf 0).good tb Tryz.prog 3 (topNt tb 3) = true := by kernel_rfl
theorem writerNil_walk {p : Prop} (a0 : Option Addr) (len0 cap0 : Nat) (_z0 : List Int) (w : World) (_w0 : p) :
    Calls Tryz.prog 3 #[.slice a0 len0 cap0] w fun e w' => e = .returned (.bool true) ∧ RowKit.Below w.heap.size w w' :=
  letI : Interp := Interp.void
  law_top (E := fun _ => none) tb_ok ev_ok (args := [.lit (.slice a0 len0 cap0)]) (vs := [.slice a0 len0 cap0]) (.cons (.lit _) .nil) (writerNil_run a0 len0 cap0)
end Go.Proofs.YtphmfjgllccgbaaGreat
