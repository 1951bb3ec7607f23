/- The statement is true for the given program, as its card says: the function, by its terms, returns true. No condition. -/
import Derived.Test.YtkcfpgaepmllhaaGreatDoorZay
import Derived.Test.YtkcfpgaepmllhaaGreatDoorZba
import Derived.Test.YtkcfpgaepmllhaaGreatDoorZbb
set_option linter.unusedVariables false
set_option linter.unusedSimpArgs false
set_option linter.constructorNameAsVariable false
namespace Go.Proofs.YtkcfpgaepmllhaaGreatDoor
theorem small_vcp : VCp Tryz.prog 4 [] (bv true):=(done_root _ (List.mem_cons_self ..)).2.1
theorem fieldSmall_holds : Rows.FieldSmallCardSaid:=small_card (small_said small_vcp)
end Go.Proofs.YtkcfpgaepmllhaaGreatDoor
