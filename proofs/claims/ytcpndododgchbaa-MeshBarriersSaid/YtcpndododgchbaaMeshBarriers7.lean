/-
  Texts of the executors: CxStates, CxTab, CxEnv, CxFn, CxKn, CxKn2, CxWorks1, CxWorks.
-/
import Derived.Test.YtcpndododgchbaaMeshBarriers6
import Derived.Test.YtcpndododgchbaaProg
import Derived.ChangeKeysEq
import Derived.KernelRfl
set_option linter.all false
namespace CX
open Go
noncomputable section
abbrev i (n : Int) : V := .int .i64 n
-- STATES
noncomputable def s10H : T O := .n (.n (.n (.n (.n (.n (.n (.n (.e) (none) (.n (.e) (some (.cells (.n (.n (.e) (some (i 65535)) (.e)) (some (i 7)) (.n (.e) (some (i 16)) (.e))) 3)) (.e))) (none) (.e)) (none) (.e)) (none) (.e)) (none) (.e)) (none) (.e)) (none) (.n (.e) (none) (.n (.n (.e) (none) (.n (.e) (none) (.n (.e) (none) (.n (.n (.e) (some (.cells (.n (.n (.n (.e) (some (i 7)) (.e)) (some (i 65535)) (.n (.e) (some (i 1)) (.e))) (some (i 3)) (.n (.n (.e) (some (i 65535)) (.e)) (some (i 16)) (.e))) 6)) (.e)) (none) (.e))))) (none) (.n (.n (.e) (none) (.n (.e) (none) (.n (.n (.e) (some (.cells (.n (.n (.n (.e) (some (.nils)) (.e)) (some (.slc 373 3 0 2 none)) (.n (.e) (some (.slc 383 3 0 1 none)) (.e))) (some (.slc 368 3 0 1 none)) (.n (.n (.e) (some (.nils)) (.e)) (some (.slc 378 3 0 1 none)) (.e))) 6)) (.e)) (none) (.e)))) (none) (.e))))) (some (.cells (.n (.n (.e) (some (i 2)) (.e)) (some (i 3)) (.n (.e) (some (i 2)) (.e))) 3)) (.n (.n (.n (.n (.e) (none) (.n (.e) (none) (.n (.e) (none) (.n (.n (.e) (some (.cells (.n (.n (.e) (some (i 65535)) (.e)) (some (i 7)) (.n (.e) (some (i 17)) (.e))) 3)) (.e)) (none) (.e))))) (none) (.e)) (none) (.e)) (none) (.n (.n (.e) (none) (.n (.e) (none) (.n (.e) (none) (.n (.e) (none) (.n (.n (.e) (some (.cells (.n (.n (.e) (some (i 65535)) (.e)) (some (i 7)) (.n (.e) (some (i 18)) (.e))) 3)) (.e)) (none) (.e)))))) (none) (.e)))
noncomputable def s10R : T V := .n (.n (.e) (some (.ptr 0 0)) (.e)) (none) (.n (.n (.n (.e) (some (.slc 365 1 0 6 (some 6))) (.e)) (none) (.e)) (none) (.e))
noncomputable def s10 : St := ⟨194, 0, s10R, s10H, 385, []⟩
noncomputable def rEnH : T O := .n (.n (.n (.n (.n (.n (.n (.n (.e) (none) (.n (.e) (some (.cells (.n (.n (.e) (some (i 65535)) (.e)) (some (i 7)) (.n (.e) (some (i 16)) (.e))) 3)) (.e))) (none) (.e)) (none) (.e)) (none) (.e)) (none) (.e)) (none) (.e)) (none) (.n (.n (.n (.n (.n (.n (.e) (none) (.n (.e) (some (.cells (.n (.n (.n (.n (.e) (some (i 0)) (.e)) (some (i 0)) (.n (.e) (some (i 0)) (.e))) (some (i 0)) (.n (.n (.e) (some (i 0)) (.e)) (some (i 0)) (.e))) (some (i 0)) (.n (.n (.n (.e) (some (i 0)) (.e)) (some (i 0)) (.e)) (some (i 7)) (.n (.n (.e) (some (i 7)) (.e)) (some (i 7)) (.e)))) 12)) (.e))) (none) (.e)) (none) (.e)) (none) (.e)) (none) (.e)) (none) (.n (.n (.e) (none) (.n (.e) (none) (.n (.e) (none) (.n (.n (.e) (some (.cells (.n (.n (.n (.e) (some (i 7)) (.e)) (some (i 65535)) (.n (.e) (some (i 1)) (.e))) (some (i 3)) (.n (.n (.e) (some (i 65535)) (.e)) (some (i 16)) (.e))) 6)) (.e)) (none) (.e))))) (none) (.n (.n (.e) (none) (.n (.e) (none) (.n (.n (.e) (some (.cells (.n (.n (.n (.e) (some (.nils)) (.e)) (some (.slc 373 3 0 2 none)) (.n (.e) (some (.slc 383 3 0 1 none)) (.e))) (some (.slc 368 3 0 1 none)) (.n (.n (.e) (some (.nils)) (.e)) (some (.slc 378 3 0 1 none)) (.e))) 6)) (.e)) (none) (.e)))) (none) (.e))))) (some (.cells (.n (.n (.e) (some (i 2)) (.e)) (some (i 3)) (.n (.e) (some (i 2)) (.e))) 3)) (.n (.n (.n (.n (.e) (none) (.n (.e) (none) (.n (.e) (none) (.n (.n (.e) (some (.cells (.n (.n (.e) (some (i 65535)) (.e)) (some (i 7)) (.n (.e) (some (i 17)) (.e))) 3)) (.e)) (none) (.e))))) (none) (.e)) (none) (.e)) (none) (.n (.n (.e) (none) (.n (.e) (none) (.n (.e) (none) (.n (.e) (none) (.n (.n (.e) (some (.cells (.n (.n (.e) (some (i 65535)) (.e)) (some (i 7)) (.n (.e) (some (i 18)) (.e))) 3)) (.e)) (none) (.e)))))) (none) (.e)))
noncomputable def rEnR : T V := .n (.n (.n (.e) (some (i 20)) (.e)) (some (.slc 365 1 0 6 (some 6))) (.e)) (some (.agg [i 3, i 2, i 2])) (.n (.e) (some (.slc 385 4 0 3 (some 3))) (.e))
noncomputable def rEn : St := ⟨168, 0, rEnR, rEnH, 386, []⟩
noncomputable def rAH : T O := .n (.n (.n (.n (.n (.n (.n (.n (.e) (none) (.n (.e) (some (.cells (.n (.n (.e) (some (i 65535)) (.e)) (some (i 7)) (.n (.e) (some (i 16)) (.e))) 3)) (.e))) (none) (.e)) (none) (.n (.n (.e) (none) (.n (.e) (some (.cells (.n (.n (.n (.e) (some (i 0)) (.e)) (some (i 0)) (.e)) (some (i 0)) (.n (.e) (some (i 7)) (.e))) 4)) (.e))) (none) (.e))) (none) (.e)) (none) (.n (.e) (none) (.n (.n (.n (.e) (none) (.n (.e) (some (.cells (.n (.n (.n (.n (.e) (some (.map 406)) (.e)) (some (.slc 365 1 0 6 (some 6))) (.n (.e) (some (i 0)) (.e))) (some (i 2)) (.n (.n (.e) (some (.nils)) (.e)) (some (.map 404)) (.e))) (some (i 3)) (.n (.n (.n (.e) (some (.nils)) (.e)) (some (.slc 385 4 0 3 (some 3))) (.e)) (some (i 2)) (.n (.n (.e) (some (.slc 408 2 0 6 (some 6))) (.e)) (some (.map 405)) (.e)))) 12)) (.e))) (none) (.e)) (none) (.e)))) (none) (.n (.n (.n (.n (.n (.e) (none) (.n (.e) (some (.cells (.n (.n (.n (.e) (some (i 0)) (.e)) (some (.nils)) (.e)) (some (.nils)) (.n (.e) (some (.nils)) (.e))) 4)) (.e))) (none) (.e)) (none) (.e)) (none) (.e)) (none) (.e))) (none) (.n (.n (.n (.n (.n (.n (.e) (none) (.n (.e) (some (.cells (.n (.n (.n (.n (.e) (some (i 0)) (.e)) (some (i 0)) (.n (.e) (some (i 0)) (.e))) (some (i 0)) (.n (.n (.e) (some (i 0)) (.e)) (some (i 0)) (.e))) (some (i 0)) (.n (.n (.n (.e) (some (i 0)) (.e)) (some (i 0)) (.e)) (some (i 7)) (.n (.n (.e) (some (i 7)) (.e)) (some (i 7)) (.e)))) 12)) (.e))) (none) (.e)) (none) (.n (.n (.e) (none) (.n (.e) (some (.cells (.n (.n (.e) (some (i 1)) (.e)) (some (i 0)) (.n (.e) (some (i 2)) (.e))) 3)) (.e))) (none) (.e))) (none) (.e)) (none) (.e)) (none) (.n (.n (.e) (none) (.n (.n (.n (.e) (none) (.n (.e) (some (.map [] 0)) (.e))) (none) (.e)) (none) (.n (.e) (none) (.n (.n (.e) (some (.cells (.n (.n (.n (.e) (some (i 7)) (.e)) (some (i 65535)) (.n (.e) (some (i 1)) (.e))) (some (i 3)) (.n (.n (.e) (some (i 65535)) (.e)) (some (i 16)) (.e))) 6)) (.e)) (none) (.e))))) (none) (.n (.n (.e) (none) (.n (.e) (none) (.n (.n (.e) (some (.cells (.n (.n (.n (.e) (some (.nils)) (.e)) (some (.slc 373 3 0 2 none)) (.n (.e) (some (.slc 383 3 0 1 none)) (.e))) (some (.slc 368 3 0 1 none)) (.n (.n (.e) (some (.nils)) (.e)) (some (.slc 378 3 0 1 none)) (.e))) 6)) (.e)) (none) (.e)))) (none) (.e))))) (some (.cells (.n (.n (.e) (some (i 2)) (.e)) (some (i 3)) (.n (.e) (some (i 2)) (.e))) 3)) (.n (.n (.n (.n (.n (.e) (none) (.n (.n (.e) (none) (.n (.e) (some (.cells (.n (.e) (some (i 2)) (.e)) 1)) (.e))) (none) (.e))) (none) (.n (.e) (none) (.n (.e) (none) (.n (.n (.e) (some (.cells (.n (.n (.e) (some (i 65535)) (.e)) (some (i 7)) (.n (.e) (some (i 17)) (.e))) 3)) (.e)) (none) (.e))))) (none) (.n (.e) (none) (.n (.n (.n (.e) (none) (.n (.e) (some (.cells (.n (.n (.n (.n (.e) (some (i 0)) (.e)) (some (i 0)) (.n (.e) (some (i 0)) (.e))) (some (i 0)) (.n (.n (.e) (some (i 0)) (.e)) (some (i 0)) (.e))) (some (i 0)) (.n (.n (.n (.e) (some (i 0)) (.e)) (some (i 0)) (.e)) (some (i 0)) (.n (.n (.e) (some (i 0)) (.e)) (some (i 0)) (.e)))) 12)) (.e))) (none) (.e)) (none) (.e)))) (none) (.n (.n (.e) (none) (.n (.n (.n (.e) (none) (.n (.e) (some (.map [(i 0, .slc 417 1 0 3 none, 0)] 1)) (.e))) (none) (.e)) (none) (.e))) (none) (.e))) (none) (.n (.n (.n (.n (.n (.n (.e) (none) (.n (.e) (some (.cells (.n (.n (.e) (some (i 2)) (.e)) (some (i 3)) (.n (.e) (some (i 2)) (.e))) 3)) (.e))) (none) (.e)) (none) (.e)) (none) (.e)) (none) (.n (.e) (none) (.n (.e) (none) (.n (.e) (none) (.n (.n (.e) (some (.cells (.n (.n (.e) (some (i 65535)) (.e)) (some (i 7)) (.n (.e) (some (i 18)) (.e))) 3)) (.e)) (none) (.e)))))) (none) (.n (.n (.e) (none) (.n (.n (.n (.e) (none) (.n (.e) (some (.map [] 0)) (.e))) (none) (.e)) (none) (.e))) (none) (.e))))
noncomputable def rAR : T V := .n (.n (.n (.n (.n (.n (.n (.e) (some (.slc 385 4 0 3 (some 3))) (.e)) (some (.agg [i 3, i 2, i 2])) (.e)) (none) (.n (.n (.e) (some (.map 404)) (.e)) (some (.slc 385 4 0 3 (some 3))) (.e))) (none) (.n (.n (.n (.e) (some (.ptr 407 0)) (.e)) (some (.bool false)) (.e)) (none) (.n (.n (.e) (some (i 20)) (.e)) (some (i 3)) (.e)))) (some (i 20)) (.n (.n (.n (.n (.e) (some (i 2)) (.e)) (some (.bool false)) (.e)) (none) (.n (.n (.e) (some (i 2)) (.e)) (some (.agg [i 3, i 2, i 2, .slc 365 1 0 6 (some 6), .slc 385 4 0 3 (some 3), .map 404, .map 405, .map 406, .nils, .nils, .nils, i 0])) (.e))) (some (i 0)) (.n (.n (.n (.e) (some (i 0)) (.e)) (some (.bool false)) (.e)) (some (i 0)) (.n (.e) (some (.slc 408 2 0 6 (some 6))) (.e))))) (some (.slc 365 1 0 6 (some 6))) (.n (.n (.n (.n (.n (.e) (some (i 3)) (.e)) (some (i 0)) (.e)) (none) (.n (.n (.e) (some (i 0)) (.e)) (some (.map 405)) (.e))) (some (i 0)) (.n (.n (.n (.e) (some (.map 404)) (.e)) (some (i 20)) (.e)) (some (.slc 365 1 0 6 (some 6))) (.n (.e) (some (i 2)) (.e)))) (none) (.n (.n (.n (.n (.e) (some (.agg [i 0, i 0, i 7, i 0])) (.e)) (none) (.e)) (none) (.n (.n (.e) (some (.slc 417 1 0 3 none)) (.e)) (some (.ptr 407 0)) (.e))) (some (i 2)) (.n (.n (.n (.e) (some (.ptr 407 0)) (.e)) (some (.agg [i 3, i 2, i 2])) (.e)) (none) (.n (.e) (some (.ptr 407 8)) (.e)))))) (some (.agg [i 3, i 2, i 2])) (.n (.n (.n (.n (.n (.n (.e) (some (i 3)) (.e)) (some (.slc 385 4 0 3 (some 3))) (.e)) (none) (.n (.n (.e) (some (.ptr 415 0)) (.e)) (some (.map 404)) (.e))) (some (.ptr 387 0)) (.n (.n (.n (.e) (some (.ptr 407 5)) (.e)) (some (.bool false)) (.e)) (some (.agg [i 3, i 2, i 2])) (.n (.n (.e) (some (i 0)) (.e)) (some (.ptr 386 1)) (.e)))) (some (.ptr 386 0)) (.n (.n (.n (.n (.e) (some (.ptr 385 8)) (.e)) (none) (.e)) (none) (.n (.n (.e) (some (.slc 416 1 0 1 (some 1))) (.e)) (some (.ptr 407 0)) (.e))) (some (.ptr 407 0)) (.n (.n (.n (.e) (some (.ptr 407 0)) (.e)) (none) (.e)) (some (.bool false)) (.n (.e) (some (.ptr 407 0)) (.e))))) (some (.slc 385 4 0 3 (some 3))) (.n (.n (.n (.n (.n (.e) (some (.bool false)) (.e)) (some (i 0)) (.e)) (none) (.n (.n (.e) (some (.slc 414 1 0 2 none)) (.e)) (some (.map 406)) (.e))) (some (i 0)) (.n (.n (.n (.e) (some (.ptr 415 0)) (.e)) (some (.bool false)) (.e)) (some (i 0)) (.n (.e) (some (i 6)) (.e)))) (none) (.n (.n (.n (.n (.e) (some (.ptr 407 0)) (.e)) (some (i 20)) (.e)) (none) (.n (.n (.e) (some (i 3)) (.e)) (some (.ptr 386 0)) (.e))) (some (.ptr 415 0)) (.n (.n (.n (.e) (some (.ptr 407 5)) (.e)) (some (.slc 365 1 0 6 (some 6))) (.e)) (none) (.n (.e) (some (.ptr 407 10)) (.e))))))
noncomputable def rA : St := ⟨168, 0, rAR, rAH, 418, []⟩
noncomputable def rBH : T O := .n (.n (.n (.n (.n (.n (.n (.n (.e) (none) (.n (.n (.e) (some (.cells (.n (.e) (some (.nils)) (.e)) 1)) (.e)) (some (.cells (.n (.n (.e) (some (i 65535)) (.e)) (some (i 7)) (.n (.e) (some (i 16)) (.e))) 3)) (.e))) (none) (.n (.e) (none) (.n (.e) (some (.cells (.n (.e) (some (.slc 470 1 2 0 none)) (.e)) 1)) (.e)))) (none) (.n (.n (.e) (none) (.n (.e) (some (.cells (.n (.n (.n (.e) (some (i 0)) (.e)) (some (i 0)) (.e)) (some (i 0)) (.n (.e) (some (i 7)) (.e))) 4)) (.e))) (none) (.n (.n (.n (.e) (some (.cells (.n (.e) (some (.nils)) (.e)) 1)) (.e)) (none) (.e)) (none) (.e)))) (none) (.n (.n (.e) (none) (.n (.n (.n (.e) (some (.cells (.n (.e) (some (.nils)) (.e)) 1)) (.e)) (none) (.e)) (none) (.n (.e) (some (.cells (.n (.n (.e) (some (i 1)) (.e)) (some (i 0)) (.e)) 2)) (.e)))) (none) (.e))) (none) (.n (.n (.n (.n (.e) (none) (.n (.n (.e) (some (.cells (.n (.e) (some (.nils)) (.e)) 1)) (.e)) (none) (.e))) (none) (.e)) (none) (.n (.e) (none) (.n (.e) (none) (.n (.e) (some (.cells (.n (.n (.n (.n (.e) (some (i 0)) (.e)) (some (i 0)) (.e)) (some (i 0)) (.n (.e) (some (i 0)) (.e))) (some (i 2)) (.n (.n (.e) (some (i 2)) (.e)) (some (i 1)) (.n (.e) (some (i 16)) (.e)))) 8)) (.e))))) (none) (.n (.n (.n (.e) (none) (.n (.e) (some (.cells (.n (.n (.n (.n (.e) (some (.map 406)) (.e)) (some (.slc 365 1 0 6 (some 6))) (.n (.e) (some (i 0)) (.e))) (some (i 2)) (.n (.n (.e) (some (.slc 487 4 0 2 none)) (.e)) (some (.map 404)) (.e))) (some (i 3)) (.n (.n (.n (.e) (some (.slc 1318 3 0 6 none)) (.e)) (some (.slc 385 4 0 3 (some 3))) (.e)) (some (i 2)) (.n (.n (.e) (some (.slc 408 2 0 6 (some 6))) (.e)) (some (.map 405)) (.e)))) 12)) (.e))) (none) (.n (.n (.n (.e) (some (.cells (.n (.e) (some (.nils)) (.e)) 1)) (.e)) (none) (.e)) (none) (.e))) (none) (.n (.n (.e) (none) (.n (.e) (some (.cells (.n (.e) (some (.slc 463 1 2 0 none)) (.e)) 1)) (.e))) (none) (.e))))) (none) (.n (.n (.n (.n (.n (.e) (none) (.n (.n (.e) (some (.cells (.n (.e) (some (.nils)) (.e)) 1)) (.e)) (some (.cells (.n (.n (.n (.e) (some (i 0)) (.e)) (some (.nils)) (.e)) (some (.nils)) (.n (.e) (some (.nils)) (.e))) 4)) (.e))) (none) (.e)) (none) (.e)) (none) (.n (.n (.e) (none) (.n (.n (.n (.e) (some (.cells (.n (.e) (some (.nils)) (.e)) 1)) (.e)) (none) (.e)) (none) (.e))) (none) (.e))) (none) (.n (.n (.n (.n (.e) (none) (.n (.n (.e) (some (.cells (.n (.e) (some (.nils)) (.e)) 1)) (.e)) (none) (.e))) (none) (.e)) (none) (.e)) (none) (.n (.n (.e) (none) (.n (.n (.n (.e) (some (.cells (.n (.e) (some (.nils)) (.e)) 1)) (.e)) (none) (.e)) (none) (.e))) (none) (.n (.e) (none) (.n (.n (.n (.e) (some (.cells (.n (.e) (some (.nils)) (.e)) 1)) (.e)) (none) (.e)) (none) (.e))))))) (none) (.n (.n (.n (.n (.n (.n (.e) (none) (.n (.n (.e) (some (.cells (.n (.e) (some (.nils)) (.e)) 1)) (.e)) (some (.cells (.n (.n (.n (.n (.e) (some (i 0)) (.e)) (some (i 0)) (.n (.e) (some (i 0)) (.e))) (some (i 0)) (.n (.n (.e) (some (i 0)) (.e)) (some (i 0)) (.e))) (some (i 0)) (.n (.n (.n (.e) (some (i 0)) (.e)) (some (i 0)) (.e)) (some (i 7)) (.n (.n (.e) (some (i 7)) (.e)) (some (i 7)) (.e)))) 12)) (.e))) (none) (.e)) (none) (.n (.n (.n (.n (.e) (some (.cells (.n (.e) (some (.nils)) (.e)) 1)) (.e)) (none) (.e)) (none) (.n (.e) (some (.cells (.n (.n (.e) (some (i 1)) (.e)) (some (i 0)) (.n (.e) (some (i 2)) (.e))) 3)) (.e))) (none) (.n (.n (.n (.e) (some (.cells (.n (.e) (some (.slc 1053 1 1 0 none)) (.e)) 1)) (.e)) (none) (.e)) (none) (.e)))) (none) (.n (.n (.e) (none) (.n (.n (.n (.e) (some (.cells (.n (.e) (some (.nils)) (.e)) 1)) (.e)) (none) (.e)) (none) (.e))) (none) (.e))) (none) (.n (.n (.n (.n (.e) (none) (.n (.n (.e) (some (.cells (.n (.e) (some (.nils)) (.e)) 1)) (.e)) (none) (.e))) (none) (.e)) (none) (.e)) (none) (.n (.n (.e) (none) (.n (.n (.n (.e) (some (.cells (.n (.e) (some (.nils)) (.e)) 1)) (.e)) (none) (.e)) (none) (.e))) (none) (.n (.e) (none) (.n (.n (.n (.e) (some (.cells (.n (.e) (some (.nils)) (.e)) 1)) (.e)) (none) (.e)) (none) (.e)))))) (none) (.n (.n (.n (.n (.n (.e) (none) (.n (.n (.e) (some (.cells (.n (.e) (some (.nils)) (.e)) 1)) (.e)) (none) (.e))) (none) (.e)) (none) (.e)) (none) (.n (.n (.n (.e) (none) (.n (.e) (some (.map [(.agg [i 0, i 1, i 0], .ptr 439 0, 0), (.agg [i 0, i 16, i 0], .ptr 447 0, 1), (.agg [i 0, i 1, i 1], .ptr 545 0, 2), (.agg [i 0, i 2, i 1], .ptr 552 0, 3), (.agg [i 0, i 2, i 0], .ptr 554 0, 4), (.agg [i 0, i 4, i 1], .ptr 556 0, 5), (.agg [i 0, i 4, i 0], .ptr 558 0, 6), (.agg [i 0, i 8, i 1], .ptr 560 0, 7), (.agg [i 0, i 8, i 0], .ptr 562 0, 8), (.agg [i 0, i 16, i 1], .ptr 564 0, 9), (.agg [i 1, i 1, i 1], .ptr 570 0, 10), (.agg [i 1, i 1, i 0], .ptr 572 0, 11), (.agg [i 1, i 2, i 1], .ptr 574 0, 12), (.agg [i 1, i 2, i 0], .ptr 576 0, 13), (.agg [i 1, i 4, i 1], .ptr 578 0, 14), (.agg [i 1, i 4, i 0], .ptr 580 0, 15), (.agg [i 1, i 8, i 1], .ptr 582 0, 16), (.agg [i 1, i 8, i 0], .ptr 584 0, 17), (.agg [i 1, i 16, i 1], .ptr 586 0, 18), (.agg [i 1, i 16, i 0], .ptr 588 0, 19), (.agg [i 2, i 1, i 1], .ptr 591 0, 20), (.agg [i 2, i 1, i 0], .ptr 593 0, 21), (.agg [i 2, i 2, i 1], .ptr 595 0, 22), (.agg [i 2, i 2, i 0], .ptr 597 0, 23), (.agg [i 2, i 4, i 1], .ptr 599 0, 24), (.agg [i 2, i 4, i 0], .ptr 601 0, 25), (.agg [i 2, i 8, i 1], .ptr 603 0, 26), (.agg [i 2, i 8, i 0], .ptr 605 0, 27), (.agg [i 2, i 16, i 1], .ptr 607 0, 28), (.agg [i 2, i 16, i 0], .ptr 609 0, 29), (.agg [i 3, i 1, i 1], .ptr 612 0, 30), (.agg [i 3, i 1, i 0], .ptr 614 0, 31), (.agg [i 3, i 2, i 1], .ptr 616 0, 32), (.agg [i 3, i 2, i 0], .ptr 618 0, 33), (.agg [i 3, i 4, i 1], .ptr 620 0, 34), (.agg [i 3, i 4, i 0], .ptr 622 0, 35), (.agg [i 3, i 8, i 1], .ptr 624 0, 36), (.agg [i 3, i 8, i 0], .ptr 626 0, 37), (.agg [i 3, i 16, i 1], .ptr 628 0, 38), (.agg [i 3, i 16, i 0], .ptr 630 0, 39), (.agg [i 4, i 1, i 1], .ptr 633 0, 40), (.agg [i 4, i 1, i 0], .ptr 635 0, 41), (.agg [i 4, i 2, i 1], .ptr 637 0, 42), (.agg [i 4, i 2, i 0], .ptr 639 0, 43), (.agg [i 4, i 4, i 1], .ptr 641 0, 44), (.agg [i 4, i 4, i 0], .ptr 643 0, 45), (.agg [i 4, i 8, i 1], .ptr 645 0, 46), (.agg [i 4, i 8, i 0], .ptr 647 0, 47), (.agg [i 4, i 16, i 1], .ptr 649 0, 48), (.agg [i 4, i 16, i 0], .ptr 651 0, 49), (.agg [i 5, i 1, i 1], .ptr 654 0, 50), (.agg [i 5, i 1, i 0], .ptr 656 0, 51), (.agg [i 5, i 2, i 1], .ptr 658 0, 52), (.agg [i 5, i 2, i 0], .ptr 660 0, 53), (.agg [i 5, i 4, i 1], .ptr 662 0, 54), (.agg [i 5, i 4, i 0], .ptr 664 0, 55), (.agg [i 5, i 8, i 1], .ptr 666 0, 56), (.agg [i 5, i 8, i 0], .ptr 668 0, 57), (.agg [i 5, i 16, i 1], .ptr 670 0, 58), (.agg [i 5, i 16, i 0], .ptr 672 0, 59)] 60)) (.e))) (none) (.n (.n (.n (.e) (some (.cells (.n (.e) (some (.slc 1046 1 1 0 none)) (.e)) 1)) (.e)) (none) (.e)) (none) (.e))) (none) (.n (.e) (none) (.n (.n (.e) (some (.cells (.n (.n (.n (.e) (some (i 7)) (.e)) (some (i 65535)) (.n (.e) (some (i 1)) (.e))) (some (i 3)) (.n (.n (.e) (some (i 65535)) (.e)) (some (i 16)) (.e))) 6)) (.e)) (none) (.e))))) (none) (.n (.n (.n (.e) (none) (.n (.e) (none) (.n (.n (.n (.e) (some (.cells (.n (.e) (some (i 4)) (.e)) 1)) (.e)) (none) (.e)) (none) (.e)))) (none) (.n (.e) (none) (.n (.n (.e) (some (.cells (.n (.n (.n (.e) (some (.nils)) (.e)) (some (.slc 373 3 0 2 none)) (.n (.e) (some (.slc 383 3 0 1 none)) (.e))) (some (.slc 368 3 0 1 none)) (.n (.n (.e) (some (.nils)) (.e)) (some (.slc 378 3 0 1 none)) (.e))) 6)) (.e)) (none) (.e)))) (none) (.n (.n (.n (.n (.n (.n (.e) (some (.cells (.n (.e) (some (i 1)) (.e)) 1)) (.e)) (none) (.e)) (none) (.e)) (none) (.e)) (none) (.n (.n (.n (.e) (some (.cells (.n (.e) (some (.nils)) (.e)) 1)) (.e)) (none) (.e)) (none) (.e))) (none) (.n (.e) (none) (.n (.n (.n (.e) (some (.cells (.n (.e) (some (.nils)) (.e)) 1)) (.e)) (none) (.e)) (none) (.e)))))))) (some (.cells (.n (.n (.e) (some (i 2)) (.e)) (some (i 3)) (.n (.e) (some (i 2)) (.e))) 3)) (.n (.n (.n (.n (.n (.n (.e) (none) (.n (.n (.n (.e) (some (.cells (.n (.e) (some (.nils)) (.e)) 1)) (.e)) (none) (.e)) (none) (.e))) (none) (.n (.n (.e) (none) (.n (.n (.e) (some (.cells (.n (.e) (some (.slc 1250 1 1 0 none)) (.e)) 1)) (.e)) (some (.cells (.n (.e) (some (i 2)) (.e)) 1)) (.e))) (none) (.e))) (none) (.n (.n (.n (.e) (none) (.n (.n (.e) (some (.cells (.n (.e) (some (.nils)) (.e)) 1)) (.e)) (none) (.e))) (none) (.e)) (none) (.n (.n (.n (.n (.e) (some (.cells (.n (.e) (some (.nils)) (.e)) 1)) (.e)) (none) (.e)) (none) (.e)) (none) (.n (.n (.n (.e) (some (.cells (.n (.e) (some (.nils)) (.e)) 1)) (.e)) (some (.cells (.n (.n (.e) (some (i 65535)) (.e)) (some (i 7)) (.n (.e) (some (i 17)) (.e))) 3)) (.e)) (none) (.e))))) (none) (.n (.n (.n (.e) (none) (.n (.n (.n (.e) (some (.cells (.n (.e) (some (.nils)) (.e)) 1)) (.e)) (none) (.e)) (none) (.e))) (none) (.n (.n (.n (.n (.e) (some (.cells (.n (.e) (some (.nils)) (.e)) 1)) (.e)) (none) (.e)) (none) (.e)) (none) (.n (.n (.n (.e) (some (.cells (.n (.e) (some (.nils)) (.e)) 1)) (.e)) (none) (.e)) (none) (.e)))) (none) (.n (.n (.n (.e) (none) (.n (.n (.e) (some (.cells (.n (.e) (some (.nils)) (.e)) 1)) (.e)) (some (.cells (.n (.n (.n (.n (.e) (some (i 0)) (.e)) (some (i 0)) (.n (.e) (some (i 0)) (.e))) (some (i 0)) (.n (.n (.e) (some (i 0)) (.e)) (some (i 0)) (.e))) (some (i 2)) (.n (.n (.n (.e) (some (i 0)) (.e)) (some (i 1)) (.e)) (some (i 1)) (.n (.n (.e) (some (i 1)) (.e)) (some (i 0)) (.e)))) 12)) (.e))) (none) (.n (.e) (none) (.n (.n (.n (.e) (some (.cells (.n (.e) (some (i 1)) (.e)) 1)) (.e)) (none) (.e)) (none) (.e)))) (none) (.e)))) (none) (.n (.n (.n (.n (.e) (none) (.n (.n (.n (.e) (some (.cells (.n (.e) (some (.nils)) (.e)) 1)) (.e)) (none) (.e)) (none) (.e))) (none) (.n (.e) (none) (.n (.n (.n (.e) (some (.cells (.n (.e) (some (.nils)) (.e)) 1)) (.e)) (none) (.e)) (none) (.e)))) (none) (.n (.n (.n (.e) (none) (.n (.n (.e) (some (.cells (.n (.e) (some (.nils)) (.e)) 1)) (.e)) (some (.map [(i 0, .slc 417 1 0 3 none, 0)] 1)) (.e))) (none) (.e)) (none) (.n (.n (.n (.n (.e) (some (.cells (.n (.e) (some (.nils)) (.e)) 1)) (.e)) (none) (.e)) (none) (.e)) (none) (.n (.n (.n (.e) (some (.cells (.n (.e) (some (.nils)) (.e)) 1)) (.e)) (none) (.e)) (none) (.e))))) (none) (.n (.n (.n (.e) (none) (.n (.n (.n (.e) (some (.cells (.n (.e) (some (.nils)) (.e)) 1)) (.e)) (none) (.e)) (none) (.n (.n (.n (.e) (some (.cells (.n (.e) (some (.ptr 407 0)) (.e)) 1)) (.e)) (none) (.e)) (none) (.e)))) (none) (.n (.n (.n (.n (.e) (some (.cells (.n (.e) (some (.nils)) (.e)) 1)) (.e)) (none) (.e)) (none) (.e)) (none) (.n (.n (.n (.e) (some (.cells (.n (.e) (some (.nils)) (.e)) 1)) (.e)) (none) (.e)) (none) (.e)))) (none) (.n (.n (.n (.e) (none) (.n (.n (.e) (some (.cells (.n (.e) (some (.nils)) (.e)) 1)) (.e)) (none) (.e))) (none) (.e)) (none) (.n (.n (.n (.n (.e) (some (.cells (.n (.e) (some (.slc 862 1 1 0 none)) (.e)) 1)) (.e)) (none) (.e)) (none) (.e)) (none) (.e)))))) (none) (.n (.n (.n (.n (.n (.n (.e) (none) (.n (.e) (some (.cells (.n (.n (.e) (some (i 2)) (.e)) (some (i 3)) (.n (.e) (some (i 2)) (.e))) 3)) (.e))) (none) (.n (.n (.n (.e) (some (.cells (.n (.e) (some (.nils)) (.e)) 1)) (.e)) (none) (.e)) (none) (.e))) (none) (.n (.e) (none) (.n (.e) (none) (.n (.n (.n (.e) (some (.cells (.n (.e) (some (i 1)) (.e)) 1)) (.e)) (none) (.e)) (none) (.e))))) (none) (.n (.n (.n (.e) (none) (.n (.n (.e) (some (.cells (.n (.e) (some (.nils)) (.e)) 1)) (.e)) (none) (.e))) (none) (.e)) (none) (.n (.n (.n (.n (.e) (some (.cells (.n (.e) (some (.nils)) (.e)) 1)) (.e)) (none) (.e)) (none) (.e)) (none) (.n (.n (.n (.e) (some (.cells (.n (.e) (some (.nils)) (.e)) 1)) (.e)) (none) (.e)) (none) (.e))))) (none) (.n (.n (.n (.e) (none) (.n (.n (.n (.e) (some (.cells (.n (.e) (some (.nils)) (.e)) 1)) (.e)) (none) (.e)) (none) (.e))) (none) (.n (.n (.n (.n (.e) (some (.cells (.n (.e) (some (.nils)) (.e)) 1)) (.e)) (none) (.e)) (none) (.e)) (none) (.n (.n (.n (.e) (some (.cells (.n (.e) (some (.nils)) (.e)) 1)) (.e)) (none) (.e)) (none) (.e)))) (none) (.n (.n (.n (.n (.e) (none) (.n (.n (.e) (some (.cells (.n (.n (.n (.e) (some (i 8)) (.e)) (some (i 2)) (.e)) (some (i 1)) (.n (.n (.e) (some (i 16)) (.e)) (some (i 4)) (.e))) 5)) (.e)) (none) (.e))) (none) (.n (.n (.e) (some (.cells (.n (.e) (some (.nils)) (.e)) 1)) (.e)) (none) (.e))) (none) (.e)) (none) (.n (.n (.n (.n (.e) (some (.cells (.n (.e) (some (.nils)) (.e)) 1)) (.e)) (none) (.e)) (none) (.e)) (none) (.n (.n (.e) (some (.cells (.n (.n (.e) (some (i 65535)) (.e)) (some (i 7)) (.n (.e) (some (i 18)) (.e))) 3)) (.e)) (none) (.e)))))) (none) (.n (.n (.n (.n (.e) (none) (.n (.n (.n (.e) (some (.cells (.n (.e) (some (.nils)) (.e)) 1)) (.e)) (none) (.e)) (none) (.e))) (none) (.n (.n (.n (.e) (none) (.n (.n (.e) (some (.cells (.n (.n (.n (.n (.n (.e) (some (i 1)) (.e)) (some (i 2)) (.e)) (some (i 1)) (.n (.e) (some (i 3)) (.e))) (some (i 0)) (.n (.n (.n (.e) (some (i 4)) (.e)) (some (i 1)) (.e)) (some (i 1)) (.n (.e) (some (i 5)) (.e)))) (some (i 0)) (.n (.n (.n (.n (.e) (some (i 5)) (.e)) (some (i 2)) (.e)) (some (i 0)) (.n (.e) (some (i 0)) (.e))) (some (i 0)) (.n (.n (.e) (some (i 2)) (.e)) (some (i 0)) (.n (.e) (some (i 3)) (.e))))) 18)) (.e)) (none) (.e))) (none) (.e)) (none) (.n (.n (.n (.e) (some (.cells (.n (.e) (some (.nils)) (.e)) 1)) (.e)) (none) (.e)) (none) (.e)))) (none) (.n (.n (.n (.n (.n (.n (.e) (some (.cells (.n (.e) (some (i 1)) (.e)) 1)) (.e)) (none) (.e)) (none) (.e)) (none) (.n (.n (.e) (some (.cells (.n (.e) (some (.nils)) (.e)) 1)) (.e)) (some (.map [] 6)) (.e))) (none) (.n (.e) (none) (.n (.e) (some (.cells (.n (.n (.e) (some (i 1)) (.e)) (some (i 0)) (.e)) 2)) (.e)))) (none) (.n (.e) (none) (.n (.n (.n (.e) (some (.cells (.n (.e) (some (.nils)) (.e)) 1)) (.e)) (none) (.e)) (none) (.e))))) (none) (.n (.n (.n (.n (.e) (none) (.n (.n (.e) (some (.cells (.n (.e) (some (.nils)) (.e)) 1)) (.e)) (none) (.e))) (none) (.n (.e) (none) (.n (.n (.n (.e) (some (.cells (.n (.e) (some (i 5)) (.e)) 1)) (.e)) (none) (.e)) (none) (.e)))) (none) (.n (.n (.n (.n (.e) (some (.cells (.n (.e) (some (.nils)) (.e)) 1)) (.e)) (none) (.e)) (none) (.e)) (none) (.n (.n (.n (.e) (some (.cells (.n (.e) (some (.nils)) (.e)) 1)) (.e)) (none) (.e)) (none) (.e)))) (none) (.n (.n (.n (.e) (none) (.n (.n (.e) (some (.cells (.n (.e) (some (.nils)) (.e)) 1)) (.e)) (none) (.e))) (none) (.n (.n (.e) (none) (.n (.e) (some (.cells (.n (.e) (some (i 1)) (.e)) 1)) (.e))) (none) (.e))) (none) (.n (.n (.n (.n (.e) (some (.cells (.n (.e) (some (.nils)) (.e)) 1)) (.e)) (none) (.e)) (none) (.e)) (none) (.e)))))))
noncomputable def rBR : T V := .n (.n (.n (.n (.n (.n (.n (.n (.e) (some (i 16)) (.e)) (some (.slc 385 4 0 3 (some 3))) (.e)) (some (.agg [i 3, i 2, i 2])) (.n (.e) (some (i 5)) (.e))) (some (i 4)) (.n (.n (.e) (some (.map 404)) (.e)) (some (.slc 385 4 0 3 (some 3))) (.n (.e) (some (i 1)) (.e)))) (none) (.n (.n (.n (.e) (some (.ptr 407 0)) (.e)) (some (.bool false)) (.n (.e) (some (.bool false)) (.e))) (none) (.n (.n (.e) (some (i 20)) (.e)) (some (i 3)) (.n (.e) (some (i 5)) (.e))))) (some (i 20)) (.n (.n (.n (.n (.n (.e) (some (i 5)) (.e)) (some (i 2)) (.e)) (some (.bool false)) (.n (.e) (some (.fn (.func 97) [] [.ptr 1230 0, .ptr 1228 0, .ptr 1229 0])) (.e))) (some (i 5)) (.n (.n (.e) (some (i 2)) (.e)) (some (.agg [i 3, i 2, i 2, .slc 365 1 0 6 (some 6), .slc 385 4 0 3 (some 3), .map 404, .map 405, .map 406, .nils, .nils, .nils, i 0])) (.n (.e) (some (i 6)) (.e)))) (some (i 0)) (.n (.n (.n (.e) (some (i 0)) (.e)) (some (.bool false)) (.n (.e) (some (i 4)) (.e))) (some (i 0)) (.n (.n (.e) (some (.slc 365 1 0 6 (some 6))) (.e)) (some (.slc 408 2 0 6 (some 6))) (.n (.e) (some (i 16)) (.e)))))) (some (.slc 365 1 0 6 (some 6))) (.n (.n (.n (.n (.n (.n (.e) (some (i 5)) (.e)) (some (i 3)) (.e)) (some (i 0)) (.n (.e) (some (i 4)) (.e))) (none) (.n (.n (.e) (some (i 0)) (.e)) (some (.map 405)) (.n (.e) (some (.slc 365 1 0 6 (some 6))) (.e)))) (some (i 0)) (.n (.n (.n (.e) (some (.map 404)) (.e)) (some (i 20)) (.n (.e) (some (i 1)) (.e))) (some (.slc 365 1 0 6 (some 6))) (.n (.n (.e) (some (.bool true)) (.e)) (some (i 2)) (.n (.e) (some (.bool false)) (.e))))) (none) (.n (.n (.n (.n (.e) (some (.agg [i 0, i 0, i 7, i 0])) (.e)) (none) (.n (.e) (some (i 1)) (.e))) (some (i 16)) (.n (.n (.e) (some (.slc 417 1 0 3 none)) (.e)) (some (.ptr 407 0)) (.n (.e) (some (i 5)) (.e)))) (some (i 2)) (.n (.n (.n (.e) (some (.ptr 407 0)) (.e)) (some (.agg [i 3, i 2, i 2])) (.n (.e) (some (i 1)) (.e))) (none) (.n (.n (.e) (some (i 6)) (.e)) (some (.ptr 407 8)) (.n (.e) (some (i 4)) (.e))))))) (some (.agg [i 3, i 2, i 2])) (.n (.n (.n (.n (.n (.n (.n (.e) (some (.tup [])) (.e)) (some (i 3)) (.e)) (some (.slc 385 4 0 3 (some 3))) (.n (.e) (some (.ptr 407 0)) (.e))) (some (i 5)) (.n (.n (.e) (some (.ptr 415 0)) (.e)) (some (.map 404)) (.n (.e) (some (i 6)) (.e)))) (some (.ptr 387 0)) (.n (.n (.n (.e) (some (.ptr 407 5)) (.e)) (some (.bool false)) (.n (.e) (some (.ptr 1240 0)) (.e))) (some (.agg [i 3, i 2, i 2])) (.n (.n (.e) (some (i 5)) (.e)) (some (.ptr 386 1)) (.n (.e) (some (i 5)) (.e))))) (some (.ptr 386 0)) (.n (.n (.n (.n (.e) (some (.ptr 385 8)) (.e)) (none) (.n (.e) (some (.slc 1240 1 0 1 none)) (.e))) (none) (.n (.n (.e) (some (.slc 416 1 0 1 (some 1))) (.e)) (some (.ptr 407 0)) (.n (.e) (some (.bool false)) (.e)))) (some (.ptr 407 0)) (.n (.n (.n (.e) (some (.ptr 407 0)) (.e)) (none) (.n (.e) (some (i 5)) (.e))) (some (.bool false)) (.n (.n (.e) (some (i 6)) (.e)) (some (.ptr 407 0)) (.n (.e) (some (.ptr 407 0)) (.e)))))) (some (.slc 385 4 0 3 (some 3))) (.n (.n (.n (.n (.n (.n (.e) (some (i 6)) (.e)) (some (.bool false)) (.e)) (some (i 0)) (.n (.e) (some (i 5)) (.e))) (some (i 1)) (.n (.n (.e) (some (.slc 414 1 0 2 none)) (.e)) (some (.map 406)) (.n (.e) (some (i 6)) (.e)))) (some (i 0)) (.n (.n (.n (.e) (some (.ptr 415 0)) (.e)) (some (.bool false)) (.n (.e) (some (.ptr 407 0)) (.e))) (some (i 0)) (.n (.n (.e) (some (i 4)) (.e)) (some (i 6)) (.n (.e) (some (.ptr 1306 4)) (.e))))) (none) (.n (.n (.n (.n (.e) (some (.ptr 407 0)) (.e)) (some (i 20)) (.n (.e) (some (i 1)) (.e))) (none) (.n (.n (.e) (some (i 3)) (.e)) (some (.ptr 386 0)) (.n (.e) (some (.slc 1306 1 0 5 (some 5))) (.e)))) (some (.ptr 415 0)) (.n (.n (.n (.e) (some (.ptr 407 5)) (.e)) (some (.slc 365 1 0 6 (some 6))) (.n (.e) (some (.tup [])) (.e))) (none) (.n (.n (.e) (some (.bool false)) (.e)) (some (.ptr 407 10)) (.n (.e) (some (i 5)) (.e)))))))
noncomputable def rB : St := ⟨168, 0, rBR, rBH, 1319, []⟩
noncomputable def rCH : T O := .n (.n (.n (.n (.n (.n (.n (.n (.e) (none) (.n (.n (.e) (some (.cells (.n (.e) (some (.nils)) (.e)) 1)) (.e)) (some (.cells (.n (.n (.e) (some (i 65535)) (.e)) (some (i 7)) (.n (.e) (some (i 16)) (.e))) 3)) (.e))) (none) (.n (.e) (none) (.n (.e) (some (.cells (.n (.e) (some (.slc 470 1 2 0 none)) (.e)) 1)) (.e)))) (none) (.n (.n (.e) (none) (.n (.e) (some (.cells (.n (.n (.n (.e) (some (i 0)) (.e)) (some (i 0)) (.e)) (some (i 0)) (.n (.e) (some (i 7)) (.e))) 4)) (.e))) (none) (.n (.n (.n (.e) (some (.cells (.n (.e) (some (.nils)) (.e)) 1)) (.e)) (none) (.e)) (none) (.e)))) (none) (.n (.n (.e) (none) (.n (.n (.n (.e) (some (.cells (.n (.e) (some (.nils)) (.e)) 1)) (.e)) (none) (.e)) (none) (.n (.e) (some (.cells (.n (.n (.e) (some (i 1)) (.e)) (some (i 0)) (.e)) 2)) (.e)))) (none) (.n (.e) (none) (.n (.n (.e) (none) (.n (.e) (none) (.n (.e) (some (.cells (.n (.e) (some (i 9)) (.e)) 1)) (.e)))) (none) (.e))))) (none) (.n (.n (.n (.n (.e) (none) (.n (.n (.e) (some (.cells (.n (.e) (some (.nils)) (.e)) 1)) (.e)) (none) (.e))) (none) (.e)) (none) (.n (.e) (none) (.n (.e) (none) (.n (.e) (some (.cells (.n (.n (.n (.n (.e) (some (i 0)) (.e)) (some (i 0)) (.e)) (some (i 0)) (.n (.e) (some (i 0)) (.e))) (some (i 2)) (.n (.n (.e) (some (i 2)) (.e)) (some (i 1)) (.n (.e) (some (i 16)) (.e)))) 8)) (.e))))) (none) (.n (.n (.n (.e) (none) (.n (.e) (some (.cells (.n (.n (.n (.n (.e) (some (.map 406)) (.e)) (some (.slc 365 1 0 6 (some 6))) (.n (.e) (some (i 0)) (.e))) (some (i 2)) (.n (.n (.e) (some (.slc 487 4 0 2 none)) (.e)) (some (.map 404)) (.e))) (some (i 3)) (.n (.n (.n (.e) (some (.slc 1318 3 0 6 none)) (.e)) (some (.slc 385 4 0 3 (some 3))) (.e)) (some (i 2)) (.n (.n (.e) (some (.slc 408 2 0 6 (some 6))) (.e)) (some (.map 405)) (.e)))) 12)) (.e))) (none) (.n (.n (.n (.e) (some (.cells (.n (.e) (some (.nils)) (.e)) 1)) (.e)) (none) (.e)) (none) (.e))) (none) (.n (.n (.e) (none) (.n (.e) (some (.cells (.n (.e) (some (.slc 463 1 2 0 none)) (.e)) 1)) (.e))) (none) (.e))))) (none) (.n (.n (.n (.n (.n (.e) (none) (.n (.n (.e) (some (.cells (.n (.e) (some (.nils)) (.e)) 1)) (.e)) (some (.cells (.n (.n (.n (.e) (some (i 0)) (.e)) (some (.nils)) (.e)) (some (.nils)) (.n (.e) (some (.nils)) (.e))) 4)) (.e))) (none) (.e)) (none) (.e)) (none) (.n (.n (.e) (none) (.n (.n (.n (.e) (some (.cells (.n (.e) (some (.nils)) (.e)) 1)) (.e)) (none) (.e)) (none) (.e))) (none) (.e))) (none) (.n (.n (.n (.n (.e) (none) (.n (.n (.e) (some (.cells (.n (.e) (some (.nils)) (.e)) 1)) (.e)) (none) (.e))) (none) (.e)) (none) (.e)) (none) (.n (.n (.e) (none) (.n (.n (.n (.e) (some (.cells (.n (.e) (some (.nils)) (.e)) 1)) (.e)) (none) (.e)) (none) (.e))) (none) (.n (.e) (none) (.n (.n (.n (.e) (some (.cells (.n (.e) (some (.nils)) (.e)) 1)) (.e)) (none) (.e)) (none) (.e))))))) (none) (.n (.n (.n (.n (.n (.n (.e) (none) (.n (.n (.e) (some (.cells (.n (.e) (some (.nils)) (.e)) 1)) (.e)) (some (.cells (.n (.n (.n (.n (.e) (some (i 0)) (.e)) (some (i 0)) (.n (.e) (some (i 0)) (.e))) (some (i 0)) (.n (.n (.e) (some (i 0)) (.e)) (some (i 0)) (.e))) (some (i 0)) (.n (.n (.n (.e) (some (i 0)) (.e)) (some (i 0)) (.e)) (some (i 7)) (.n (.n (.e) (some (i 7)) (.e)) (some (i 7)) (.e)))) 12)) (.e))) (none) (.e)) (none) (.n (.n (.n (.n (.e) (some (.cells (.n (.e) (some (.nils)) (.e)) 1)) (.e)) (none) (.e)) (none) (.n (.e) (some (.cells (.n (.n (.e) (some (i 1)) (.e)) (some (i 0)) (.n (.e) (some (i 2)) (.e))) 3)) (.e))) (none) (.n (.n (.n (.e) (some (.cells (.n (.e) (some (.slc 1053 1 1 0 none)) (.e)) 1)) (.e)) (none) (.e)) (none) (.e)))) (none) (.n (.n (.e) (none) (.n (.n (.n (.e) (some (.cells (.n (.e) (some (.nils)) (.e)) 1)) (.e)) (none) (.e)) (none) (.e))) (none) (.e))) (none) (.n (.n (.n (.n (.e) (none) (.n (.n (.e) (some (.cells (.n (.e) (some (.nils)) (.e)) 1)) (.e)) (none) (.e))) (none) (.e)) (none) (.e)) (none) (.n (.n (.e) (none) (.n (.n (.n (.e) (some (.cells (.n (.e) (some (.nils)) (.e)) 1)) (.e)) (none) (.e)) (none) (.e))) (none) (.n (.e) (none) (.n (.n (.n (.e) (some (.cells (.n (.e) (some (.nils)) (.e)) 1)) (.e)) (none) (.e)) (none) (.e)))))) (none) (.n (.n (.n (.n (.n (.e) (none) (.n (.n (.e) (some (.cells (.n (.e) (some (.nils)) (.e)) 1)) (.e)) (none) (.e))) (none) (.e)) (none) (.e)) (none) (.n (.n (.n (.e) (none) (.n (.e) (some (.map [(.agg [i 0, i 1, i 0], .ptr 439 0, 0), (.agg [i 0, i 16, i 0], .ptr 447 0, 1), (.agg [i 0, i 1, i 1], .ptr 545 0, 2), (.agg [i 0, i 2, i 1], .ptr 552 0, 3), (.agg [i 0, i 2, i 0], .ptr 554 0, 4), (.agg [i 0, i 4, i 1], .ptr 556 0, 5), (.agg [i 0, i 4, i 0], .ptr 558 0, 6), (.agg [i 0, i 8, i 1], .ptr 560 0, 7), (.agg [i 0, i 8, i 0], .ptr 562 0, 8), (.agg [i 0, i 16, i 1], .ptr 564 0, 9), (.agg [i 1, i 1, i 1], .ptr 570 0, 10), (.agg [i 1, i 1, i 0], .ptr 572 0, 11), (.agg [i 1, i 2, i 1], .ptr 574 0, 12), (.agg [i 1, i 2, i 0], .ptr 576 0, 13), (.agg [i 1, i 4, i 1], .ptr 578 0, 14), (.agg [i 1, i 4, i 0], .ptr 580 0, 15), (.agg [i 1, i 8, i 1], .ptr 582 0, 16), (.agg [i 1, i 8, i 0], .ptr 584 0, 17), (.agg [i 1, i 16, i 1], .ptr 586 0, 18), (.agg [i 1, i 16, i 0], .ptr 588 0, 19), (.agg [i 2, i 1, i 1], .ptr 591 0, 20), (.agg [i 2, i 1, i 0], .ptr 593 0, 21), (.agg [i 2, i 2, i 1], .ptr 595 0, 22), (.agg [i 2, i 2, i 0], .ptr 597 0, 23), (.agg [i 2, i 4, i 1], .ptr 599 0, 24), (.agg [i 2, i 4, i 0], .ptr 601 0, 25), (.agg [i 2, i 8, i 1], .ptr 603 0, 26), (.agg [i 2, i 8, i 0], .ptr 605 0, 27), (.agg [i 2, i 16, i 1], .ptr 607 0, 28), (.agg [i 2, i 16, i 0], .ptr 609 0, 29), (.agg [i 3, i 1, i 1], .ptr 612 0, 30), (.agg [i 3, i 1, i 0], .ptr 614 0, 31), (.agg [i 3, i 2, i 1], .ptr 616 0, 32), (.agg [i 3, i 2, i 0], .ptr 618 0, 33), (.agg [i 3, i 4, i 1], .ptr 620 0, 34), (.agg [i 3, i 4, i 0], .ptr 622 0, 35), (.agg [i 3, i 8, i 1], .ptr 624 0, 36), (.agg [i 3, i 8, i 0], .ptr 626 0, 37), (.agg [i 3, i 16, i 1], .ptr 628 0, 38), (.agg [i 3, i 16, i 0], .ptr 630 0, 39), (.agg [i 4, i 1, i 1], .ptr 633 0, 40), (.agg [i 4, i 1, i 0], .ptr 635 0, 41), (.agg [i 4, i 2, i 1], .ptr 637 0, 42), (.agg [i 4, i 2, i 0], .ptr 639 0, 43), (.agg [i 4, i 4, i 1], .ptr 641 0, 44), (.agg [i 4, i 4, i 0], .ptr 643 0, 45), (.agg [i 4, i 8, i 1], .ptr 645 0, 46), (.agg [i 4, i 8, i 0], .ptr 647 0, 47), (.agg [i 4, i 16, i 1], .ptr 649 0, 48), (.agg [i 4, i 16, i 0], .ptr 651 0, 49), (.agg [i 5, i 1, i 1], .ptr 654 0, 50), (.agg [i 5, i 1, i 0], .ptr 656 0, 51), (.agg [i 5, i 2, i 1], .ptr 658 0, 52), (.agg [i 5, i 2, i 0], .ptr 660 0, 53), (.agg [i 5, i 4, i 1], .ptr 662 0, 54), (.agg [i 5, i 4, i 0], .ptr 664 0, 55), (.agg [i 5, i 8, i 1], .ptr 666 0, 56), (.agg [i 5, i 8, i 0], .ptr 668 0, 57), (.agg [i 5, i 16, i 1], .ptr 670 0, 58), (.agg [i 5, i 16, i 0], .ptr 672 0, 59)] 60)) (.e))) (none) (.n (.n (.n (.e) (some (.cells (.n (.e) (some (.slc 1046 1 1 0 none)) (.e)) 1)) (.e)) (none) (.e)) (none) (.e))) (none) (.n (.e) (none) (.n (.n (.e) (some (.cells (.n (.n (.n (.e) (some (i 7)) (.e)) (some (i 65535)) (.n (.e) (some (i 1)) (.e))) (some (i 3)) (.n (.n (.e) (some (i 65535)) (.e)) (some (i 16)) (.e))) 6)) (.e)) (none) (.e))))) (none) (.n (.n (.e) (none) (.n (.e) (none) (.n (.n (.e) (some (.cells (.n (.n (.n (.e) (some (.nils)) (.e)) (some (.slc 373 3 0 2 none)) (.n (.e) (some (.slc 383 3 0 1 none)) (.e))) (some (.slc 368 3 0 1 none)) (.n (.n (.e) (some (.nils)) (.e)) (some (.slc 378 3 0 1 none)) (.e))) 6)) (.e)) (none) (.e)))) (none) (.n (.n (.n (.n (.n (.n (.e) (some (.cells (.n (.e) (some (i 1)) (.e)) 1)) (.e)) (none) (.e)) (none) (.e)) (none) (.e)) (none) (.n (.n (.n (.e) (some (.cells (.n (.e) (some (.nils)) (.e)) 1)) (.e)) (none) (.e)) (none) (.e))) (none) (.n (.e) (none) (.n (.n (.n (.e) (some (.cells (.n (.e) (some (.nils)) (.e)) 1)) (.e)) (none) (.e)) (none) (.e)))))))) (some (.cells (.n (.n (.e) (some (i 2)) (.e)) (some (i 3)) (.n (.e) (some (i 2)) (.e))) 3)) (.n (.n (.n (.n (.n (.n (.e) (none) (.n (.n (.n (.e) (some (.cells (.n (.e) (some (.nils)) (.e)) 1)) (.e)) (none) (.e)) (none) (.e))) (none) (.n (.n (.e) (none) (.n (.n (.e) (some (.cells (.n (.e) (some (.slc 1250 1 1 0 none)) (.e)) 1)) (.e)) (some (.cells (.n (.e) (some (i 2)) (.e)) 1)) (.e))) (none) (.e))) (none) (.n (.n (.n (.e) (none) (.n (.n (.e) (some (.cells (.n (.e) (some (.nils)) (.e)) 1)) (.e)) (none) (.e))) (none) (.e)) (none) (.n (.n (.n (.n (.e) (some (.cells (.n (.e) (some (.nils)) (.e)) 1)) (.e)) (none) (.e)) (none) (.n (.e) (none) (.n (.e) (none) (.n (.e) (some (.cells (.n (.n (.n (.e) (some (i 8)) (.e)) (some (i 2)) (.e)) (some (i 1)) (.n (.n (.e) (some (i 16)) (.e)) (some (i 4)) (.e))) 5)) (.e))))) (none) (.n (.n (.n (.e) (some (.cells (.n (.e) (some (.nils)) (.e)) 1)) (.e)) (some (.cells (.n (.n (.e) (some (i 65535)) (.e)) (some (i 7)) (.n (.e) (some (i 17)) (.e))) 3)) (.n (.e) (none) (.n (.e) (some (.cells (.n (.e) (some (i 5)) (.e)) 1)) (.e)))) (none) (.e))))) (none) (.n (.n (.n (.e) (none) (.n (.n (.n (.e) (some (.cells (.n (.e) (some (.nils)) (.e)) 1)) (.e)) (none) (.e)) (none) (.e))) (none) (.n (.n (.n (.n (.e) (some (.cells (.n (.e) (some (.nils)) (.e)) 1)) (.e)) (none) (.e)) (none) (.e)) (none) (.n (.n (.n (.e) (some (.cells (.n (.e) (some (.nils)) (.e)) 1)) (.e)) (none) (.e)) (none) (.e)))) (none) (.n (.n (.n (.e) (none) (.n (.n (.e) (some (.cells (.n (.e) (some (.nils)) (.e)) 1)) (.e)) (some (.cells (.n (.n (.n (.n (.e) (some (i 0)) (.e)) (some (i 0)) (.n (.e) (some (i 0)) (.e))) (some (i 0)) (.n (.n (.e) (some (i 0)) (.e)) (some (i 0)) (.e))) (some (i 2)) (.n (.n (.n (.e) (some (i 0)) (.e)) (some (i 1)) (.e)) (some (i 1)) (.n (.n (.e) (some (i 1)) (.e)) (some (i 0)) (.e)))) 12)) (.e))) (none) (.n (.e) (none) (.n (.n (.n (.e) (some (.cells (.n (.e) (some (i 1)) (.e)) 1)) (.e)) (none) (.e)) (none) (.e)))) (none) (.e)))) (none) (.n (.n (.n (.n (.e) (none) (.n (.n (.n (.e) (some (.cells (.n (.e) (some (.nils)) (.e)) 1)) (.e)) (none) (.e)) (none) (.e))) (none) (.n (.e) (none) (.n (.n (.n (.e) (some (.cells (.n (.e) (some (.nils)) (.e)) 1)) (.e)) (none) (.e)) (none) (.e)))) (none) (.n (.n (.n (.e) (none) (.n (.n (.e) (some (.cells (.n (.e) (some (.nils)) (.e)) 1)) (.e)) (some (.map [(i 0, .slc 417 1 0 3 none, 0)] 1)) (.e))) (none) (.e)) (none) (.n (.n (.n (.n (.e) (some (.cells (.n (.e) (some (.nils)) (.e)) 1)) (.e)) (none) (.e)) (none) (.e)) (none) (.n (.n (.n (.e) (some (.cells (.n (.e) (some (.nils)) (.e)) 1)) (.e)) (none) (.e)) (none) (.e))))) (none) (.n (.n (.n (.e) (none) (.n (.n (.n (.e) (some (.cells (.n (.e) (some (.nils)) (.e)) 1)) (.e)) (none) (.e)) (none) (.e))) (none) (.n (.n (.n (.n (.e) (some (.cells (.n (.e) (some (.nils)) (.e)) 1)) (.e)) (none) (.e)) (none) (.e)) (none) (.n (.n (.n (.e) (some (.cells (.n (.e) (some (.nils)) (.e)) 1)) (.e)) (none) (.e)) (none) (.e)))) (none) (.n (.n (.n (.e) (none) (.n (.n (.e) (some (.cells (.n (.e) (some (.nils)) (.e)) 1)) (.e)) (none) (.e))) (none) (.e)) (none) (.n (.n (.n (.n (.e) (some (.cells (.n (.e) (some (.slc 862 1 1 0 none)) (.e)) 1)) (.e)) (none) (.e)) (none) (.e)) (none) (.e)))))) (none) (.n (.n (.n (.n (.n (.n (.e) (none) (.n (.e) (some (.cells (.n (.n (.e) (some (i 2)) (.e)) (some (i 3)) (.n (.e) (some (i 2)) (.e))) 3)) (.e))) (none) (.n (.n (.n (.e) (some (.cells (.n (.e) (some (.nils)) (.e)) 1)) (.e)) (none) (.e)) (none) (.e))) (none) (.n (.e) (none) (.n (.e) (none) (.n (.n (.n (.e) (some (.cells (.n (.e) (some (i 1)) (.e)) 1)) (.e)) (none) (.e)) (none) (.e))))) (none) (.n (.n (.n (.e) (none) (.n (.n (.e) (some (.cells (.n (.e) (some (.nils)) (.e)) 1)) (.e)) (none) (.e))) (none) (.e)) (none) (.n (.n (.n (.n (.e) (some (.cells (.n (.e) (some (.nils)) (.e)) 1)) (.e)) (none) (.e)) (none) (.e)) (none) (.n (.n (.n (.e) (some (.cells (.n (.e) (some (.nils)) (.e)) 1)) (.e)) (none) (.e)) (none) (.e))))) (none) (.n (.n (.n (.e) (none) (.n (.n (.n (.e) (some (.cells (.n (.e) (some (.nils)) (.e)) 1)) (.e)) (none) (.e)) (none) (.e))) (none) (.n (.n (.n (.n (.e) (some (.cells (.n (.e) (some (.nils)) (.e)) 1)) (.e)) (none) (.e)) (none) (.e)) (none) (.n (.n (.n (.e) (some (.cells (.n (.e) (some (.nils)) (.e)) 1)) (.e)) (none) (.e)) (none) (.e)))) (none) (.n (.n (.n (.e) (none) (.n (.n (.e) (some (.cells (.n (.e) (some (.nils)) (.e)) 1)) (.e)) (none) (.e))) (none) (.e)) (none) (.n (.n (.n (.n (.e) (some (.cells (.n (.e) (some (.nils)) (.e)) 1)) (.e)) (none) (.e)) (none) (.e)) (none) (.n (.n (.e) (some (.cells (.n (.n (.e) (some (i 65535)) (.e)) (some (i 7)) (.n (.e) (some (i 18)) (.e))) 3)) (.e)) (none) (.e)))))) (none) (.n (.n (.n (.n (.e) (none) (.n (.n (.n (.e) (some (.cells (.n (.e) (some (.nils)) (.e)) 1)) (.e)) (none) (.e)) (none) (.e))) (none) (.n (.n (.n (.e) (none) (.n (.n (.e) (some (.cells (.n (.n (.n (.n (.n (.e) (some (i 1)) (.e)) (some (i 2)) (.e)) (some (i 1)) (.n (.e) (some (i 3)) (.e))) (some (i 0)) (.n (.n (.n (.e) (some (i 4)) (.e)) (some (i 1)) (.e)) (some (i 1)) (.n (.e) (some (i 5)) (.e)))) (some (i 0)) (.n (.n (.n (.n (.e) (some (i 5)) (.e)) (some (i 2)) (.e)) (some (i 0)) (.n (.e) (some (i 0)) (.e))) (some (i 0)) (.n (.n (.e) (some (i 2)) (.e)) (some (i 0)) (.n (.e) (some (i 3)) (.e))))) 18)) (.e)) (none) (.e))) (none) (.e)) (none) (.n (.n (.n (.e) (some (.cells (.n (.e) (some (.nils)) (.e)) 1)) (.e)) (none) (.e)) (none) (.e)))) (none) (.n (.n (.n (.n (.n (.n (.e) (some (.cells (.n (.e) (some (i 1)) (.e)) 1)) (.e)) (none) (.e)) (none) (.e)) (none) (.n (.n (.e) (some (.cells (.n (.e) (some (.nils)) (.e)) 1)) (.e)) (some (.map [] 6)) (.e))) (none) (.n (.e) (none) (.n (.e) (some (.cells (.n (.n (.e) (some (i 1)) (.e)) (some (i 0)) (.e)) 2)) (.e)))) (none) (.n (.e) (none) (.n (.n (.n (.e) (some (.cells (.n (.e) (some (.nils)) (.e)) 1)) (.e)) (none) (.e)) (none) (.e))))) (none) (.n (.n (.n (.n (.e) (none) (.n (.n (.e) (some (.cells (.n (.e) (some (.nils)) (.e)) 1)) (.e)) (none) (.e))) (none) (.e)) (none) (.n (.n (.n (.n (.e) (some (.cells (.n (.e) (some (.nils)) (.e)) 1)) (.e)) (none) (.e)) (none) (.e)) (none) (.n (.n (.n (.e) (some (.cells (.n (.e) (some (.nils)) (.e)) 1)) (.e)) (none) (.n (.e) (none) (.n (.e) (some (.cells (.n (.e) (some (.ptr 407 0)) (.e)) 1)) (.e)))) (none) (.e)))) (none) (.n (.n (.n (.e) (none) (.n (.n (.e) (some (.cells (.n (.e) (some (.nils)) (.e)) 1)) (.e)) (none) (.e))) (none) (.n (.n (.e) (none) (.n (.e) (some (.cells (.n (.e) (some (i 1)) (.e)) 1)) (.e))) (none) (.e))) (none) (.n (.n (.n (.n (.e) (some (.cells (.n (.e) (some (.nils)) (.e)) 1)) (.e)) (none) (.e)) (none) (.e)) (none) (.e)))))))
noncomputable def rCR : T V := .n (.n (.n (.n (.n (.n (.n (.n (.e) (some (i 16)) (.e)) (some (.slc 385 4 0 3 (some 3))) (.e)) (some (.agg [i 3, i 2, i 2])) (.n (.e) (some (i 5)) (.e))) (some (i 9)) (.n (.n (.e) (some (.map 404)) (.e)) (some (.slc 385 4 0 3 (some 3))) (.n (.e) (some (i 1)) (.e)))) (none) (.n (.n (.n (.e) (some (.ptr 407 0)) (.e)) (some (.bool false)) (.n (.e) (some (.bool false)) (.e))) (none) (.n (.n (.e) (some (i 20)) (.e)) (some (i 3)) (.n (.e) (some (i 5)) (.e))))) (some (i 20)) (.n (.n (.n (.n (.n (.e) (some (i 10)) (.e)) (some (i 2)) (.e)) (some (.bool false)) (.n (.e) (some (.fn (.func 97) [] [.ptr 1904 0, .ptr 1902 0, .ptr 1903 0])) (.e))) (some (i 5)) (.n (.n (.e) (some (i 2)) (.e)) (some (.agg [i 3, i 2, i 2, .slc 365 1 0 6 (some 6), .slc 385 4 0 3 (some 3), .map 404, .map 405, .map 406, .nils, .nils, .nils, i 0])) (.n (.e) (some (i 6)) (.e)))) (some (i 0)) (.n (.n (.n (.e) (some (i 0)) (.e)) (some (.bool false)) (.n (.e) (some (i 4)) (.e))) (some (i 0)) (.n (.n (.e) (some (.slc 365 1 0 6 (some 6))) (.e)) (some (.slc 408 2 0 6 (some 6))) (.n (.e) (some (i 16)) (.e)))))) (some (.slc 365 1 0 6 (some 6))) (.n (.n (.n (.n (.n (.n (.e) (some (i 5)) (.e)) (some (i 3)) (.e)) (some (i 0)) (.n (.e) (some (i 9)) (.e))) (none) (.n (.n (.e) (some (i 0)) (.e)) (some (.map 405)) (.n (.e) (some (.slc 365 1 0 6 (some 6))) (.e)))) (some (i 0)) (.n (.n (.n (.e) (some (.map 404)) (.e)) (some (i 20)) (.n (.e) (some (i 1)) (.e))) (some (.slc 365 1 0 6 (some 6))) (.n (.n (.e) (some (.bool true)) (.e)) (some (i 2)) (.n (.e) (some (.bool false)) (.e))))) (none) (.n (.n (.n (.n (.e) (some (.agg [i 0, i 0, i 7, i 0])) (.e)) (none) (.n (.e) (some (i 0)) (.e))) (some (i 16)) (.n (.n (.e) (some (.slc 417 1 0 3 none)) (.e)) (some (.ptr 407 0)) (.n (.e) (some (i 5)) (.e)))) (some (i 2)) (.n (.n (.n (.e) (some (.ptr 407 0)) (.e)) (some (.agg [i 3, i 2, i 2])) (.n (.e) (some (i 1)) (.e))) (none) (.n (.n (.e) (some (i 6)) (.e)) (some (.ptr 407 8)) (.n (.e) (some (i 9)) (.e))))))) (some (.agg [i 3, i 2, i 2])) (.n (.n (.n (.n (.n (.n (.n (.e) (some (.tup [])) (.e)) (some (i 3)) (.e)) (some (.slc 385 4 0 3 (some 3))) (.n (.e) (some (.ptr 407 0)) (.e))) (some (i 5)) (.n (.n (.e) (some (.ptr 415 0)) (.e)) (some (.map 404)) (.n (.e) (some (i 6)) (.e)))) (some (.ptr 387 0)) (.n (.n (.n (.e) (some (.ptr 407 5)) (.e)) (some (.bool false)) (.n (.e) (some (.ptr 1240 0)) (.e))) (some (.agg [i 3, i 2, i 2])) (.n (.n (.e) (some (i 10)) (.e)) (some (.ptr 386 1)) (.n (.e) (some (i 5)) (.e))))) (some (.ptr 386 0)) (.n (.n (.n (.n (.e) (some (.ptr 385 8)) (.e)) (none) (.n (.e) (some (.nils)) (.e))) (none) (.n (.n (.e) (some (.slc 416 1 0 1 (some 1))) (.e)) (some (.ptr 407 0)) (.n (.e) (some (.bool false)) (.e)))) (some (.ptr 407 0)) (.n (.n (.n (.e) (some (.ptr 407 0)) (.e)) (none) (.n (.e) (some (i 5)) (.e))) (some (.bool false)) (.n (.n (.e) (some (i 6)) (.e)) (some (.ptr 407 0)) (.n (.e) (some (.ptr 407 0)) (.e)))))) (some (.slc 385 4 0 3 (some 3))) (.n (.n (.n (.n (.n (.n (.e) (some (i 6)) (.e)) (some (.bool false)) (.e)) (some (i 0)) (.n (.e) (some (i 5)) (.e))) (some (i 1)) (.n (.n (.e) (some (.slc 414 1 0 2 none)) (.e)) (some (.map 406)) (.n (.e) (some (i 6)) (.e)))) (some (i 0)) (.n (.n (.n (.e) (some (.ptr 415 0)) (.e)) (some (.bool false)) (.n (.e) (some (.ptr 407 0)) (.e))) (some (i 0)) (.n (.n (.e) (some (i 9)) (.e)) (some (i 6)) (.n (.e) (some (.ptr 1968 4)) (.e))))) (none) (.n (.n (.n (.n (.e) (some (.ptr 407 0)) (.e)) (some (i 20)) (.n (.e) (some (i 0)) (.e))) (none) (.n (.n (.e) (some (i 3)) (.e)) (some (.ptr 386 0)) (.n (.e) (some (.slc 1968 1 0 5 (some 5))) (.e)))) (some (.ptr 415 0)) (.n (.n (.n (.e) (some (.ptr 407 5)) (.e)) (some (.slc 365 1 0 6 (some 6))) (.n (.e) (some (.tup [])) (.e))) (none) (.n (.n (.e) (some (.bool false)) (.e)) (some (.ptr 407 10)) (.n (.e) (some (i 5)) (.e)))))))
noncomputable def rC : St := ⟨168, 0, rCR, rCH, 1979, []⟩
noncomputable def rDH : T O := .n (.n (.n (.n (.n (.n (.n (.n (.e) (none) (.n (.n (.e) (some (.cells (.n (.e) (some (.nils)) (.e)) 1)) (.e)) (some (.cells (.n (.n (.e) (some (i 65535)) (.e)) (some (i 7)) (.n (.e) (some (i 16)) (.e))) 3)) (.e))) (none) (.n (.e) (none) (.n (.e) (some (.cells (.n (.e) (some (.slc 470 1 2 0 none)) (.e)) 1)) (.e)))) (none) (.n (.n (.e) (none) (.n (.e) (some (.cells (.n (.n (.n (.e) (some (i 0)) (.e)) (some (i 0)) (.e)) (some (i 0)) (.n (.e) (some (i 7)) (.e))) 4)) (.e))) (none) (.n (.n (.n (.e) (some (.cells (.n (.e) (some (.nils)) (.e)) 1)) (.e)) (none) (.e)) (none) (.e)))) (none) (.n (.n (.e) (none) (.n (.n (.n (.e) (some (.cells (.n (.e) (some (.nils)) (.e)) 1)) (.e)) (none) (.e)) (none) (.n (.e) (some (.cells (.n (.n (.e) (some (i 1)) (.e)) (some (i 0)) (.e)) 2)) (.e)))) (none) (.e))) (none) (.n (.n (.n (.n (.e) (none) (.n (.n (.e) (some (.cells (.n (.e) (some (.nils)) (.e)) 1)) (.e)) (none) (.e))) (none) (.e)) (none) (.n (.e) (none) (.n (.e) (none) (.n (.e) (some (.cells (.n (.n (.n (.n (.e) (some (i 0)) (.e)) (some (i 0)) (.e)) (some (i 0)) (.n (.e) (some (i 0)) (.e))) (some (i 2)) (.n (.n (.e) (some (i 2)) (.e)) (some (i 1)) (.n (.e) (some (i 16)) (.e)))) 8)) (.e))))) (none) (.n (.n (.n (.e) (none) (.n (.e) (some (.cells (.n (.n (.n (.n (.e) (some (.map 406)) (.e)) (some (.slc 365 1 0 6 (some 6))) (.n (.e) (some (i 0)) (.e))) (some (i 2)) (.n (.n (.e) (some (.slc 487 4 0 2 none)) (.e)) (some (.map 404)) (.e))) (some (i 3)) (.n (.n (.n (.e) (some (.slc 1318 3 0 6 none)) (.e)) (some (.slc 385 4 0 3 (some 3))) (.e)) (some (i 2)) (.n (.n (.e) (some (.slc 408 2 0 6 (some 6))) (.e)) (some (.map 405)) (.e)))) 12)) (.e))) (none) (.n (.n (.n (.e) (some (.cells (.n (.e) (some (.nils)) (.e)) 1)) (.e)) (none) (.e)) (none) (.e))) (none) (.n (.n (.e) (none) (.n (.e) (some (.cells (.n (.e) (some (.slc 463 1 2 0 none)) (.e)) 1)) (.e))) (none) (.e))))) (none) (.n (.n (.n (.n (.n (.n (.n (.e) (none) (.n (.n (.e) (some (.cells (.n (.e) (some (i 14)) (.e)) 1)) (.e)) (none) (.e))) (none) (.e)) (none) (.n (.n (.e) (some (.cells (.n (.e) (some (.nils)) (.e)) 1)) (.e)) (some (.cells (.n (.n (.n (.e) (some (i 0)) (.e)) (some (.nils)) (.e)) (some (.nils)) (.n (.e) (some (.nils)) (.e))) 4)) (.e))) (none) (.e)) (none) (.e)) (none) (.n (.n (.e) (none) (.n (.n (.n (.e) (some (.cells (.n (.e) (some (.nils)) (.e)) 1)) (.e)) (none) (.e)) (none) (.e))) (none) (.e))) (none) (.n (.n (.n (.n (.e) (none) (.n (.n (.e) (some (.cells (.n (.e) (some (.nils)) (.e)) 1)) (.e)) (none) (.e))) (none) (.e)) (none) (.e)) (none) (.n (.n (.e) (none) (.n (.n (.n (.e) (some (.cells (.n (.e) (some (.nils)) (.e)) 1)) (.e)) (none) (.e)) (none) (.e))) (none) (.n (.e) (none) (.n (.n (.n (.e) (some (.cells (.n (.e) (some (.nils)) (.e)) 1)) (.e)) (none) (.e)) (none) (.e))))))) (none) (.n (.n (.n (.n (.n (.n (.e) (none) (.n (.n (.e) (some (.cells (.n (.e) (some (.nils)) (.e)) 1)) (.e)) (some (.cells (.n (.n (.n (.n (.e) (some (i 0)) (.e)) (some (i 0)) (.n (.e) (some (i 0)) (.e))) (some (i 0)) (.n (.n (.e) (some (i 0)) (.e)) (some (i 0)) (.e))) (some (i 0)) (.n (.n (.n (.e) (some (i 0)) (.e)) (some (i 0)) (.e)) (some (i 7)) (.n (.n (.e) (some (i 7)) (.e)) (some (i 7)) (.e)))) 12)) (.e))) (none) (.e)) (none) (.n (.n (.n (.n (.e) (some (.cells (.n (.e) (some (.nils)) (.e)) 1)) (.e)) (none) (.e)) (none) (.n (.e) (some (.cells (.n (.n (.e) (some (i 1)) (.e)) (some (i 0)) (.n (.e) (some (i 2)) (.e))) 3)) (.e))) (none) (.n (.n (.n (.e) (some (.cells (.n (.e) (some (.slc 1053 1 1 0 none)) (.e)) 1)) (.e)) (none) (.e)) (none) (.e)))) (none) (.n (.n (.e) (none) (.n (.n (.n (.e) (some (.cells (.n (.e) (some (.nils)) (.e)) 1)) (.e)) (none) (.e)) (none) (.e))) (none) (.e))) (none) (.n (.n (.n (.n (.e) (none) (.n (.n (.e) (some (.cells (.n (.e) (some (.nils)) (.e)) 1)) (.e)) (none) (.e))) (none) (.e)) (none) (.e)) (none) (.n (.n (.e) (none) (.n (.n (.n (.e) (some (.cells (.n (.e) (some (.nils)) (.e)) 1)) (.e)) (none) (.e)) (none) (.e))) (none) (.n (.e) (none) (.n (.n (.n (.e) (some (.cells (.n (.e) (some (.nils)) (.e)) 1)) (.e)) (none) (.e)) (none) (.e)))))) (none) (.n (.n (.n (.n (.n (.e) (none) (.n (.n (.e) (some (.cells (.n (.e) (some (.nils)) (.e)) 1)) (.e)) (none) (.e))) (none) (.e)) (none) (.e)) (none) (.n (.n (.n (.e) (none) (.n (.e) (some (.map [(.agg [i 0, i 1, i 0], .ptr 439 0, 0), (.agg [i 0, i 16, i 0], .ptr 447 0, 1), (.agg [i 0, i 1, i 1], .ptr 545 0, 2), (.agg [i 0, i 2, i 1], .ptr 552 0, 3), (.agg [i 0, i 2, i 0], .ptr 554 0, 4), (.agg [i 0, i 4, i 1], .ptr 556 0, 5), (.agg [i 0, i 4, i 0], .ptr 558 0, 6), (.agg [i 0, i 8, i 1], .ptr 560 0, 7), (.agg [i 0, i 8, i 0], .ptr 562 0, 8), (.agg [i 0, i 16, i 1], .ptr 564 0, 9), (.agg [i 1, i 1, i 1], .ptr 570 0, 10), (.agg [i 1, i 1, i 0], .ptr 572 0, 11), (.agg [i 1, i 2, i 1], .ptr 574 0, 12), (.agg [i 1, i 2, i 0], .ptr 576 0, 13), (.agg [i 1, i 4, i 1], .ptr 578 0, 14), (.agg [i 1, i 4, i 0], .ptr 580 0, 15), (.agg [i 1, i 8, i 1], .ptr 582 0, 16), (.agg [i 1, i 8, i 0], .ptr 584 0, 17), (.agg [i 1, i 16, i 1], .ptr 586 0, 18), (.agg [i 1, i 16, i 0], .ptr 588 0, 19), (.agg [i 2, i 1, i 1], .ptr 591 0, 20), (.agg [i 2, i 1, i 0], .ptr 593 0, 21), (.agg [i 2, i 2, i 1], .ptr 595 0, 22), (.agg [i 2, i 2, i 0], .ptr 597 0, 23), (.agg [i 2, i 4, i 1], .ptr 599 0, 24), (.agg [i 2, i 4, i 0], .ptr 601 0, 25), (.agg [i 2, i 8, i 1], .ptr 603 0, 26), (.agg [i 2, i 8, i 0], .ptr 605 0, 27), (.agg [i 2, i 16, i 1], .ptr 607 0, 28), (.agg [i 2, i 16, i 0], .ptr 609 0, 29), (.agg [i 3, i 1, i 1], .ptr 612 0, 30), (.agg [i 3, i 1, i 0], .ptr 614 0, 31), (.agg [i 3, i 2, i 1], .ptr 616 0, 32), (.agg [i 3, i 2, i 0], .ptr 618 0, 33), (.agg [i 3, i 4, i 1], .ptr 620 0, 34), (.agg [i 3, i 4, i 0], .ptr 622 0, 35), (.agg [i 3, i 8, i 1], .ptr 624 0, 36), (.agg [i 3, i 8, i 0], .ptr 626 0, 37), (.agg [i 3, i 16, i 1], .ptr 628 0, 38), (.agg [i 3, i 16, i 0], .ptr 630 0, 39), (.agg [i 4, i 1, i 1], .ptr 633 0, 40), (.agg [i 4, i 1, i 0], .ptr 635 0, 41), (.agg [i 4, i 2, i 1], .ptr 637 0, 42), (.agg [i 4, i 2, i 0], .ptr 639 0, 43), (.agg [i 4, i 4, i 1], .ptr 641 0, 44), (.agg [i 4, i 4, i 0], .ptr 643 0, 45), (.agg [i 4, i 8, i 1], .ptr 645 0, 46), (.agg [i 4, i 8, i 0], .ptr 647 0, 47), (.agg [i 4, i 16, i 1], .ptr 649 0, 48), (.agg [i 4, i 16, i 0], .ptr 651 0, 49), (.agg [i 5, i 1, i 1], .ptr 654 0, 50), (.agg [i 5, i 1, i 0], .ptr 656 0, 51), (.agg [i 5, i 2, i 1], .ptr 658 0, 52), (.agg [i 5, i 2, i 0], .ptr 660 0, 53), (.agg [i 5, i 4, i 1], .ptr 662 0, 54), (.agg [i 5, i 4, i 0], .ptr 664 0, 55), (.agg [i 5, i 8, i 1], .ptr 666 0, 56), (.agg [i 5, i 8, i 0], .ptr 668 0, 57), (.agg [i 5, i 16, i 1], .ptr 670 0, 58), (.agg [i 5, i 16, i 0], .ptr 672 0, 59)] 60)) (.e))) (none) (.n (.n (.n (.e) (some (.cells (.n (.e) (some (.slc 1046 1 1 0 none)) (.e)) 1)) (.e)) (none) (.e)) (none) (.e))) (none) (.n (.e) (none) (.n (.n (.e) (some (.cells (.n (.n (.n (.e) (some (i 7)) (.e)) (some (i 65535)) (.n (.e) (some (i 1)) (.e))) (some (i 3)) (.n (.n (.e) (some (i 65535)) (.e)) (some (i 16)) (.e))) 6)) (.e)) (none) (.e))))) (none) (.n (.n (.e) (none) (.n (.e) (none) (.n (.n (.e) (some (.cells (.n (.n (.n (.e) (some (.nils)) (.e)) (some (.slc 373 3 0 2 none)) (.n (.e) (some (.slc 383 3 0 1 none)) (.e))) (some (.slc 368 3 0 1 none)) (.n (.n (.e) (some (.nils)) (.e)) (some (.slc 378 3 0 1 none)) (.e))) 6)) (.e)) (none) (.e)))) (none) (.n (.n (.n (.n (.n (.n (.e) (some (.cells (.n (.e) (some (i 1)) (.e)) 1)) (.e)) (none) (.e)) (none) (.e)) (none) (.e)) (none) (.n (.n (.n (.e) (some (.cells (.n (.e) (some (.nils)) (.e)) 1)) (.e)) (none) (.e)) (none) (.e))) (none) (.n (.e) (none) (.n (.n (.n (.e) (some (.cells (.n (.e) (some (.nils)) (.e)) 1)) (.e)) (none) (.e)) (none) (.e)))))))) (some (.cells (.n (.n (.e) (some (i 2)) (.e)) (some (i 3)) (.n (.e) (some (i 2)) (.e))) 3)) (.n (.n (.n (.n (.n (.n (.e) (none) (.n (.n (.n (.e) (some (.cells (.n (.e) (some (.nils)) (.e)) 1)) (.e)) (none) (.e)) (none) (.e))) (none) (.n (.n (.e) (none) (.n (.n (.e) (some (.cells (.n (.e) (some (.slc 1250 1 1 0 none)) (.e)) 1)) (.e)) (some (.cells (.n (.e) (some (i 2)) (.e)) 1)) (.e))) (none) (.e))) (none) (.n (.n (.n (.e) (none) (.n (.n (.e) (some (.cells (.n (.e) (some (.nils)) (.e)) 1)) (.e)) (none) (.e))) (none) (.e)) (none) (.n (.n (.n (.n (.e) (some (.cells (.n (.e) (some (.nils)) (.e)) 1)) (.e)) (none) (.e)) (none) (.e)) (none) (.n (.n (.n (.e) (some (.cells (.n (.e) (some (.nils)) (.e)) 1)) (.e)) (some (.cells (.n (.n (.e) (some (i 65535)) (.e)) (some (i 7)) (.n (.e) (some (i 17)) (.e))) 3)) (.e)) (none) (.e))))) (none) (.n (.n (.n (.e) (none) (.n (.n (.n (.e) (some (.cells (.n (.e) (some (.nils)) (.e)) 1)) (.e)) (none) (.e)) (none) (.e))) (none) (.n (.n (.n (.n (.e) (some (.cells (.n (.e) (some (.nils)) (.e)) 1)) (.e)) (none) (.e)) (none) (.e)) (none) (.n (.n (.n (.e) (some (.cells (.n (.e) (some (.nils)) (.e)) 1)) (.e)) (none) (.e)) (none) (.e)))) (none) (.n (.n (.n (.e) (none) (.n (.n (.e) (some (.cells (.n (.e) (some (.nils)) (.e)) 1)) (.e)) (some (.cells (.n (.n (.n (.n (.e) (some (i 0)) (.e)) (some (i 0)) (.n (.e) (some (i 0)) (.e))) (some (i 0)) (.n (.n (.e) (some (i 0)) (.e)) (some (i 0)) (.e))) (some (i 2)) (.n (.n (.n (.e) (some (i 0)) (.e)) (some (i 1)) (.e)) (some (i 1)) (.n (.n (.e) (some (i 1)) (.e)) (some (i 0)) (.e)))) 12)) (.e))) (none) (.n (.e) (none) (.n (.n (.n (.e) (some (.cells (.n (.e) (some (i 1)) (.e)) 1)) (.e)) (none) (.e)) (none) (.e)))) (none) (.e)))) (none) (.n (.n (.n (.n (.n (.n (.n (.e) (none) (.n (.n (.e) (some (.cells (.n (.e) (some (i 5)) (.e)) 1)) (.e)) (none) (.e))) (none) (.e)) (none) (.e)) (none) (.n (.n (.n (.e) (some (.cells (.n (.e) (some (.nils)) (.e)) 1)) (.n (.n (.e) (some (.cells (.n (.n (.n (.e) (some (i 8)) (.e)) (some (i 2)) (.e)) (some (i 1)) (.n (.n (.e) (some (i 16)) (.e)) (some (i 4)) (.e))) 5)) (.e)) (none) (.e))) (none) (.e)) (none) (.e))) (none) (.n (.e) (none) (.n (.n (.n (.e) (some (.cells (.n (.e) (some (.nils)) (.e)) 1)) (.e)) (none) (.e)) (none) (.e)))) (none) (.n (.n (.n (.e) (none) (.n (.n (.e) (some (.cells (.n (.e) (some (.nils)) (.e)) 1)) (.e)) (some (.map [(i 0, .slc 417 1 0 3 none, 0)] 1)) (.e))) (none) (.e)) (none) (.n (.n (.n (.n (.e) (some (.cells (.n (.e) (some (.nils)) (.e)) 1)) (.e)) (none) (.e)) (none) (.e)) (none) (.n (.n (.n (.e) (some (.cells (.n (.e) (some (.nils)) (.e)) 1)) (.e)) (none) (.e)) (none) (.e))))) (none) (.n (.n (.n (.e) (none) (.n (.n (.n (.e) (some (.cells (.n (.e) (some (.nils)) (.e)) 1)) (.e)) (none) (.e)) (none) (.e))) (none) (.n (.n (.n (.n (.e) (some (.cells (.n (.e) (some (.nils)) (.e)) 1)) (.e)) (none) (.e)) (none) (.e)) (none) (.n (.n (.n (.e) (some (.cells (.n (.e) (some (.nils)) (.e)) 1)) (.e)) (none) (.e)) (none) (.e)))) (none) (.n (.n (.n (.e) (none) (.n (.n (.e) (some (.cells (.n (.e) (some (.nils)) (.e)) 1)) (.e)) (none) (.e))) (none) (.e)) (none) (.n (.n (.n (.n (.e) (some (.cells (.n (.e) (some (.slc 862 1 1 0 none)) (.e)) 1)) (.e)) (none) (.e)) (none) (.e)) (none) (.e)))))) (none) (.n (.n (.n (.n (.n (.n (.n (.n (.e) (none) (.n (.n (.e) (some (.cells (.n (.e) (some (.ptr 407 0)) (.e)) 1)) (.e)) (none) (.e))) (none) (.e)) (none) (.n (.e) (some (.cells (.n (.n (.e) (some (i 2)) (.e)) (some (i 3)) (.n (.e) (some (i 2)) (.e))) 3)) (.e))) (none) (.n (.n (.n (.e) (some (.cells (.n (.e) (some (.nils)) (.e)) 1)) (.e)) (none) (.e)) (none) (.e))) (none) (.n (.e) (none) (.n (.e) (none) (.n (.n (.n (.e) (some (.cells (.n (.e) (some (i 1)) (.e)) 1)) (.e)) (none) (.e)) (none) (.e))))) (none) (.n (.n (.n (.e) (none) (.n (.n (.e) (some (.cells (.n (.e) (some (.nils)) (.e)) 1)) (.e)) (none) (.e))) (none) (.e)) (none) (.n (.n (.n (.n (.e) (some (.cells (.n (.e) (some (.nils)) (.e)) 1)) (.e)) (none) (.e)) (none) (.e)) (none) (.n (.n (.n (.e) (some (.cells (.n (.e) (some (.nils)) (.e)) 1)) (.e)) (none) (.e)) (none) (.e))))) (none) (.n (.n (.n (.e) (none) (.n (.n (.n (.e) (some (.cells (.n (.e) (some (.nils)) (.e)) 1)) (.e)) (none) (.e)) (none) (.e))) (none) (.n (.n (.n (.n (.e) (some (.cells (.n (.e) (some (.nils)) (.e)) 1)) (.e)) (none) (.e)) (none) (.e)) (none) (.n (.n (.n (.e) (some (.cells (.n (.e) (some (.nils)) (.e)) 1)) (.e)) (none) (.e)) (none) (.e)))) (none) (.n (.n (.n (.e) (none) (.n (.n (.e) (some (.cells (.n (.e) (some (.nils)) (.e)) 1)) (.e)) (none) (.e))) (none) (.e)) (none) (.n (.n (.n (.n (.e) (some (.cells (.n (.e) (some (.nils)) (.e)) 1)) (.e)) (none) (.e)) (none) (.e)) (none) (.n (.n (.e) (some (.cells (.n (.n (.e) (some (i 65535)) (.e)) (some (i 7)) (.n (.e) (some (i 18)) (.e))) 3)) (.e)) (none) (.e)))))) (none) (.n (.n (.n (.n (.e) (none) (.n (.n (.n (.e) (some (.cells (.n (.e) (some (.nils)) (.e)) 1)) (.e)) (none) (.e)) (none) (.e))) (none) (.n (.n (.n (.e) (none) (.n (.n (.e) (some (.cells (.n (.n (.n (.n (.n (.e) (some (i 1)) (.e)) (some (i 2)) (.e)) (some (i 1)) (.n (.e) (some (i 3)) (.e))) (some (i 0)) (.n (.n (.n (.e) (some (i 4)) (.e)) (some (i 1)) (.e)) (some (i 1)) (.n (.e) (some (i 5)) (.e)))) (some (i 0)) (.n (.n (.n (.n (.e) (some (i 5)) (.e)) (some (i 2)) (.e)) (some (i 0)) (.n (.e) (some (i 0)) (.e))) (some (i 0)) (.n (.n (.e) (some (i 2)) (.e)) (some (i 0)) (.n (.e) (some (i 3)) (.e))))) 18)) (.e)) (none) (.e))) (none) (.e)) (none) (.n (.n (.n (.e) (some (.cells (.n (.e) (some (.nils)) (.e)) 1)) (.e)) (none) (.e)) (none) (.e)))) (none) (.n (.n (.n (.n (.n (.n (.e) (some (.cells (.n (.e) (some (i 1)) (.e)) 1)) (.e)) (none) (.e)) (none) (.e)) (none) (.n (.n (.e) (some (.cells (.n (.e) (some (.nils)) (.e)) 1)) (.e)) (some (.map [] 6)) (.e))) (none) (.n (.e) (none) (.n (.e) (some (.cells (.n (.n (.e) (some (i 1)) (.e)) (some (i 0)) (.e)) 2)) (.e)))) (none) (.n (.e) (none) (.n (.n (.n (.e) (some (.cells (.n (.e) (some (.nils)) (.e)) 1)) (.e)) (none) (.e)) (none) (.e))))) (none) (.n (.n (.n (.n (.e) (none) (.n (.n (.e) (some (.cells (.n (.e) (some (.nils)) (.e)) 1)) (.e)) (none) (.e))) (none) (.e)) (none) (.n (.n (.n (.n (.e) (some (.cells (.n (.e) (some (.nils)) (.e)) 1)) (.e)) (none) (.e)) (none) (.e)) (none) (.n (.n (.n (.e) (some (.cells (.n (.e) (some (.nils)) (.e)) 1)) (.e)) (none) (.e)) (none) (.e)))) (none) (.n (.n (.n (.e) (none) (.n (.n (.e) (some (.cells (.n (.e) (some (.nils)) (.e)) 1)) (.e)) (none) (.e))) (none) (.n (.n (.e) (none) (.n (.e) (some (.cells (.n (.e) (some (i 1)) (.e)) 1)) (.e))) (none) (.e))) (none) (.n (.n (.n (.n (.e) (some (.cells (.n (.e) (some (.nils)) (.e)) 1)) (.e)) (none) (.e)) (none) (.e)) (none) (.e)))))))
noncomputable def rDR : T V := .n (.n (.n (.n (.n (.n (.n (.n (.e) (some (i 16)) (.e)) (some (.slc 385 4 0 3 (some 3))) (.e)) (some (.agg [i 3, i 2, i 2])) (.n (.e) (some (i 5)) (.e))) (some (i 14)) (.n (.n (.e) (some (.map 404)) (.e)) (some (.slc 385 4 0 3 (some 3))) (.n (.e) (some (i 1)) (.e)))) (none) (.n (.n (.n (.e) (some (.ptr 407 0)) (.e)) (some (.bool false)) (.n (.e) (some (.bool false)) (.e))) (none) (.n (.n (.e) (some (i 20)) (.e)) (some (i 3)) (.n (.e) (some (i 5)) (.e))))) (some (i 20)) (.n (.n (.n (.n (.n (.e) (some (i 15)) (.e)) (some (i 2)) (.e)) (some (.bool false)) (.n (.e) (some (.fn (.func 97) [] [.ptr 2564 0, .ptr 2562 0, .ptr 2563 0])) (.e))) (some (i 5)) (.n (.n (.e) (some (i 2)) (.e)) (some (.agg [i 3, i 2, i 2, .slc 365 1 0 6 (some 6), .slc 385 4 0 3 (some 3), .map 404, .map 405, .map 406, .nils, .nils, .nils, i 0])) (.n (.e) (some (i 6)) (.e)))) (some (i 0)) (.n (.n (.n (.e) (some (i 0)) (.e)) (some (.bool false)) (.n (.e) (some (i 4)) (.e))) (some (i 0)) (.n (.n (.e) (some (.slc 365 1 0 6 (some 6))) (.e)) (some (.slc 408 2 0 6 (some 6))) (.n (.e) (some (i 16)) (.e)))))) (some (.slc 365 1 0 6 (some 6))) (.n (.n (.n (.n (.n (.n (.e) (some (i 5)) (.e)) (some (i 3)) (.e)) (some (i 0)) (.n (.e) (some (i 14)) (.e))) (none) (.n (.n (.e) (some (i 0)) (.e)) (some (.map 405)) (.n (.e) (some (.slc 365 1 0 6 (some 6))) (.e)))) (some (i 0)) (.n (.n (.n (.e) (some (.map 404)) (.e)) (some (i 20)) (.n (.e) (some (i 1)) (.e))) (some (.slc 365 1 0 6 (some 6))) (.n (.n (.e) (some (.bool true)) (.e)) (some (i 2)) (.n (.e) (some (.bool false)) (.e))))) (none) (.n (.n (.n (.n (.e) (some (.agg [i 0, i 0, i 7, i 0])) (.e)) (none) (.n (.e) (some (i 0)) (.e))) (some (i 16)) (.n (.n (.e) (some (.slc 417 1 0 3 none)) (.e)) (some (.ptr 407 0)) (.n (.e) (some (i 5)) (.e)))) (some (i 2)) (.n (.n (.n (.e) (some (.ptr 407 0)) (.e)) (some (.agg [i 3, i 2, i 2])) (.n (.e) (some (i 1)) (.e))) (none) (.n (.n (.e) (some (i 6)) (.e)) (some (.ptr 407 8)) (.n (.e) (some (i 14)) (.e))))))) (some (.agg [i 3, i 2, i 2])) (.n (.n (.n (.n (.n (.n (.n (.e) (some (.tup [])) (.e)) (some (i 3)) (.e)) (some (.slc 385 4 0 3 (some 3))) (.n (.e) (some (.ptr 407 0)) (.e))) (some (i 5)) (.n (.n (.e) (some (.ptr 415 0)) (.e)) (some (.map 404)) (.n (.e) (some (i 6)) (.e)))) (some (.ptr 387 0)) (.n (.n (.n (.e) (some (.ptr 407 5)) (.e)) (some (.bool false)) (.n (.e) (some (.ptr 1240 0)) (.e))) (some (.agg [i 3, i 2, i 2])) (.n (.n (.e) (some (i 15)) (.e)) (some (.ptr 386 1)) (.n (.e) (some (i 5)) (.e))))) (some (.ptr 386 0)) (.n (.n (.n (.n (.e) (some (.ptr 385 8)) (.e)) (none) (.n (.e) (some (.nils)) (.e))) (none) (.n (.n (.e) (some (.slc 416 1 0 1 (some 1))) (.e)) (some (.ptr 407 0)) (.n (.e) (some (.bool false)) (.e)))) (some (.ptr 407 0)) (.n (.n (.n (.e) (some (.ptr 407 0)) (.e)) (none) (.n (.e) (some (i 5)) (.e))) (some (.bool false)) (.n (.n (.e) (some (i 6)) (.e)) (some (.ptr 407 0)) (.n (.e) (some (.ptr 407 0)) (.e)))))) (some (.slc 385 4 0 3 (some 3))) (.n (.n (.n (.n (.n (.n (.e) (some (i 6)) (.e)) (some (.bool false)) (.e)) (some (i 0)) (.n (.e) (some (i 5)) (.e))) (some (i 1)) (.n (.n (.e) (some (.slc 414 1 0 2 none)) (.e)) (some (.map 406)) (.n (.e) (some (i 6)) (.e)))) (some (i 0)) (.n (.n (.n (.e) (some (.ptr 415 0)) (.e)) (some (.bool false)) (.n (.e) (some (.ptr 407 0)) (.e))) (some (i 0)) (.n (.n (.e) (some (i 14)) (.e)) (some (i 6)) (.n (.e) (some (.ptr 2628 4)) (.e))))) (none) (.n (.n (.n (.n (.e) (some (.ptr 407 0)) (.e)) (some (i 20)) (.n (.e) (some (i 0)) (.e))) (none) (.n (.n (.e) (some (i 3)) (.e)) (some (.ptr 386 0)) (.n (.e) (some (.slc 2628 1 0 5 (some 5))) (.e)))) (some (.ptr 415 0)) (.n (.n (.n (.e) (some (.ptr 407 5)) (.e)) (some (.slc 365 1 0 6 (some 6))) (.n (.e) (some (.tup [])) (.e))) (none) (.n (.n (.e) (some (.bool false)) (.e)) (some (.ptr 407 10)) (.n (.e) (some (i 5)) (.e)))))))
noncomputable def rD : St := ⟨168, 0, rDR, rDH, 2639, []⟩
noncomputable def rEH : T O := .n (.n (.n (.n (.n (.n (.n (.n (.e) (none) (.n (.n (.e) (some (.cells (.n (.e) (some (.nils)) (.e)) 1)) (.e)) (some (.cells (.n (.n (.e) (some (i 65535)) (.e)) (some (i 7)) (.n (.e) (some (i 16)) (.e))) 3)) (.e))) (none) (.n (.e) (none) (.n (.e) (some (.cells (.n (.e) (some (.slc 470 1 2 0 none)) (.e)) 1)) (.e)))) (none) (.n (.n (.e) (none) (.n (.e) (some (.cells (.n (.n (.n (.e) (some (i 0)) (.e)) (some (i 0)) (.e)) (some (i 0)) (.n (.e) (some (i 7)) (.e))) 4)) (.e))) (none) (.n (.n (.n (.e) (some (.cells (.n (.e) (some (.nils)) (.e)) 1)) (.e)) (none) (.e)) (none) (.e)))) (none) (.n (.n (.e) (none) (.n (.n (.n (.e) (some (.cells (.n (.e) (some (.nils)) (.e)) 1)) (.e)) (none) (.e)) (none) (.n (.e) (some (.cells (.n (.n (.e) (some (i 1)) (.e)) (some (i 0)) (.e)) 2)) (.e)))) (none) (.e))) (none) (.n (.n (.n (.n (.e) (none) (.n (.n (.e) (some (.cells (.n (.e) (some (.nils)) (.e)) 1)) (.e)) (none) (.e))) (none) (.e)) (none) (.n (.e) (none) (.n (.e) (none) (.n (.e) (some (.cells (.n (.n (.n (.n (.e) (some (i 0)) (.e)) (some (i 0)) (.e)) (some (i 0)) (.n (.e) (some (i 0)) (.e))) (some (i 2)) (.n (.n (.e) (some (i 2)) (.e)) (some (i 1)) (.n (.e) (some (i 16)) (.e)))) 8)) (.e))))) (none) (.n (.n (.n (.e) (none) (.n (.n (.n (.e) (none) (.n (.e) (some (.cells (.n (.e) (some (i 19)) (.e)) 1)) (.e))) (none) (.e)) (some (.cells (.n (.n (.n (.n (.e) (some (.map 406)) (.e)) (some (.slc 365 1 0 6 (some 6))) (.n (.e) (some (i 0)) (.e))) (some (i 2)) (.n (.n (.e) (some (.slc 487 4 0 2 none)) (.e)) (some (.map 404)) (.e))) (some (i 3)) (.n (.n (.n (.e) (some (.slc 1318 3 0 6 none)) (.e)) (some (.slc 385 4 0 3 (some 3))) (.e)) (some (i 2)) (.n (.n (.e) (some (.slc 408 2 0 6 (some 6))) (.e)) (some (.map 405)) (.e)))) 12)) (.e))) (none) (.n (.n (.n (.e) (some (.cells (.n (.e) (some (.nils)) (.e)) 1)) (.e)) (none) (.e)) (none) (.e))) (none) (.n (.n (.e) (none) (.n (.e) (some (.cells (.n (.e) (some (.slc 463 1 2 0 none)) (.e)) 1)) (.e))) (none) (.e))))) (none) (.n (.n (.n (.n (.n (.e) (none) (.n (.n (.e) (some (.cells (.n (.e) (some (.nils)) (.e)) 1)) (.e)) (some (.cells (.n (.n (.n (.e) (some (i 0)) (.e)) (some (.nils)) (.e)) (some (.nils)) (.n (.e) (some (.nils)) (.e))) 4)) (.e))) (none) (.e)) (none) (.e)) (none) (.n (.n (.e) (none) (.n (.n (.n (.e) (some (.cells (.n (.e) (some (.nils)) (.e)) 1)) (.e)) (none) (.e)) (none) (.e))) (none) (.e))) (none) (.n (.n (.n (.n (.e) (none) (.n (.n (.e) (some (.cells (.n (.e) (some (.nils)) (.e)) 1)) (.e)) (none) (.e))) (none) (.e)) (none) (.e)) (none) (.n (.n (.e) (none) (.n (.n (.n (.e) (some (.cells (.n (.e) (some (.nils)) (.e)) 1)) (.e)) (none) (.e)) (none) (.e))) (none) (.n (.e) (none) (.n (.n (.n (.e) (some (.cells (.n (.e) (some (.nils)) (.e)) 1)) (.e)) (none) (.e)) (none) (.e))))))) (none) (.n (.n (.n (.n (.n (.n (.e) (none) (.n (.n (.e) (some (.cells (.n (.e) (some (.nils)) (.e)) 1)) (.e)) (some (.cells (.n (.n (.n (.n (.e) (some (i 0)) (.e)) (some (i 0)) (.n (.e) (some (i 0)) (.e))) (some (i 0)) (.n (.n (.e) (some (i 0)) (.e)) (some (i 0)) (.e))) (some (i 0)) (.n (.n (.n (.e) (some (i 0)) (.e)) (some (i 0)) (.e)) (some (i 7)) (.n (.n (.e) (some (i 7)) (.e)) (some (i 7)) (.e)))) 12)) (.e))) (none) (.e)) (none) (.n (.n (.n (.n (.e) (some (.cells (.n (.e) (some (.nils)) (.e)) 1)) (.e)) (none) (.e)) (none) (.n (.e) (some (.cells (.n (.n (.e) (some (i 1)) (.e)) (some (i 0)) (.n (.e) (some (i 2)) (.e))) 3)) (.e))) (none) (.n (.n (.n (.e) (some (.cells (.n (.e) (some (.slc 1053 1 1 0 none)) (.e)) 1)) (.e)) (none) (.e)) (none) (.e)))) (none) (.n (.n (.e) (none) (.n (.n (.n (.e) (some (.cells (.n (.e) (some (.nils)) (.e)) 1)) (.e)) (none) (.e)) (none) (.e))) (none) (.e))) (none) (.n (.n (.n (.n (.e) (none) (.n (.n (.e) (some (.cells (.n (.e) (some (.nils)) (.e)) 1)) (.e)) (none) (.e))) (none) (.e)) (none) (.e)) (none) (.n (.n (.e) (none) (.n (.n (.n (.e) (some (.cells (.n (.e) (some (.nils)) (.e)) 1)) (.e)) (none) (.e)) (none) (.e))) (none) (.n (.e) (none) (.n (.n (.n (.e) (some (.cells (.n (.e) (some (.nils)) (.e)) 1)) (.e)) (none) (.e)) (none) (.e)))))) (none) (.n (.n (.n (.n (.n (.e) (none) (.n (.n (.e) (some (.cells (.n (.e) (some (.nils)) (.e)) 1)) (.e)) (none) (.e))) (none) (.e)) (none) (.e)) (none) (.n (.n (.n (.e) (none) (.n (.e) (some (.map [(.agg [i 0, i 1, i 0], .ptr 439 0, 0), (.agg [i 0, i 16, i 0], .ptr 447 0, 1), (.agg [i 0, i 1, i 1], .ptr 545 0, 2), (.agg [i 0, i 2, i 1], .ptr 552 0, 3), (.agg [i 0, i 2, i 0], .ptr 554 0, 4), (.agg [i 0, i 4, i 1], .ptr 556 0, 5), (.agg [i 0, i 4, i 0], .ptr 558 0, 6), (.agg [i 0, i 8, i 1], .ptr 560 0, 7), (.agg [i 0, i 8, i 0], .ptr 562 0, 8), (.agg [i 0, i 16, i 1], .ptr 564 0, 9), (.agg [i 1, i 1, i 1], .ptr 570 0, 10), (.agg [i 1, i 1, i 0], .ptr 572 0, 11), (.agg [i 1, i 2, i 1], .ptr 574 0, 12), (.agg [i 1, i 2, i 0], .ptr 576 0, 13), (.agg [i 1, i 4, i 1], .ptr 578 0, 14), (.agg [i 1, i 4, i 0], .ptr 580 0, 15), (.agg [i 1, i 8, i 1], .ptr 582 0, 16), (.agg [i 1, i 8, i 0], .ptr 584 0, 17), (.agg [i 1, i 16, i 1], .ptr 586 0, 18), (.agg [i 1, i 16, i 0], .ptr 588 0, 19), (.agg [i 2, i 1, i 1], .ptr 591 0, 20), (.agg [i 2, i 1, i 0], .ptr 593 0, 21), (.agg [i 2, i 2, i 1], .ptr 595 0, 22), (.agg [i 2, i 2, i 0], .ptr 597 0, 23), (.agg [i 2, i 4, i 1], .ptr 599 0, 24), (.agg [i 2, i 4, i 0], .ptr 601 0, 25), (.agg [i 2, i 8, i 1], .ptr 603 0, 26), (.agg [i 2, i 8, i 0], .ptr 605 0, 27), (.agg [i 2, i 16, i 1], .ptr 607 0, 28), (.agg [i 2, i 16, i 0], .ptr 609 0, 29), (.agg [i 3, i 1, i 1], .ptr 612 0, 30), (.agg [i 3, i 1, i 0], .ptr 614 0, 31), (.agg [i 3, i 2, i 1], .ptr 616 0, 32), (.agg [i 3, i 2, i 0], .ptr 618 0, 33), (.agg [i 3, i 4, i 1], .ptr 620 0, 34), (.agg [i 3, i 4, i 0], .ptr 622 0, 35), (.agg [i 3, i 8, i 1], .ptr 624 0, 36), (.agg [i 3, i 8, i 0], .ptr 626 0, 37), (.agg [i 3, i 16, i 1], .ptr 628 0, 38), (.agg [i 3, i 16, i 0], .ptr 630 0, 39), (.agg [i 4, i 1, i 1], .ptr 633 0, 40), (.agg [i 4, i 1, i 0], .ptr 635 0, 41), (.agg [i 4, i 2, i 1], .ptr 637 0, 42), (.agg [i 4, i 2, i 0], .ptr 639 0, 43), (.agg [i 4, i 4, i 1], .ptr 641 0, 44), (.agg [i 4, i 4, i 0], .ptr 643 0, 45), (.agg [i 4, i 8, i 1], .ptr 645 0, 46), (.agg [i 4, i 8, i 0], .ptr 647 0, 47), (.agg [i 4, i 16, i 1], .ptr 649 0, 48), (.agg [i 4, i 16, i 0], .ptr 651 0, 49), (.agg [i 5, i 1, i 1], .ptr 654 0, 50), (.agg [i 5, i 1, i 0], .ptr 656 0, 51), (.agg [i 5, i 2, i 1], .ptr 658 0, 52), (.agg [i 5, i 2, i 0], .ptr 660 0, 53), (.agg [i 5, i 4, i 1], .ptr 662 0, 54), (.agg [i 5, i 4, i 0], .ptr 664 0, 55), (.agg [i 5, i 8, i 1], .ptr 666 0, 56), (.agg [i 5, i 8, i 0], .ptr 668 0, 57), (.agg [i 5, i 16, i 1], .ptr 670 0, 58), (.agg [i 5, i 16, i 0], .ptr 672 0, 59)] 60)) (.e))) (none) (.n (.n (.n (.e) (some (.cells (.n (.e) (some (.slc 1046 1 1 0 none)) (.e)) 1)) (.e)) (none) (.e)) (none) (.e))) (none) (.n (.e) (none) (.n (.n (.e) (some (.cells (.n (.n (.n (.e) (some (i 7)) (.e)) (some (i 65535)) (.n (.e) (some (i 1)) (.e))) (some (i 3)) (.n (.n (.e) (some (i 65535)) (.e)) (some (i 16)) (.e))) 6)) (.e)) (none) (.e))))) (none) (.n (.n (.e) (none) (.n (.e) (none) (.n (.n (.e) (some (.cells (.n (.n (.n (.e) (some (.nils)) (.e)) (some (.slc 373 3 0 2 none)) (.n (.e) (some (.slc 383 3 0 1 none)) (.e))) (some (.slc 368 3 0 1 none)) (.n (.n (.e) (some (.nils)) (.e)) (some (.slc 378 3 0 1 none)) (.e))) 6)) (.e)) (none) (.e)))) (none) (.n (.n (.n (.n (.n (.n (.e) (some (.cells (.n (.e) (some (i 1)) (.e)) 1)) (.e)) (none) (.e)) (none) (.e)) (none) (.e)) (none) (.n (.n (.n (.e) (some (.cells (.n (.e) (some (.nils)) (.e)) 1)) (.e)) (none) (.e)) (none) (.e))) (none) (.n (.e) (none) (.n (.n (.n (.e) (some (.cells (.n (.e) (some (.nils)) (.e)) 1)) (.e)) (none) (.e)) (none) (.e)))))))) (some (.cells (.n (.n (.e) (some (i 2)) (.e)) (some (i 3)) (.n (.e) (some (i 2)) (.e))) 3)) (.n (.n (.n (.n (.n (.n (.e) (none) (.n (.n (.n (.e) (some (.cells (.n (.e) (some (.nils)) (.e)) 1)) (.e)) (none) (.e)) (none) (.e))) (none) (.n (.n (.e) (none) (.n (.n (.e) (some (.cells (.n (.e) (some (.slc 1250 1 1 0 none)) (.e)) 1)) (.e)) (some (.cells (.n (.e) (some (i 2)) (.e)) 1)) (.e))) (none) (.e))) (none) (.n (.n (.n (.e) (none) (.n (.n (.e) (some (.cells (.n (.e) (some (.nils)) (.e)) 1)) (.e)) (none) (.e))) (none) (.e)) (none) (.n (.n (.n (.n (.e) (some (.cells (.n (.e) (some (.nils)) (.e)) 1)) (.e)) (none) (.e)) (none) (.e)) (none) (.n (.n (.n (.e) (some (.cells (.n (.e) (some (.nils)) (.e)) 1)) (.e)) (some (.cells (.n (.n (.e) (some (i 65535)) (.e)) (some (i 7)) (.n (.e) (some (i 17)) (.e))) 3)) (.e)) (none) (.e))))) (none) (.n (.n (.n (.e) (none) (.n (.n (.n (.e) (some (.cells (.n (.e) (some (.nils)) (.e)) 1)) (.e)) (none) (.e)) (none) (.e))) (none) (.n (.n (.n (.n (.e) (some (.cells (.n (.e) (some (.nils)) (.e)) 1)) (.e)) (none) (.e)) (none) (.e)) (none) (.n (.n (.n (.e) (some (.cells (.n (.e) (some (.nils)) (.e)) 1)) (.e)) (none) (.e)) (none) (.e)))) (none) (.n (.n (.n (.e) (none) (.n (.n (.n (.e) (none) (.n (.e) (some (.cells (.n (.e) (some (i 5)) (.e)) 1)) (.e))) (some (.cells (.n (.e) (some (.nils)) (.e)) 1)) (.e)) (some (.cells (.n (.n (.n (.n (.e) (some (i 0)) (.e)) (some (i 0)) (.n (.e) (some (i 0)) (.e))) (some (i 0)) (.n (.n (.e) (some (i 0)) (.e)) (some (i 0)) (.e))) (some (i 2)) (.n (.n (.n (.e) (some (i 0)) (.e)) (some (i 1)) (.e)) (some (i 1)) (.n (.n (.e) (some (i 1)) (.e)) (some (i 0)) (.e)))) 12)) (.e))) (none) (.n (.e) (none) (.n (.n (.n (.e) (some (.cells (.n (.e) (some (i 1)) (.e)) 1)) (.n (.e) (some (.cells (.n (.n (.n (.e) (some (i 8)) (.e)) (some (i 2)) (.e)) (some (i 1)) (.n (.n (.e) (some (i 16)) (.e)) (some (i 4)) (.e))) 5)) (.e))) (none) (.e)) (none) (.e)))) (none) (.e)))) (none) (.n (.n (.n (.n (.e) (none) (.n (.n (.n (.e) (some (.cells (.n (.e) (some (.nils)) (.e)) 1)) (.e)) (none) (.e)) (none) (.e))) (none) (.n (.e) (none) (.n (.n (.n (.e) (some (.cells (.n (.e) (some (.nils)) (.e)) 1)) (.e)) (none) (.e)) (none) (.e)))) (none) (.n (.n (.n (.e) (none) (.n (.n (.e) (some (.cells (.n (.e) (some (.nils)) (.e)) 1)) (.e)) (some (.map [(i 0, .slc 417 1 0 3 none, 0)] 1)) (.e))) (none) (.e)) (none) (.n (.n (.n (.n (.e) (some (.cells (.n (.e) (some (.nils)) (.e)) 1)) (.e)) (none) (.e)) (none) (.e)) (none) (.n (.n (.n (.e) (some (.cells (.n (.e) (some (.nils)) (.e)) 1)) (.e)) (none) (.e)) (none) (.e))))) (none) (.n (.n (.n (.e) (none) (.n (.n (.n (.e) (some (.cells (.n (.e) (some (.nils)) (.e)) 1)) (.e)) (none) (.e)) (none) (.e))) (none) (.n (.n (.n (.n (.e) (some (.cells (.n (.e) (some (.nils)) (.e)) 1)) (.e)) (none) (.e)) (none) (.e)) (none) (.n (.n (.n (.e) (some (.cells (.n (.e) (some (.nils)) (.e)) 1)) (.e)) (none) (.e)) (none) (.e)))) (none) (.n (.n (.n (.e) (none) (.n (.n (.e) (some (.cells (.n (.e) (some (.nils)) (.e)) 1)) (.e)) (none) (.e))) (none) (.e)) (none) (.n (.n (.n (.n (.e) (some (.cells (.n (.e) (some (.slc 862 1 1 0 none)) (.e)) 1)) (.e)) (none) (.e)) (none) (.e)) (none) (.e)))))) (none) (.n (.n (.n (.n (.n (.n (.e) (none) (.n (.e) (some (.cells (.n (.n (.e) (some (i 2)) (.e)) (some (i 3)) (.n (.e) (some (i 2)) (.e))) 3)) (.e))) (none) (.n (.n (.n (.e) (some (.cells (.n (.e) (some (.nils)) (.e)) 1)) (.e)) (none) (.e)) (none) (.e))) (none) (.n (.e) (none) (.n (.e) (none) (.n (.n (.n (.e) (some (.cells (.n (.e) (some (i 1)) (.e)) 1)) (.e)) (none) (.e)) (none) (.e))))) (none) (.n (.n (.n (.e) (none) (.n (.n (.e) (some (.cells (.n (.e) (some (.nils)) (.e)) 1)) (.e)) (none) (.e))) (none) (.e)) (none) (.n (.n (.n (.n (.e) (some (.cells (.n (.e) (some (.nils)) (.e)) 1)) (.e)) (none) (.e)) (none) (.e)) (none) (.n (.n (.n (.e) (some (.cells (.n (.e) (some (.nils)) (.e)) 1)) (.e)) (none) (.e)) (none) (.e))))) (none) (.n (.n (.n (.e) (none) (.n (.n (.n (.e) (some (.cells (.n (.e) (some (.nils)) (.e)) 1)) (.e)) (none) (.e)) (none) (.e))) (none) (.n (.n (.n (.n (.e) (some (.cells (.n (.e) (some (.nils)) (.e)) 1)) (.e)) (none) (.e)) (none) (.e)) (none) (.n (.n (.n (.e) (some (.cells (.n (.e) (some (.nils)) (.e)) 1)) (.e)) (none) (.e)) (none) (.e)))) (none) (.n (.n (.n (.e) (none) (.n (.n (.e) (some (.cells (.n (.e) (some (.nils)) (.e)) 1)) (.e)) (none) (.e))) (none) (.e)) (none) (.n (.n (.n (.n (.e) (some (.cells (.n (.e) (some (.nils)) (.e)) 1)) (.e)) (none) (.e)) (none) (.e)) (none) (.n (.n (.e) (some (.cells (.n (.n (.e) (some (i 65535)) (.e)) (some (i 7)) (.n (.e) (some (i 18)) (.e))) 3)) (.e)) (none) (.e)))))) (none) (.n (.n (.n (.n (.e) (none) (.n (.n (.n (.e) (some (.cells (.n (.e) (some (.nils)) (.e)) 1)) (.e)) (none) (.e)) (none) (.e))) (none) (.n (.n (.n (.e) (none) (.n (.n (.e) (some (.cells (.n (.n (.n (.n (.n (.e) (some (i 1)) (.e)) (some (i 2)) (.e)) (some (i 1)) (.n (.e) (some (i 3)) (.e))) (some (i 0)) (.n (.n (.n (.e) (some (i 4)) (.e)) (some (i 1)) (.e)) (some (i 1)) (.n (.e) (some (i 5)) (.e)))) (some (i 0)) (.n (.n (.n (.n (.e) (some (i 5)) (.e)) (some (i 2)) (.e)) (some (i 0)) (.n (.e) (some (i 0)) (.e))) (some (i 0)) (.n (.n (.e) (some (i 2)) (.e)) (some (i 0)) (.n (.e) (some (i 3)) (.e))))) 18)) (.e)) (none) (.e))) (none) (.e)) (none) (.n (.n (.n (.e) (some (.cells (.n (.e) (some (.nils)) (.e)) 1)) (.e)) (none) (.e)) (none) (.e)))) (none) (.n (.n (.n (.n (.n (.n (.e) (some (.cells (.n (.e) (some (i 1)) (.e)) 1)) (.e)) (none) (.e)) (none) (.e)) (none) (.n (.n (.n (.e) (none) (.n (.e) (some (.cells (.n (.e) (some (.ptr 407 0)) (.e)) 1)) (.e))) (some (.cells (.n (.e) (some (.nils)) (.e)) 1)) (.e)) (some (.map [] 6)) (.e))) (none) (.n (.e) (none) (.n (.e) (some (.cells (.n (.n (.e) (some (i 1)) (.e)) (some (i 0)) (.e)) 2)) (.e)))) (none) (.n (.e) (none) (.n (.n (.n (.e) (some (.cells (.n (.e) (some (.nils)) (.e)) 1)) (.e)) (none) (.e)) (none) (.e))))) (none) (.n (.n (.n (.n (.e) (none) (.n (.n (.e) (some (.cells (.n (.e) (some (.nils)) (.e)) 1)) (.e)) (none) (.e))) (none) (.e)) (none) (.n (.n (.n (.n (.e) (some (.cells (.n (.e) (some (.nils)) (.e)) 1)) (.e)) (none) (.e)) (none) (.e)) (none) (.n (.n (.n (.e) (some (.cells (.n (.e) (some (.nils)) (.e)) 1)) (.e)) (none) (.e)) (none) (.e)))) (none) (.n (.n (.n (.e) (none) (.n (.n (.e) (some (.cells (.n (.e) (some (.nils)) (.e)) 1)) (.e)) (none) (.e))) (none) (.n (.n (.e) (none) (.n (.e) (some (.cells (.n (.e) (some (i 1)) (.e)) 1)) (.e))) (none) (.e))) (none) (.n (.n (.n (.n (.e) (some (.cells (.n (.e) (some (.nils)) (.e)) 1)) (.e)) (none) (.e)) (none) (.e)) (none) (.e)))))))
noncomputable def rER : T V := .n (.n (.n (.n (.n (.n (.n (.n (.e) (some (i 16)) (.e)) (some (.slc 385 4 0 3 (some 3))) (.e)) (some (.agg [i 3, i 2, i 2])) (.n (.e) (some (i 5)) (.e))) (some (i 19)) (.n (.n (.e) (some (.map 404)) (.e)) (some (.slc 385 4 0 3 (some 3))) (.n (.e) (some (i 1)) (.e)))) (none) (.n (.n (.n (.e) (some (.ptr 407 0)) (.e)) (some (.bool false)) (.n (.e) (some (.bool false)) (.e))) (none) (.n (.n (.e) (some (i 20)) (.e)) (some (i 3)) (.n (.e) (some (i 5)) (.e))))) (some (i 20)) (.n (.n (.n (.n (.n (.e) (some (i 20)) (.e)) (some (i 2)) (.e)) (some (.bool false)) (.n (.e) (some (.fn (.func 97) [] [.ptr 3224 0, .ptr 3222 0, .ptr 3223 0])) (.e))) (some (i 5)) (.n (.n (.e) (some (i 2)) (.e)) (some (.agg [i 3, i 2, i 2, .slc 365 1 0 6 (some 6), .slc 385 4 0 3 (some 3), .map 404, .map 405, .map 406, .nils, .nils, .nils, i 0])) (.n (.e) (some (i 6)) (.e)))) (some (i 0)) (.n (.n (.n (.e) (some (i 0)) (.e)) (some (.bool false)) (.n (.e) (some (i 4)) (.e))) (some (i 0)) (.n (.n (.e) (some (.slc 365 1 0 6 (some 6))) (.e)) (some (.slc 408 2 0 6 (some 6))) (.n (.e) (some (i 16)) (.e)))))) (some (.slc 365 1 0 6 (some 6))) (.n (.n (.n (.n (.n (.n (.e) (some (i 5)) (.e)) (some (i 3)) (.e)) (some (i 0)) (.n (.e) (some (i 19)) (.e))) (none) (.n (.n (.e) (some (i 0)) (.e)) (some (.map 405)) (.n (.e) (some (.slc 365 1 0 6 (some 6))) (.e)))) (some (i 0)) (.n (.n (.n (.e) (some (.map 404)) (.e)) (some (i 20)) (.n (.e) (some (i 1)) (.e))) (some (.slc 365 1 0 6 (some 6))) (.n (.n (.e) (some (.bool true)) (.e)) (some (i 2)) (.n (.e) (some (.bool false)) (.e))))) (none) (.n (.n (.n (.n (.e) (some (.agg [i 0, i 0, i 7, i 0])) (.e)) (none) (.n (.e) (some (i 0)) (.e))) (some (i 16)) (.n (.n (.e) (some (.slc 417 1 0 3 none)) (.e)) (some (.ptr 407 0)) (.n (.e) (some (i 5)) (.e)))) (some (i 2)) (.n (.n (.n (.e) (some (.ptr 407 0)) (.e)) (some (.agg [i 3, i 2, i 2])) (.n (.e) (some (i 1)) (.e))) (none) (.n (.n (.e) (some (i 6)) (.e)) (some (.ptr 407 8)) (.n (.e) (some (i 19)) (.e))))))) (some (.agg [i 3, i 2, i 2])) (.n (.n (.n (.n (.n (.n (.n (.e) (some (.tup [])) (.e)) (some (i 3)) (.e)) (some (.slc 385 4 0 3 (some 3))) (.n (.e) (some (.ptr 407 0)) (.e))) (some (i 5)) (.n (.n (.e) (some (.ptr 415 0)) (.e)) (some (.map 404)) (.n (.e) (some (i 6)) (.e)))) (some (.ptr 387 0)) (.n (.n (.n (.e) (some (.ptr 407 5)) (.e)) (some (.bool false)) (.n (.e) (some (.ptr 1240 0)) (.e))) (some (.agg [i 3, i 2, i 2])) (.n (.n (.e) (some (i 20)) (.e)) (some (.ptr 386 1)) (.n (.e) (some (i 5)) (.e))))) (some (.ptr 386 0)) (.n (.n (.n (.n (.e) (some (.ptr 385 8)) (.e)) (none) (.n (.e) (some (.nils)) (.e))) (none) (.n (.n (.e) (some (.slc 416 1 0 1 (some 1))) (.e)) (some (.ptr 407 0)) (.n (.e) (some (.bool false)) (.e)))) (some (.ptr 407 0)) (.n (.n (.n (.e) (some (.ptr 407 0)) (.e)) (none) (.n (.e) (some (i 5)) (.e))) (some (.bool false)) (.n (.n (.e) (some (i 6)) (.e)) (some (.ptr 407 0)) (.n (.e) (some (.ptr 407 0)) (.e)))))) (some (.slc 385 4 0 3 (some 3))) (.n (.n (.n (.n (.n (.n (.e) (some (i 6)) (.e)) (some (.bool false)) (.e)) (some (i 0)) (.n (.e) (some (i 5)) (.e))) (some (i 1)) (.n (.n (.e) (some (.slc 414 1 0 2 none)) (.e)) (some (.map 406)) (.n (.e) (some (i 6)) (.e)))) (some (i 0)) (.n (.n (.n (.e) (some (.ptr 415 0)) (.e)) (some (.bool false)) (.n (.e) (some (.ptr 407 0)) (.e))) (some (i 0)) (.n (.n (.e) (some (i 19)) (.e)) (some (i 6)) (.n (.e) (some (.ptr 3288 4)) (.e))))) (none) (.n (.n (.n (.n (.e) (some (.ptr 407 0)) (.e)) (some (i 20)) (.n (.e) (some (i 0)) (.e))) (none) (.n (.n (.e) (some (i 3)) (.e)) (some (.ptr 386 0)) (.n (.e) (some (.slc 3288 1 0 5 (some 5))) (.e)))) (some (.ptr 415 0)) (.n (.n (.n (.e) (some (.ptr 407 5)) (.e)) (some (.slc 365 1 0 6 (some 6))) (.n (.e) (some (.tup [])) (.e))) (none) (.n (.n (.e) (some (.bool false)) (.e)) (some (.ptr 407 10)) (.n (.e) (some (i 5)) (.e)))))))
noncomputable def rE : St := ⟨168, 0, rER, rEH, 3299, []⟩
noncomputable def rFH : T O := .n (.n (.n (.n (.n (.n (.n (.n (.e) (none) (.n (.n (.e) (some (.cells (.n (.e) (some (.nils)) (.e)) 1)) (.e)) (some (.cells (.n (.n (.e) (some (i 65535)) (.e)) (some (i 7)) (.n (.e) (some (i 16)) (.e))) 3)) (.e))) (none) (.n (.e) (none) (.n (.e) (some (.cells (.n (.e) (some (.slc 470 1 2 0 none)) (.e)) 1)) (.e)))) (none) (.n (.n (.e) (none) (.n (.e) (some (.cells (.n (.n (.n (.e) (some (i 0)) (.e)) (some (i 0)) (.e)) (some (i 0)) (.n (.e) (some (i 7)) (.e))) 4)) (.e))) (none) (.n (.n (.n (.e) (some (.cells (.n (.e) (some (.nils)) (.e)) 1)) (.e)) (none) (.e)) (none) (.e)))) (none) (.n (.n (.e) (none) (.n (.n (.n (.e) (some (.cells (.n (.e) (some (.nils)) (.e)) 1)) (.e)) (none) (.e)) (none) (.n (.e) (some (.cells (.n (.n (.e) (some (i 1)) (.e)) (some (i 0)) (.e)) 2)) (.e)))) (none) (.e))) (none) (.n (.n (.n (.n (.e) (none) (.n (.n (.e) (some (.cells (.n (.e) (some (.nils)) (.e)) 1)) (.e)) (none) (.e))) (none) (.e)) (none) (.n (.e) (none) (.n (.e) (none) (.n (.e) (some (.cells (.n (.n (.n (.n (.e) (some (i 0)) (.e)) (some (i 0)) (.e)) (some (i 0)) (.n (.e) (some (i 0)) (.e))) (some (i 2)) (.n (.n (.e) (some (i 2)) (.e)) (some (i 1)) (.n (.e) (some (i 16)) (.e)))) 8)) (.e))))) (none) (.n (.n (.n (.e) (none) (.n (.n (.n (.e) (none) (.n (.e) (some (.cells (.n (.e) (some (i 19)) (.e)) 1)) (.e))) (none) (.e)) (some (.cells (.n (.n (.n (.n (.e) (some (.map 406)) (.e)) (some (.slc 365 1 0 6 (some 6))) (.n (.e) (some (i 0)) (.e))) (some (i 2)) (.n (.n (.e) (some (.slc 487 4 0 2 none)) (.e)) (some (.map 404)) (.e))) (some (i 3)) (.n (.n (.n (.e) (some (.slc 1318 3 0 6 none)) (.e)) (some (.slc 385 4 0 3 (some 3))) (.e)) (some (i 2)) (.n (.n (.e) (some (.slc 408 2 0 6 (some 6))) (.e)) (some (.map 405)) (.e)))) 12)) (.e))) (none) (.n (.n (.n (.e) (some (.cells (.n (.e) (some (.nils)) (.e)) 1)) (.e)) (none) (.e)) (none) (.e))) (none) (.n (.n (.e) (none) (.n (.e) (some (.cells (.n (.e) (some (.slc 463 1 2 0 none)) (.e)) 1)) (.e))) (none) (.e))))) (none) (.n (.n (.n (.n (.n (.e) (none) (.n (.n (.e) (some (.cells (.n (.e) (some (.nils)) (.e)) 1)) (.e)) (some (.cells (.n (.n (.n (.e) (some (i 0)) (.e)) (some (.nils)) (.e)) (some (.nils)) (.n (.e) (some (.nils)) (.e))) 4)) (.e))) (none) (.e)) (none) (.e)) (none) (.n (.n (.e) (none) (.n (.n (.n (.e) (some (.cells (.n (.e) (some (.nils)) (.e)) 1)) (.e)) (none) (.e)) (none) (.e))) (none) (.e))) (none) (.n (.n (.n (.n (.e) (none) (.n (.n (.e) (some (.cells (.n (.e) (some (.nils)) (.e)) 1)) (.e)) (none) (.e))) (none) (.e)) (none) (.e)) (none) (.n (.n (.e) (none) (.n (.n (.n (.e) (some (.cells (.n (.e) (some (.nils)) (.e)) 1)) (.e)) (none) (.e)) (none) (.e))) (none) (.n (.e) (none) (.n (.n (.n (.e) (some (.cells (.n (.e) (some (.nils)) (.e)) 1)) (.e)) (none) (.e)) (none) (.e))))))) (none) (.n (.n (.n (.n (.n (.n (.e) (none) (.n (.n (.e) (some (.cells (.n (.e) (some (.nils)) (.e)) 1)) (.e)) (some (.cells (.n (.n (.n (.n (.e) (some (i 0)) (.e)) (some (i 0)) (.n (.e) (some (i 0)) (.e))) (some (i 0)) (.n (.n (.e) (some (i 0)) (.e)) (some (i 0)) (.e))) (some (i 0)) (.n (.n (.n (.e) (some (i 0)) (.e)) (some (i 0)) (.e)) (some (i 7)) (.n (.n (.e) (some (i 7)) (.e)) (some (i 7)) (.e)))) 12)) (.e))) (none) (.e)) (none) (.n (.n (.n (.n (.e) (some (.cells (.n (.e) (some (.nils)) (.e)) 1)) (.e)) (none) (.e)) (none) (.n (.e) (some (.cells (.n (.n (.e) (some (i 1)) (.e)) (some (i 0)) (.n (.e) (some (i 2)) (.e))) 3)) (.e))) (none) (.n (.n (.n (.e) (some (.cells (.n (.e) (some (.slc 1053 1 1 0 none)) (.e)) 1)) (.e)) (none) (.e)) (none) (.e)))) (none) (.n (.n (.e) (none) (.n (.n (.n (.e) (some (.cells (.n (.e) (some (.nils)) (.e)) 1)) (.e)) (none) (.e)) (none) (.e))) (none) (.e))) (none) (.n (.n (.n (.n (.e) (none) (.n (.n (.e) (some (.cells (.n (.e) (some (.nils)) (.e)) 1)) (.e)) (none) (.e))) (none) (.e)) (none) (.e)) (none) (.n (.n (.e) (none) (.n (.n (.n (.e) (some (.cells (.n (.e) (some (.nils)) (.e)) 1)) (.e)) (none) (.e)) (none) (.e))) (none) (.n (.e) (none) (.n (.n (.n (.e) (some (.cells (.n (.e) (some (.nils)) (.e)) 1)) (.e)) (none) (.e)) (none) (.e)))))) (none) (.n (.n (.n (.n (.n (.e) (none) (.n (.n (.e) (some (.cells (.n (.e) (some (.nils)) (.e)) 1)) (.e)) (none) (.e))) (none) (.e)) (none) (.e)) (none) (.n (.n (.n (.e) (none) (.n (.e) (some (.map [(.agg [i 0, i 1, i 0], .ptr 439 0, 0), (.agg [i 0, i 16, i 0], .ptr 447 0, 1), (.agg [i 0, i 1, i 1], .ptr 545 0, 2), (.agg [i 0, i 2, i 1], .ptr 552 0, 3), (.agg [i 0, i 2, i 0], .ptr 554 0, 4), (.agg [i 0, i 4, i 1], .ptr 556 0, 5), (.agg [i 0, i 4, i 0], .ptr 558 0, 6), (.agg [i 0, i 8, i 1], .ptr 560 0, 7), (.agg [i 0, i 8, i 0], .ptr 562 0, 8), (.agg [i 0, i 16, i 1], .ptr 564 0, 9), (.agg [i 1, i 1, i 1], .ptr 570 0, 10), (.agg [i 1, i 1, i 0], .ptr 572 0, 11), (.agg [i 1, i 2, i 1], .ptr 574 0, 12), (.agg [i 1, i 2, i 0], .ptr 576 0, 13), (.agg [i 1, i 4, i 1], .ptr 578 0, 14), (.agg [i 1, i 4, i 0], .ptr 580 0, 15), (.agg [i 1, i 8, i 1], .ptr 582 0, 16), (.agg [i 1, i 8, i 0], .ptr 584 0, 17), (.agg [i 1, i 16, i 1], .ptr 586 0, 18), (.agg [i 1, i 16, i 0], .ptr 588 0, 19), (.agg [i 2, i 1, i 1], .ptr 591 0, 20), (.agg [i 2, i 1, i 0], .ptr 593 0, 21), (.agg [i 2, i 2, i 1], .ptr 595 0, 22), (.agg [i 2, i 2, i 0], .ptr 597 0, 23), (.agg [i 2, i 4, i 1], .ptr 599 0, 24), (.agg [i 2, i 4, i 0], .ptr 601 0, 25), (.agg [i 2, i 8, i 1], .ptr 603 0, 26), (.agg [i 2, i 8, i 0], .ptr 605 0, 27), (.agg [i 2, i 16, i 1], .ptr 607 0, 28), (.agg [i 2, i 16, i 0], .ptr 609 0, 29), (.agg [i 3, i 1, i 1], .ptr 612 0, 30), (.agg [i 3, i 1, i 0], .ptr 614 0, 31), (.agg [i 3, i 2, i 1], .ptr 616 0, 32), (.agg [i 3, i 2, i 0], .ptr 618 0, 33), (.agg [i 3, i 4, i 1], .ptr 620 0, 34), (.agg [i 3, i 4, i 0], .ptr 622 0, 35), (.agg [i 3, i 8, i 1], .ptr 624 0, 36), (.agg [i 3, i 8, i 0], .ptr 626 0, 37), (.agg [i 3, i 16, i 1], .ptr 628 0, 38), (.agg [i 3, i 16, i 0], .ptr 630 0, 39), (.agg [i 4, i 1, i 1], .ptr 633 0, 40), (.agg [i 4, i 1, i 0], .ptr 635 0, 41), (.agg [i 4, i 2, i 1], .ptr 637 0, 42), (.agg [i 4, i 2, i 0], .ptr 639 0, 43), (.agg [i 4, i 4, i 1], .ptr 641 0, 44), (.agg [i 4, i 4, i 0], .ptr 643 0, 45), (.agg [i 4, i 8, i 1], .ptr 645 0, 46), (.agg [i 4, i 8, i 0], .ptr 647 0, 47), (.agg [i 4, i 16, i 1], .ptr 649 0, 48), (.agg [i 4, i 16, i 0], .ptr 651 0, 49), (.agg [i 5, i 1, i 1], .ptr 654 0, 50), (.agg [i 5, i 1, i 0], .ptr 656 0, 51), (.agg [i 5, i 2, i 1], .ptr 658 0, 52), (.agg [i 5, i 2, i 0], .ptr 660 0, 53), (.agg [i 5, i 4, i 1], .ptr 662 0, 54), (.agg [i 5, i 4, i 0], .ptr 664 0, 55), (.agg [i 5, i 8, i 1], .ptr 666 0, 56), (.agg [i 5, i 8, i 0], .ptr 668 0, 57), (.agg [i 5, i 16, i 1], .ptr 670 0, 58), (.agg [i 5, i 16, i 0], .ptr 672 0, 59)] 60)) (.e))) (none) (.n (.n (.n (.e) (some (.cells (.n (.e) (some (.slc 1046 1 1 0 none)) (.e)) 1)) (.e)) (none) (.e)) (none) (.e))) (none) (.n (.e) (none) (.n (.n (.e) (some (.cells (.n (.n (.n (.e) (some (i 7)) (.e)) (some (i 65535)) (.n (.e) (some (i 1)) (.e))) (some (i 3)) (.n (.n (.e) (some (i 65535)) (.e)) (some (i 16)) (.e))) 6)) (.e)) (none) (.e))))) (none) (.n (.n (.e) (none) (.n (.e) (none) (.n (.n (.e) (some (.cells (.n (.n (.n (.e) (some (.nils)) (.e)) (some (.slc 373 3 0 2 none)) (.n (.e) (some (.slc 383 3 0 1 none)) (.e))) (some (.slc 368 3 0 1 none)) (.n (.n (.e) (some (.nils)) (.e)) (some (.slc 378 3 0 1 none)) (.e))) 6)) (.e)) (none) (.e)))) (none) (.n (.n (.n (.n (.n (.n (.e) (some (.cells (.n (.e) (some (i 1)) (.e)) 1)) (.e)) (none) (.e)) (none) (.e)) (none) (.e)) (none) (.n (.n (.n (.e) (some (.cells (.n (.e) (some (.nils)) (.e)) 1)) (.e)) (none) (.e)) (none) (.e))) (none) (.n (.e) (none) (.n (.n (.n (.e) (some (.cells (.n (.e) (some (.nils)) (.e)) 1)) (.e)) (none) (.e)) (none) (.e)))))))) (some (.cells (.n (.n (.e) (some (i 2)) (.e)) (some (i 3)) (.n (.e) (some (i 2)) (.e))) 3)) (.n (.n (.n (.n (.n (.n (.e) (none) (.n (.n (.n (.e) (some (.cells (.n (.e) (some (.nils)) (.e)) 1)) (.e)) (none) (.e)) (none) (.e))) (none) (.n (.n (.e) (none) (.n (.n (.e) (some (.cells (.n (.e) (some (.slc 1250 1 1 0 none)) (.e)) 1)) (.e)) (some (.cells (.n (.e) (some (i 2)) (.e)) 1)) (.e))) (none) (.e))) (none) (.n (.n (.n (.e) (none) (.n (.n (.e) (some (.cells (.n (.e) (some (.nils)) (.e)) 1)) (.e)) (none) (.e))) (none) (.e)) (none) (.n (.n (.n (.n (.e) (some (.cells (.n (.e) (some (.nils)) (.e)) 1)) (.e)) (none) (.e)) (none) (.e)) (none) (.n (.n (.n (.e) (some (.cells (.n (.e) (some (.nils)) (.e)) 1)) (.e)) (some (.cells (.n (.n (.e) (some (i 65535)) (.e)) (some (i 7)) (.n (.e) (some (i 17)) (.e))) 3)) (.e)) (none) (.e))))) (none) (.n (.n (.n (.e) (none) (.n (.n (.n (.e) (some (.cells (.n (.e) (some (.nils)) (.e)) 1)) (.e)) (none) (.e)) (none) (.e))) (none) (.n (.n (.n (.n (.e) (some (.cells (.n (.e) (some (.nils)) (.e)) 1)) (.e)) (none) (.e)) (none) (.e)) (none) (.n (.n (.n (.e) (some (.cells (.n (.e) (some (.nils)) (.e)) 1)) (.e)) (none) (.e)) (none) (.e)))) (none) (.n (.n (.n (.e) (none) (.n (.n (.n (.e) (none) (.n (.e) (some (.cells (.n (.e) (some (i 5)) (.e)) 1)) (.e))) (some (.cells (.n (.e) (some (.nils)) (.e)) 1)) (.e)) (some (.cells (.n (.n (.n (.n (.e) (some (i 0)) (.e)) (some (i 0)) (.n (.e) (some (i 0)) (.e))) (some (i 0)) (.n (.n (.e) (some (i 0)) (.e)) (some (i 0)) (.e))) (some (i 2)) (.n (.n (.n (.e) (some (i 0)) (.e)) (some (i 1)) (.e)) (some (i 1)) (.n (.n (.e) (some (i 1)) (.e)) (some (i 0)) (.e)))) 12)) (.e))) (none) (.n (.e) (none) (.n (.n (.n (.e) (some (.cells (.n (.e) (some (i 1)) (.e)) 1)) (.n (.e) (some (.cells (.n (.n (.n (.e) (some (i 8)) (.e)) (some (i 2)) (.e)) (some (i 1)) (.n (.n (.e) (some (i 16)) (.e)) (some (i 4)) (.e))) 5)) (.e))) (none) (.e)) (none) (.e)))) (none) (.e)))) (none) (.n (.n (.n (.n (.e) (none) (.n (.n (.n (.e) (some (.cells (.n (.e) (some (.nils)) (.e)) 1)) (.e)) (none) (.e)) (none) (.e))) (none) (.n (.e) (none) (.n (.n (.n (.e) (some (.cells (.n (.e) (some (.nils)) (.e)) 1)) (.e)) (none) (.e)) (none) (.e)))) (none) (.n (.n (.n (.e) (none) (.n (.n (.e) (some (.cells (.n (.e) (some (.nils)) (.e)) 1)) (.e)) (some (.map [(i 0, .slc 417 1 0 3 none, 0)] 1)) (.e))) (none) (.e)) (none) (.n (.n (.n (.n (.e) (some (.cells (.n (.e) (some (.nils)) (.e)) 1)) (.e)) (none) (.e)) (none) (.e)) (none) (.n (.n (.n (.e) (some (.cells (.n (.e) (some (.nils)) (.e)) 1)) (.e)) (none) (.e)) (none) (.e))))) (none) (.n (.n (.n (.e) (none) (.n (.n (.n (.e) (some (.cells (.n (.e) (some (.nils)) (.e)) 1)) (.e)) (none) (.e)) (none) (.e))) (none) (.n (.n (.n (.n (.e) (some (.cells (.n (.e) (some (.nils)) (.e)) 1)) (.e)) (none) (.e)) (none) (.e)) (none) (.n (.n (.n (.e) (some (.cells (.n (.e) (some (.nils)) (.e)) 1)) (.e)) (none) (.e)) (none) (.e)))) (none) (.n (.n (.n (.e) (none) (.n (.n (.e) (some (.cells (.n (.e) (some (.nils)) (.e)) 1)) (.e)) (none) (.e))) (none) (.e)) (none) (.n (.n (.n (.n (.e) (some (.cells (.n (.e) (some (.slc 862 1 1 0 none)) (.e)) 1)) (.e)) (none) (.e)) (none) (.e)) (none) (.e)))))) (none) (.n (.n (.n (.n (.n (.n (.e) (none) (.n (.e) (some (.cells (.n (.n (.e) (some (i 2)) (.e)) (some (i 3)) (.n (.e) (some (i 2)) (.e))) 3)) (.e))) (none) (.n (.n (.n (.e) (some (.cells (.n (.e) (some (.nils)) (.e)) 1)) (.e)) (none) (.e)) (none) (.e))) (none) (.n (.e) (none) (.n (.e) (none) (.n (.n (.n (.e) (some (.cells (.n (.e) (some (i 1)) (.e)) 1)) (.e)) (none) (.e)) (none) (.e))))) (none) (.n (.n (.n (.e) (none) (.n (.n (.e) (some (.cells (.n (.e) (some (.nils)) (.e)) 1)) (.e)) (none) (.e))) (none) (.e)) (none) (.n (.n (.n (.n (.e) (some (.cells (.n (.e) (some (.nils)) (.e)) 1)) (.e)) (none) (.e)) (none) (.e)) (none) (.n (.n (.n (.e) (some (.cells (.n (.e) (some (.nils)) (.e)) 1)) (.e)) (none) (.e)) (none) (.e))))) (none) (.n (.n (.n (.e) (none) (.n (.n (.n (.e) (some (.cells (.n (.e) (some (.nils)) (.e)) 1)) (.e)) (none) (.e)) (none) (.e))) (none) (.n (.n (.n (.n (.e) (some (.cells (.n (.e) (some (.nils)) (.e)) 1)) (.e)) (none) (.e)) (none) (.e)) (none) (.n (.n (.n (.e) (some (.cells (.n (.e) (some (.nils)) (.e)) 1)) (.e)) (none) (.e)) (none) (.e)))) (none) (.n (.n (.n (.e) (none) (.n (.n (.e) (some (.cells (.n (.e) (some (.nils)) (.e)) 1)) (.e)) (none) (.e))) (none) (.e)) (none) (.n (.n (.n (.n (.e) (some (.cells (.n (.e) (some (.nils)) (.e)) 1)) (.e)) (none) (.e)) (none) (.e)) (none) (.n (.n (.e) (some (.cells (.n (.n (.e) (some (i 65535)) (.e)) (some (i 7)) (.n (.e) (some (i 18)) (.e))) 3)) (.e)) (none) (.e)))))) (none) (.n (.n (.n (.n (.e) (none) (.n (.n (.n (.e) (some (.cells (.n (.e) (some (.nils)) (.e)) 1)) (.e)) (none) (.e)) (none) (.e))) (none) (.n (.n (.n (.e) (none) (.n (.n (.e) (some (.cells (.n (.n (.n (.n (.n (.e) (some (i 1)) (.e)) (some (i 2)) (.e)) (some (i 1)) (.n (.e) (some (i 3)) (.e))) (some (i 0)) (.n (.n (.n (.e) (some (i 4)) (.e)) (some (i 1)) (.e)) (some (i 1)) (.n (.e) (some (i 5)) (.e)))) (some (i 0)) (.n (.n (.n (.n (.e) (some (i 5)) (.e)) (some (i 2)) (.e)) (some (i 0)) (.n (.e) (some (i 0)) (.e))) (some (i 0)) (.n (.n (.e) (some (i 2)) (.e)) (some (i 0)) (.n (.e) (some (i 3)) (.e))))) 18)) (.e)) (none) (.e))) (none) (.e)) (none) (.n (.n (.n (.e) (some (.cells (.n (.e) (some (.nils)) (.e)) 1)) (.e)) (none) (.e)) (none) (.e)))) (none) (.n (.n (.n (.n (.n (.n (.e) (some (.cells (.n (.e) (some (i 1)) (.e)) 1)) (.e)) (none) (.e)) (none) (.e)) (none) (.n (.n (.n (.e) (none) (.n (.e) (some (.cells (.n (.e) (some (.ptr 407 0)) (.e)) 1)) (.e))) (some (.cells (.n (.e) (some (.nils)) (.e)) 1)) (.e)) (some (.map [] 6)) (.e))) (none) (.n (.e) (none) (.n (.e) (some (.cells (.n (.n (.e) (some (i 1)) (.e)) (some (i 0)) (.e)) 2)) (.e)))) (none) (.n (.e) (none) (.n (.n (.n (.e) (some (.cells (.n (.e) (some (.nils)) (.e)) 1)) (.e)) (none) (.e)) (none) (.e))))) (none) (.n (.n (.n (.n (.e) (none) (.n (.n (.e) (some (.cells (.n (.e) (some (.nils)) (.e)) 1)) (.e)) (none) (.e))) (none) (.e)) (none) (.n (.n (.n (.n (.e) (some (.cells (.n (.e) (some (.nils)) (.e)) 1)) (.e)) (none) (.e)) (none) (.e)) (none) (.n (.n (.n (.e) (some (.cells (.n (.e) (some (.nils)) (.e)) 1)) (.e)) (none) (.e)) (none) (.e)))) (none) (.n (.n (.n (.e) (none) (.n (.n (.e) (some (.cells (.n (.e) (some (.nils)) (.e)) 1)) (.e)) (none) (.e))) (none) (.n (.n (.e) (none) (.n (.e) (some (.cells (.n (.e) (some (i 1)) (.e)) 1)) (.e))) (none) (.e))) (none) (.n (.n (.n (.n (.e) (some (.cells (.n (.e) (some (.nils)) (.e)) 1)) (.e)) (none) (.e)) (none) (.e)) (none) (.e)))))))
noncomputable def rFR : T V := .n (.n (.n (.n (.n (.n (.n (.n (.e) (some (i 16)) (.e)) (some (.slc 385 4 0 3 (some 3))) (.e)) (some (.agg [i 3, i 2, i 2])) (.n (.e) (some (i 5)) (.e))) (some (i 19)) (.n (.n (.e) (some (.map 404)) (.e)) (some (.slc 385 4 0 3 (some 3))) (.n (.e) (some (i 1)) (.e)))) (none) (.n (.n (.n (.e) (some (.ptr 407 0)) (.e)) (some (.bool false)) (.n (.e) (some (.bool false)) (.e))) (none) (.n (.n (.e) (some (i 20)) (.e)) (some (i 3)) (.n (.e) (some (i 5)) (.e))))) (some (i 20)) (.n (.n (.n (.n (.n (.e) (some (i 20)) (.e)) (some (i 2)) (.e)) (some (.bool false)) (.n (.e) (some (.fn (.func 97) [] [.ptr 3224 0, .ptr 3222 0, .ptr 3223 0])) (.e))) (some (i 5)) (.n (.n (.e) (some (i 2)) (.e)) (some (.agg [i 3, i 2, i 2, .slc 365 1 0 6 (some 6), .slc 385 4 0 3 (some 3), .map 404, .map 405, .map 406, .nils, .nils, .nils, i 0])) (.n (.e) (some (i 6)) (.e)))) (some (i 0)) (.n (.n (.n (.e) (some (i 0)) (.e)) (some (.bool false)) (.n (.e) (some (i 4)) (.e))) (some (i 0)) (.n (.n (.e) (some (.slc 365 1 0 6 (some 6))) (.e)) (some (.slc 408 2 0 6 (some 6))) (.n (.e) (some (i 16)) (.e)))))) (some (.slc 365 1 0 6 (some 6))) (.n (.n (.n (.n (.n (.n (.e) (some (i 5)) (.e)) (some (i 3)) (.e)) (some (i 0)) (.n (.e) (some (i 19)) (.e))) (none) (.n (.n (.e) (some (i 0)) (.e)) (some (.map 405)) (.n (.e) (some (.slc 365 1 0 6 (some 6))) (.e)))) (some (i 0)) (.n (.n (.n (.e) (some (.map 404)) (.e)) (some (i 20)) (.n (.e) (some (i 1)) (.e))) (some (.slc 365 1 0 6 (some 6))) (.n (.n (.e) (some (.bool false)) (.e)) (some (i 2)) (.n (.e) (some (.bool false)) (.e))))) (none) (.n (.n (.n (.n (.e) (some (.agg [i 0, i 0, i 7, i 0])) (.e)) (none) (.n (.e) (some (i 0)) (.e))) (some (i 16)) (.n (.n (.e) (some (.slc 417 1 0 3 none)) (.e)) (some (.ptr 407 0)) (.n (.e) (some (i 5)) (.e)))) (some (i 2)) (.n (.n (.n (.e) (some (.ptr 407 0)) (.e)) (some (.agg [i 3, i 2, i 2])) (.n (.e) (some (i 1)) (.e))) (none) (.n (.n (.e) (some (i 6)) (.e)) (some (.ptr 407 8)) (.n (.e) (some (i 19)) (.e))))))) (some (.agg [i 3, i 2, i 2])) (.n (.n (.n (.n (.n (.n (.n (.e) (some (.tup [])) (.e)) (some (i 3)) (.e)) (some (.slc 385 4 0 3 (some 3))) (.n (.e) (some (.ptr 407 0)) (.e))) (some (i 5)) (.n (.n (.e) (some (.ptr 415 0)) (.e)) (some (.map 404)) (.n (.e) (some (i 6)) (.e)))) (some (.ptr 387 0)) (.n (.n (.n (.e) (some (.ptr 407 5)) (.e)) (some (.bool false)) (.n (.e) (some (.ptr 1240 0)) (.e))) (some (.agg [i 3, i 2, i 2])) (.n (.n (.e) (some (i 20)) (.e)) (some (.ptr 386 1)) (.n (.e) (some (i 5)) (.e))))) (some (.ptr 386 0)) (.n (.n (.n (.n (.e) (some (.ptr 385 8)) (.e)) (none) (.n (.e) (some (.nils)) (.e))) (none) (.n (.n (.e) (some (.slc 416 1 0 1 (some 1))) (.e)) (some (.ptr 407 0)) (.n (.e) (some (.bool false)) (.e)))) (some (.ptr 407 0)) (.n (.n (.n (.e) (some (.ptr 407 0)) (.e)) (none) (.n (.e) (some (i 5)) (.e))) (some (.bool false)) (.n (.n (.e) (some (i 6)) (.e)) (some (.ptr 407 0)) (.n (.e) (some (.ptr 407 0)) (.e)))))) (some (.slc 385 4 0 3 (some 3))) (.n (.n (.n (.n (.n (.n (.e) (some (i 6)) (.e)) (some (.bool false)) (.e)) (some (i 0)) (.n (.e) (some (i 5)) (.e))) (some (i 1)) (.n (.n (.e) (some (.slc 414 1 0 2 none)) (.e)) (some (.map 406)) (.n (.e) (some (i 6)) (.e)))) (some (i 0)) (.n (.n (.n (.e) (some (.ptr 415 0)) (.e)) (some (.bool false)) (.n (.e) (some (.ptr 407 0)) (.e))) (some (i 0)) (.n (.n (.e) (some (i 19)) (.e)) (some (i 6)) (.n (.e) (some (.ptr 3288 4)) (.e))))) (none) (.n (.n (.n (.n (.e) (some (.ptr 407 0)) (.e)) (some (i 20)) (.n (.e) (some (i 0)) (.e))) (none) (.n (.n (.e) (some (i 3)) (.e)) (some (.ptr 386 0)) (.n (.e) (some (.slc 3288 1 0 5 (some 5))) (.e)))) (some (.ptr 415 0)) (.n (.n (.n (.e) (some (.ptr 407 5)) (.e)) (some (.slc 365 1 0 6 (some 6))) (.n (.e) (some (.tup [])) (.e))) (none) (.n (.n (.e) (some (.bool false)) (.e)) (some (.ptr 407 10)) (.n (.e) (some (i 5)) (.e)))))))
noncomputable def rF : St := ⟨168, 0, rFR, rFH, 3299, []⟩
noncomputable def rZH : T O := .n (.n (.n (.n (.e) (none) (.n (.n (.e) (none) (.n (.e) (none) (.n (.e) (none) (.n (.e) (some (.cells (.n (.n (.n (.n (.e) (some (i 0)) (.e)) (some (i 0)) (.e)) (some (i 0)) (.n (.e) (some (i 0)) (.e))) (some (i 2)) (.n (.n (.e) (some (i 2)) (.e)) (some (i 1)) (.n (.e) (some (i 16)) (.e)))) 8)) (.e))))) (none) (.e))) (none) (.n (.n (.n (.n (.n (.e) (none) (.n (.e) (some (.cells (.n (.n (.n (.e) (some (i 0)) (.e)) (some (.slc 487 4 0 2 none)) (.e)) (some (.slc 1318 3 0 6 none)) (.n (.e) (some (.slc 408 2 0 6 (some 6))) (.e))) 4)) (.e))) (none) (.e)) (none) (.e)) (none) (.e)) (none) (.e))) (none) (.e)) (some (.cells (.n (.n (.e) (some (i 2)) (.e)) (some (i 3)) (.n (.e) (some (i 2)) (.e))) 3)) (.n (.n (.n (.e) (none) (.n (.e) (none) (.n (.n (.n (.e) (none) (.n (.e) (some (.cells (.n (.n (.n (.n (.e) (some (i 0)) (.e)) (some (i 0)) (.n (.e) (some (i 0)) (.e))) (some (i 0)) (.n (.n (.e) (some (i 0)) (.e)) (some (i 0)) (.e))) (some (i 2)) (.n (.n (.n (.e) (some (i 0)) (.e)) (some (i 1)) (.e)) (some (i 1)) (.n (.n (.e) (some (i 1)) (.e)) (some (i 0)) (.e)))) 12)) (.e))) (none) (.e)) (none) (.e)))) (none) (.e)) (none) (.n (.e) (none) (.n (.n (.n (.e) (none) (.n (.n (.n (.e) (none) (.n (.n (.e) (some (.cells (.n (.n (.n (.n (.n (.e) (some (i 1)) (.e)) (some (i 2)) (.e)) (some (i 1)) (.n (.e) (some (i 3)) (.e))) (some (i 0)) (.n (.n (.n (.e) (some (i 4)) (.e)) (some (i 1)) (.e)) (some (i 1)) (.n (.e) (some (i 5)) (.e)))) (some (i 0)) (.n (.n (.n (.n (.e) (some (i 5)) (.e)) (some (i 2)) (.e)) (some (i 0)) (.n (.e) (some (i 0)) (.e))) (some (i 0)) (.n (.n (.e) (some (i 2)) (.e)) (some (i 0)) (.n (.e) (some (i 3)) (.e))))) 18)) (.e)) (none) (.e))) (none) (.e)) (none) (.e))) (none) (.e)) (none) (.e))))
noncomputable def rZR : T V := .n (.n (.e) (none) (.n (.n (.e) (some (i 0)) (.e)) (none) (.e))) (none) (.n (.n (.n (.e) (some (.ptr 387 0)) (.e)) (none) (.e)) (none) (.e))
noncomputable def rZ : St := ⟨168, 0, rZR, rZH, 3300, []⟩
noncomputable def rVH : T O := .n (.n (.n (.n (.e) (none) (.n (.n (.e) (none) (.n (.e) (none) (.n (.e) (none) (.n (.e) (some (.cells (.n (.n (.n (.n (.e) (some (i 0)) (.e)) (some (i 0)) (.e)) (some (i 0)) (.n (.e) (some (i 0)) (.e))) (some (i 2)) (.n (.n (.e) (some (i 2)) (.e)) (some (i 1)) (.n (.e) (some (i 16)) (.e)))) 8)) (.e))))) (none) (.e))) (none) (.e)) (none) (.e)) (none) (.n (.n (.n (.e) (none) (.n (.e) (none) (.n (.n (.n (.e) (none) (.n (.e) (some (.cells (.n (.n (.n (.n (.e) (some (i 0)) (.e)) (some (i 0)) (.n (.e) (some (i 0)) (.e))) (some (i 0)) (.n (.n (.e) (some (i 0)) (.e)) (some (i 0)) (.e))) (some (i 2)) (.n (.n (.n (.e) (some (i 0)) (.e)) (some (i 1)) (.e)) (some (i 1)) (.n (.n (.e) (some (i 1)) (.e)) (some (i 0)) (.e)))) 12)) (.e))) (none) (.e)) (none) (.e)))) (none) (.e)) (none) (.n (.e) (none) (.n (.n (.n (.e) (none) (.n (.n (.n (.e) (none) (.n (.n (.e) (some (.cells (.n (.n (.n (.n (.n (.e) (some (i 1)) (.e)) (some (i 2)) (.e)) (some (i 1)) (.n (.e) (some (i 3)) (.e))) (some (i 0)) (.n (.n (.n (.e) (some (i 4)) (.e)) (some (i 1)) (.e)) (some (i 1)) (.n (.e) (some (i 5)) (.e)))) (some (i 0)) (.n (.n (.n (.n (.e) (some (i 5)) (.e)) (some (i 2)) (.e)) (some (i 0)) (.n (.e) (some (i 0)) (.e))) (some (i 0)) (.n (.n (.e) (some (i 2)) (.e)) (some (i 0)) (.n (.e) (some (i 3)) (.e))))) 18)) (.e)) (none) (.e))) (none) (.e)) (none) (.e))) (none) (.e)) (none) (.e))))
noncomputable def rVR : T V := .n (.e) (some (.tup [.agg [.slc 1318 3 0 6 none, .slc 487 4 0 2 none, .slc 408 2 0 6 (some 6), i 0], i 0])) (.e)
noncomputable def rV : St := ⟨0, 0, rVR, rVH, 3300, []⟩
end
end CX

namespace CX
open Go Go.Proofs


noncomputable def ty1 : Ty := ⟨false, 1, 8, [.nilf], (.n .e (some (.nilf)) .e), .other, false⟩
noncomputable def ty2 : Ty := ⟨false, 1, 8, [.int .i64 0], (.n .e (some (.int .i64 0)) .e), .int .i64, false⟩
noncomputable def ty3 : Ty := ⟨false, 1, 8, [.int .i64 0], (.n .e (some (.int .i64 0)) .e), .int .i64, false⟩
noncomputable def ty4 : Ty := ⟨false, 1, 1, [.bool false], (.n .e (some (.bool false)) .e), .bool, false⟩
noncomputable def ty5 : Ty := ⟨false, 1, 1, [.int .u8 0], (.n .e (some (.int .u8 0)) .e), .int .u8, false⟩
noncomputable def ty6 : Ty := ⟨false, 1, 1, [.int .u8 0], (.n .e (some (.int .u8 0)) .e), .int .u8, false⟩
noncomputable def ty7 : Ty := ⟨true, 4, 24, [.int .i64 0, .int .i64 0, .bool false, .int .u8 0], (.n (.n (.n .e (some (.int .u8 0)) .e) (some (.int .i64 0)) .e) (some (.int .i64 0)) (.n .e (some (.bool false)) .e)), .struct [(0, 2), (1, 3), (2, 4), (3, 6)], true⟩
noncomputable def ty8 : Ty := ⟨true, 4, 24, [.int .i64 0, .int .i64 0, .bool false, .int .u8 0], (.n (.n (.n .e (some (.int .u8 0)) .e) (some (.int .i64 0)) .e) (some (.int .i64 0)) (.n .e (some (.bool false)) .e)), .struct [(0, 2), (1, 3), (2, 4), (3, 6)], true⟩
noncomputable def ty9 : Ty := ⟨false, 1, 16, [.str []], (.n .e (some (.str [])) .e), .str, false⟩
noncomputable def ty10 : Ty := ⟨false, 1, 16, [.str []], (.n .e (some (.str [])) .e), .str, false⟩
noncomputable def ty11 : Ty := ⟨false, 1, 16, [.str []], (.n .e (some (.str [])) .e), .str, false⟩
noncomputable def ty12 : Ty := ⟨false, 1, 8, [.int .u64 0], (.n .e (some (.int .u64 0)) .e), .int .u64, false⟩
noncomputable def ty13 : Ty := ⟨true, 2, 24, [.str [], .int .u64 0], (.n (.n .e (some (.int .u64 0)) .e) (some (.str [])) .e), .struct [(0, 9), (1, 12)], false⟩
noncomputable def ty14 : Ty := ⟨true, 2, 24, [.str [], .int .u64 0], (.n (.n .e (some (.int .u64 0)) .e) (some (.str [])) .e), .struct [(0, 9), (1, 12)], false⟩
noncomputable def ty15 : Ty := ⟨false, 1, 8, [.nilp], (.n .e (some (.nilp)) .e), .ptr 217, false⟩
noncomputable def ty16 : Ty := ⟨false, 1, 8, [.nilp], (.n .e (some (.nilp)) .e), .ptr 220, false⟩
noncomputable def ty17 : Ty := ⟨false, 1, 8, [.nilp], (.n .e (some (.nilp)) .e), .ptr 228, false⟩
noncomputable def ty18 : Ty := ⟨true, 1, 8, [.nilp], (.n .e (some (.nilp)) .e), .struct [(0, 17)], false⟩
noncomputable def ty19 : Ty := ⟨true, 1, 8, [.nilp], (.n .e (some (.nilp)) .e), .struct [(0, 17)], false⟩
noncomputable def ty20 : Ty := ⟨false, 1, 16, [.nili], (.n .e (some (.nili)) .e), .iface, false⟩
noncomputable def ty21 : Ty := ⟨false, 1, 4, [.int .i32 0], (.n .e (some (.int .i32 0)) .e), .int .i32, false⟩
noncomputable def ty22 : Ty := ⟨true, 3, 24, [.int .i64 0, .int .i64 0, .int .i64 0], (.n (.n .e (some (.int .i64 0)) .e) (some (.int .i64 0)) (.n .e (some (.int .i64 0)) .e)), .struct [(0, 3), (1, 3), (2, 3)], true⟩
noncomputable def ty23 : Ty := ⟨true, 3, 24, [.int .i64 0, .int .i64 0, .int .i64 0], (.n (.n .e (some (.int .i64 0)) .e) (some (.int .i64 0)) (.n .e (some (.int .i64 0)) .e)), .struct [(0, 3), (1, 3), (2, 3)], true⟩
noncomputable def ty24 : Ty := ⟨false, 1, 24, [.nils], (.n .e (some (.nils)) .e), .slice 3, false⟩
noncomputable def ty25 : Ty := ⟨false, 1, 8, [.nilf], (.n .e (some (.nilf)) .e), .other, false⟩
noncomputable def ty26 : Ty := ⟨true, 3, 24, [.int .i64 0, .int .i64 0, .int .i64 0], (.n (.n .e (some (.int .i64 0)) .e) (some (.int .i64 0)) (.n .e (some (.int .i64 0)) .e)), .struct [(0, 3), (1, 3), (2, 3)], true⟩
noncomputable def ty27 : Ty := ⟨false, 1, 8, [.nilf], (.n .e (some (.nilf)) .e), .other, false⟩
noncomputable def ty28 : Ty := ⟨false, 1, 8, [.int .i64 0], (.n .e (some (.int .i64 0)) .e), .int .i64, false⟩
noncomputable def ty30 : Ty := ⟨false, 1, 8, [.nilf], (.n .e (some (.nilf)) .e), .other, false⟩
noncomputable def ty31 : Ty := ⟨false, 1, 8, [.nilf], (.n .e (some (.nilf)) .e), .other, false⟩
noncomputable def ty32 : Ty := ⟨false, 1, 8, [.nilf], (.n .e (some (.nilf)) .e), .other, false⟩
noncomputable def ty33 : Ty := ⟨false, 1, 8, [.nilf], (.n .e (some (.nilf)) .e), .other, false⟩
noncomputable def ty35 : Ty := ⟨false, 1, 8, [.nilf], (.n .e (some (.nilf)) .e), .other, false⟩
noncomputable def ty36 : Ty := ⟨false, 1, 8, [.nilf], (.n .e (some (.nilf)) .e), .other, false⟩
noncomputable def ty37 : Ty := ⟨false, 1, 8, [.nilf], (.n .e (some (.nilf)) .e), .other, false⟩
noncomputable def ty38 : Ty := ⟨false, 1, 8, [.nilf], (.n .e (some (.nilf)) .e), .other, false⟩
noncomputable def ty39 : Ty := ⟨false, 1, 8, [.nilf], (.n .e (some (.nilf)) .e), .other, false⟩
noncomputable def ty40 : Ty := ⟨false, 1, 8, [.nilf], (.n .e (some (.nilf)) .e), .other, false⟩
noncomputable def ty41 : Ty := ⟨false, 1, 24, [.nils], (.n .e (some (.nils)) .e), .slice 43, false⟩
noncomputable def ty42 : Ty := ⟨true, 3, 40, [.int .i64 0, .int .i64 0, .nils], (.n (.n .e (some (.int .i64 0)) .e) (some (.int .i64 0)) (.n .e (some (.nils)) .e)), .struct [(0, 3), (1, 3), (2, 24)], false⟩
noncomputable def ty43 : Ty := ⟨true, 3, 40, [.int .i64 0, .int .i64 0, .nils], (.n (.n .e (some (.int .i64 0)) .e) (some (.int .i64 0)) (.n .e (some (.nils)) .e)), .struct [(0, 3), (1, 3), (2, 24)], false⟩
noncomputable def ty44 : Ty := ⟨false, 1, 24, [.nils], (.n .e (some (.nils)) .e), .slice 53, false⟩
noncomputable def ty46 : Ty := ⟨false, 1, 8, [.nilf], (.n .e (some (.nilf)) .e), .other, false⟩
noncomputable def ty47 : Ty := ⟨false, 1, 24, [.nils], (.n .e (some (.nils)) .e), .slice 107, false⟩
noncomputable def ty48 : Ty := ⟨false, 1, 8, [.nilf], (.n .e (some (.nilf)) .e), .other, false⟩
noncomputable def ty49 : Ty := ⟨false, 1, 24, [.nils], (.n .e (some (.nils)) .e), .slice 54, false⟩
noncomputable def ty51 : Ty := ⟨false, 1, 8, [.nilf], (.n .e (some (.nilf)) .e), .other, false⟩
noncomputable def ty52 : Ty := ⟨false, 1, 8, [.nilf], (.n .e (some (.nilf)) .e), .other, false⟩
noncomputable def ty53 : Ty := ⟨false, 1, 24, [.nils], (.n .e (some (.nils)) .e), .slice 121, false⟩
noncomputable def ty54 : Ty := ⟨false, 1, 24, [.nils], (.n .e (some (.nils)) .e), .slice 125, false⟩
noncomputable def ty55 : Ty := ⟨false, 1, 8, [.nilf], (.n .e (some (.nilf)) .e), .other, false⟩
noncomputable def ty57 : Ty := ⟨false, 1, 8, [.nilf], (.n .e (some (.nilf)) .e), .other, false⟩
noncomputable def ty58 : Ty := ⟨false, 1, 8, [.nilf], (.n .e (some (.nilf)) .e), .other, false⟩
noncomputable def ty60 : Ty := ⟨false, 1, 8, [.nilf], (.n .e (some (.nilf)) .e), .other, false⟩
noncomputable def ty62 : Ty := ⟨false, 1, 8, [.nilf], (.n .e (some (.nilf)) .e), .other, false⟩
noncomputable def ty63 : Ty := ⟨false, 1, 8, [.nilf], (.n .e (some (.nilf)) .e), .other, false⟩
noncomputable def ty64 : Ty := ⟨false, 1, 8, [.nilf], (.n .e (some (.nilf)) .e), .other, false⟩
noncomputable def ty65 : Ty := ⟨false, 1, 24, [.nils], (.n .e (some (.nils)) .e), .slice 68, false⟩
noncomputable def ty66 : Ty := ⟨false, 1, 24, [.nils], (.n .e (some (.nils)) .e), .slice 69, false⟩
noncomputable def ty67 : Ty := ⟨true, 4, 32, [.int .i64 0, .int .i64 0, .int .i64 0, .int .i64 0], (.n (.n (.n .e (some (.int .i64 0)) .e) (some (.int .i64 0)) .e) (some (.int .i64 0)) (.n .e (some (.int .i64 0)) .e)), .struct [(0, 3), (1, 3), (2, 3), (3, 3)], true⟩
noncomputable def ty68 : Ty := ⟨true, 4, 32, [.int .i64 0, .int .i64 0, .int .i64 0, .int .i64 0], (.n (.n (.n .e (some (.int .i64 0)) .e) (some (.int .i64 0)) .e) (some (.int .i64 0)) (.n .e (some (.int .i64 0)) .e)), .struct [(0, 3), (1, 3), (2, 3), (3, 3)], true⟩
noncomputable def ty69 : Ty := ⟨true, 4, 32, [.int .i64 0, .int .i64 0, .int .i64 0, .int .i64 0], (.n (.n (.n .e (some (.int .i64 0)) .e) (some (.int .i64 0)) .e) (some (.int .i64 0)) (.n .e (some (.int .i64 0)) .e)), .struct [(0, 3), (1, 3), (2, 3), (3, 3)], true⟩
noncomputable def ty70 : Ty := ⟨false, 1, 24, [.nils], (.n .e (some (.nils)) .e), .slice 105, false⟩
noncomputable def ty71 : Ty := ⟨false, 1, 24, [.nils], (.n .e (some (.nils)) .e), .slice 118, false⟩
noncomputable def ty72 : Ty := ⟨false, 1, 24, [.nils], (.n .e (some (.nils)) .e), .slice 109, false⟩
noncomputable def ty73 : Ty := ⟨true, 4, 80, [.nils, .nils, .nils, .int .i64 0], (.n (.n (.n .e (some (.int .i64 0)) .e) (some (.nils)) .e) (some (.nils)) (.n .e (some (.nils)) .e)), .struct [(0, 70), (1, 71), (2, 72), (3, 3)], false⟩
noncomputable def ty74 : Ty := ⟨true, 4, 80, [.nils, .nils, .nils, .int .i64 0], (.n (.n (.n .e (some (.int .i64 0)) .e) (some (.nils)) .e) (some (.nils)) (.n .e (some (.nils)) .e)), .struct [(0, 70), (1, 71), (2, 72), (3, 3)], false⟩
noncomputable def ty76 : Ty := ⟨false, 1, 8, [.nilf], (.n .e (some (.nilf)) .e), .other, false⟩
noncomputable def ty77 : Ty := ⟨false, 1, 8, [.nilf], (.n .e (some (.nilf)) .e), .other, false⟩
noncomputable def ty78 : Ty := ⟨false, 1, 24, [.nils], (.n .e (some (.nils)) .e), .slice 175, false⟩
noncomputable def ty79 : Ty := ⟨false, 1, 24, [.nils], (.n .e (some (.nils)) .e), .slice 176, false⟩
noncomputable def ty80 : Ty := ⟨true, 4, 80, [.nils, .nils, .nils, .int .i64 0], (.n (.n (.n .e (some (.int .i64 0)) .e) (some (.nils)) .e) (some (.nils)) (.n .e (some (.nils)) .e)), .struct [(0, 78), (1, 79), (2, 72), (3, 3)], false⟩
noncomputable def ty81 : Ty := ⟨true, 4, 80, [.nils, .nils, .nils, .int .i64 0], (.n (.n (.n .e (some (.int .i64 0)) .e) (some (.nils)) .e) (some (.nils)) (.n .e (some (.nils)) .e)), .struct [(0, 78), (1, 79), (2, 72), (3, 3)], false⟩
noncomputable def ty83 : Ty := ⟨false, 1, 8, [.nilf], (.n .e (some (.nilf)) .e), .other, false⟩
noncomputable def ty84 : Ty := ⟨false, 1, 8, [.nilf], (.n .e (some (.nilf)) .e), .other, false⟩
noncomputable def ty85 : Ty := ⟨false, 1, 8, [.nilf], (.n .e (some (.nilf)) .e), .other, false⟩
noncomputable def ty86 : Ty := ⟨false, 1, 8, [.nilf], (.n .e (some (.nilf)) .e), .other, false⟩
noncomputable def ty87 : Ty := ⟨false, 1, 8, [.nilf], (.n .e (some (.nilf)) .e), .other, false⟩
noncomputable def ty88 : Ty := ⟨false, 1, 8, [.nilf], (.n .e (some (.nilf)) .e), .other, false⟩
noncomputable def ty89 : Ty := ⟨false, 1, 8, [.nilf], (.n .e (some (.nilf)) .e), .other, false⟩
noncomputable def ty90 : Ty := ⟨false, 1, 8, [.nilf], (.n .e (some (.nilf)) .e), .other, false⟩
noncomputable def ty91 : Ty := ⟨false, 1, 24, [.nils], (.n .e (some (.nils)) .e), .slice 5, false⟩
noncomputable def ty92 : Ty := ⟨false, 1, 8, [.nilf], (.n .e (some (.nilf)) .e), .other, false⟩
noncomputable def ty93 : Ty := ⟨false, 1, 24, [.nils], (.n .e (some (.nils)) .e), .slice 4, false⟩
noncomputable def ty94 : Ty := ⟨false, 1, 8, [.nilf], (.n .e (some (.nilf)) .e), .other, false⟩
noncomputable def ty95 : Ty := ⟨false, 1, 8, [.nilf], (.n .e (some (.nilf)) .e), .other, false⟩
noncomputable def ty96 : Ty := ⟨false, 1, 8, [.nilf], (.n .e (some (.nilf)) .e), .other, false⟩
noncomputable def ty97 : Ty := ⟨false, 1, 24, [.nils], (.n .e (some (.nils)) .e), .slice 91, false⟩
noncomputable def ty98 : Ty := ⟨false, 1, 24, [.nils], (.n .e (some (.nils)) .e), .slice 116, false⟩
noncomputable def ty99 : Ty := ⟨false, 1, 8, [.nilf], (.n .e (some (.nilf)) .e), .other, false⟩
noncomputable def ty101 : Ty := ⟨false, 1, 8, [.nilf], (.n .e (some (.nilf)) .e), .other, false⟩
noncomputable def ty102 : Ty := ⟨false, 1, 8, [.nilm], (.n .e (some (.nilm)) .e), .map 109 3, false⟩
noncomputable def ty103 : Ty := ⟨false, 1, 8, [.nilm], (.n .e (some (.nilm)) .e), .map 110 109, false⟩
noncomputable def ty104 : Ty := ⟨true, 3, 24, [.int .i64 0, .int .i64 0, .int .i64 0], (.n (.n .e (some (.int .i64 0)) .e) (some (.int .i64 0)) (.n .e (some (.int .i64 0)) .e)), .struct [(0, 3), (1, 3), (2, 3)], true⟩
noncomputable def ty105 : Ty := ⟨true, 3, 24, [.int .i64 0, .int .i64 0, .int .i64 0], (.n (.n .e (some (.int .i64 0)) .e) (some (.int .i64 0)) (.n .e (some (.int .i64 0)) .e)), .struct [(0, 3), (1, 3), (2, 3)], true⟩
noncomputable def ty106 : Ty := ⟨false, 1, 8, [.nilf], (.n .e (some (.nilf)) .e), .other, false⟩
noncomputable def ty107 : Ty := ⟨true, 3, 40, [.int .i64 0, .int .i64 0, .nils], (.n (.n .e (some (.int .i64 0)) .e) (some (.int .i64 0)) (.n .e (some (.nils)) .e)), .struct [(0, 3), (1, 3), (2, 24)], false⟩
noncomputable def ty108 : Ty := ⟨false, 1, 8, [.nilf], (.n .e (some (.nilf)) .e), .other, false⟩
noncomputable def ty109 : Ty := ⟨true, 2, 16, [.int .i64 0, .int .i64 0], (.n (.n .e (some (.int .i64 0)) .e) (some (.int .i64 0)) .e), .arr 2 3, true⟩
noncomputable def ty110 : Ty := ⟨true, 3, 24, [.int .i64 0, .int .i64 0, .int .i64 0], (.n (.n .e (some (.int .i64 0)) .e) (some (.int .i64 0)) (.n .e (some (.int .i64 0)) .e)), .arr 3 3, true⟩
noncomputable def ty112 : Ty := ⟨false, 1, 8, [.nilf], (.n .e (some (.nilf)) .e), .other, false⟩
noncomputable def ty113 : Ty := ⟨false, 1, 8, [.nilf], (.n .e (some (.nilf)) .e), .other, false⟩
noncomputable def ty114 : Ty := ⟨false, 1, 8, [.nilm], (.n .e (some (.nilm)) .e), .map 3 3, false⟩
noncomputable def ty115 : Ty := ⟨true, 3, 3, [.int .u8 0, .int .u8 0, .bool false], (.n (.n .e (some (.int .u8 0)) .e) (some (.int .u8 0)) (.n .e (some (.bool false)) .e)), .struct [(0, 5), (1, 5), (2, 4)], true⟩
noncomputable def ty116 : Ty := ⟨true, 3, 3, [.int .u8 0, .int .u8 0, .bool false], (.n (.n .e (some (.int .u8 0)) .e) (some (.int .u8 0)) (.n .e (some (.bool false)) .e)), .struct [(0, 5), (1, 5), (2, 4)], true⟩
noncomputable def ty117 : Ty := ⟨true, 4, 32, [.int .i64 0, .int .i64 0, .int .i64 0, .int .i64 0], (.n (.n (.n .e (some (.int .i64 0)) .e) (some (.int .i64 0)) .e) (some (.int .i64 0)) (.n .e (some (.int .i64 0)) .e)), .struct [(0, 3), (1, 3), (2, 3), (3, 3)], true⟩
noncomputable def ty118 : Ty := ⟨true, 4, 32, [.int .i64 0, .int .i64 0, .int .i64 0, .int .i64 0], (.n (.n (.n .e (some (.int .i64 0)) .e) (some (.int .i64 0)) .e) (some (.int .i64 0)) (.n .e (some (.int .i64 0)) .e)), .struct [(0, 3), (1, 3), (2, 3), (3, 3)], true⟩
noncomputable def ty119 : Ty := ⟨false, 1, 24, [.nils], (.n .e (some (.nils)) .e), .slice 122, false⟩
noncomputable def ty120 : Ty := ⟨true, 3, 24, [.int .i64 0, .int .i64 0, .int .i64 0], (.n (.n .e (some (.int .i64 0)) .e) (some (.int .i64 0)) (.n .e (some (.int .i64 0)) .e)), .struct [(0, 3), (1, 3), (2, 3)], true⟩
noncomputable def ty121 : Ty := ⟨true, 3, 24, [.int .i64 0, .int .i64 0, .int .i64 0], (.n (.n .e (some (.int .i64 0)) .e) (some (.int .i64 0)) (.n .e (some (.int .i64 0)) .e)), .struct [(0, 3), (1, 3), (2, 3)], true⟩
noncomputable def ty122 : Ty := ⟨false, 1, 2, [.int .u16 0], (.n .e (some (.int .u16 0)) .e), .int .u16, false⟩
noncomputable def ty123 : Ty := ⟨false, 1, 8, [.nilf], (.n .e (some (.nilf)) .e), .other, false⟩
noncomputable def ty124 : Ty := ⟨false, 1, 8, [.nilf], (.n .e (some (.nilf)) .e), .other, false⟩
noncomputable def ty125 : Ty := ⟨true, 3, 24, [.int .i64 0, .int .i64 0, .int .i64 0], (.n (.n .e (some (.int .i64 0)) .e) (some (.int .i64 0)) (.n .e (some (.int .i64 0)) .e)), .struct [(0, 3), (1, 3), (2, 3)], true⟩
noncomputable def ty126 : Ty := ⟨false, 1, 8, [.nilf], (.n .e (some (.nilf)) .e), .other, false⟩
noncomputable def ty127 : Ty := ⟨true, 2, 16, [.int .i64 0, .int .i64 0], (.n (.n .e (some (.int .i64 0)) .e) (some (.int .i64 0)) .e), .struct [(0, 3), (1, 3)], true⟩
noncomputable def ty128 : Ty := ⟨true, 2, 16, [.int .i64 0, .int .i64 0], (.n (.n .e (some (.int .i64 0)) .e) (some (.int .i64 0)) .e), .struct [(0, 3), (1, 3)], true⟩
noncomputable def ty129 : Ty := ⟨false, 1, 8, [.nilf], (.n .e (some (.nilf)) .e), .other, false⟩
noncomputable def ty130 : Ty := ⟨false, 1, 8, [.nilf], (.n .e (some (.nilf)) .e), .other, false⟩
noncomputable def ty131 : Ty := ⟨false, 1, 8, [.nilf], (.n .e (some (.nilf)) .e), .other, false⟩
noncomputable def ty132 : Ty := ⟨false, 1, 8, [.nilf], (.n .e (some (.nilf)) .e), .other, false⟩
noncomputable def ty133 : Ty := ⟨false, 1, 8, [.nilf], (.n .e (some (.nilf)) .e), .other, false⟩
noncomputable def ty134 : Ty := ⟨false, 1, 8, [.nilf], (.n .e (some (.nilf)) .e), .other, false⟩
noncomputable def ty135 : Ty := ⟨false, 1, 8, [.nilf], (.n .e (some (.nilf)) .e), .other, false⟩
noncomputable def ty136 : Ty := ⟨false, 1, 8, [.nilf], (.n .e (some (.nilf)) .e), .other, false⟩
noncomputable def ty137 : Ty := ⟨false, 1, 8, [.nilm], (.n .e (some (.nilm)) .e), .map 3 24, false⟩
noncomputable def ty138 : Ty := ⟨false, 1, 8, [.nilf], (.n .e (some (.nilf)) .e), .other, false⟩
noncomputable def ty139 : Ty := ⟨false, 1, 8, [.nilf], (.n .e (some (.nilf)) .e), .other, false⟩
noncomputable def ty140 : Ty := ⟨false, 1, 8, [.nilf], (.n .e (some (.nilf)) .e), .other, false⟩
noncomputable def ty141 : Ty := ⟨false, 1, 8, [.nilf], (.n .e (some (.nilf)) .e), .other, false⟩
noncomputable def ty142 : Ty := ⟨false, 1, 8, [.nilf], (.n .e (some (.nilf)) .e), .other, false⟩
noncomputable def ty143 : Ty := ⟨false, 1, 8, [.nilf], (.n .e (some (.nilf)) .e), .other, false⟩
noncomputable def ty144 : Ty := ⟨false, 1, 8, [.nilf], (.n .e (some (.nilf)) .e), .other, false⟩
noncomputable def ty145 : Ty := ⟨false, 1, 8, [.nilf], (.n .e (some (.nilf)) .e), .other, false⟩
noncomputable def ty147 : Ty := ⟨false, 1, 8, [.nilf], (.n .e (some (.nilf)) .e), .other, false⟩
noncomputable def ty148 : Ty := ⟨false, 1, 8, [.nilf], (.n .e (some (.nilf)) .e), .other, false⟩
noncomputable def ty150 : Ty := ⟨false, 1, 8, [.nilf], (.n .e (some (.nilf)) .e), .other, false⟩
noncomputable def ty151 : Ty := ⟨false, 1, 8, [.nilf], (.n .e (some (.nilf)) .e), .other, false⟩
noncomputable def ty152 : Ty := ⟨false, 1, 8, [.nilf], (.n .e (some (.nilf)) .e), .other, false⟩
noncomputable def ty153 : Ty := ⟨false, 1, 8, [.nilp], (.n .e (some (.nilp)) .e), .ptr 157, false⟩
noncomputable def ty154 : Ty := ⟨false, 1, 8, [.nilm], (.n .e (some (.nilm)) .e), .map 161 162, false⟩
noncomputable def ty155 : Ty := ⟨false, 1, 8, [.nilm], (.n .e (some (.nilm)) .e), .map 161 3, false⟩
noncomputable def ty156 : Ty := ⟨true, 12, 176, [.int .i64 0, .int .i64 0, .int .i64 0, .nils, .nils, .nilm, .nilm, .nilm, .nils, .nils, .nils, .int .i64 0], (.n (.n (.n (.n .e (some (.nilm)) .e) (some (.nils)) (.n .e (some (.int .i64 0)) .e)) (some (.int .i64 0)) (.n (.n .e (some (.nils)) .e) (some (.nilm)) .e)) (some (.int .i64 0)) (.n (.n (.n .e (some (.nils)) .e) (some (.nils)) .e) (some (.int .i64 0)) (.n (.n .e (some (.nils)) .e) (some (.nilm)) .e))), .struct [(0, 26), (3, 44), (4, 66), (5, 137), (6, 154), (7, 155), (8, 74)], false⟩
noncomputable def ty157 : Ty := ⟨true, 12, 176, [.int .i64 0, .int .i64 0, .int .i64 0, .nils, .nils, .nilm, .nilm, .nilm, .nils, .nils, .nils, .int .i64 0], (.n (.n (.n (.n .e (some (.nilm)) .e) (some (.nils)) (.n .e (some (.int .i64 0)) .e)) (some (.int .i64 0)) (.n (.n .e (some (.nils)) .e) (some (.nilm)) .e)) (some (.int .i64 0)) (.n (.n (.n .e (some (.nils)) .e) (some (.nils)) .e) (some (.int .i64 0)) (.n (.n .e (some (.nils)) .e) (some (.nilm)) .e))), .struct [(0, 26), (3, 44), (4, 66), (5, 137), (6, 154), (7, 155), (8, 74)], false⟩
noncomputable def ty158 : Ty := ⟨false, 1, 8, [.nilf], (.n .e (some (.nilf)) .e), .other, false⟩
noncomputable def ty159 : Ty := ⟨false, 1, 8, [.nilf], (.n .e (some (.nilf)) .e), .other, false⟩
noncomputable def ty160 : Ty := ⟨true, 3, 24, [.int .i64 0, .int .i64 0, .int .i64 0], (.n (.n .e (some (.int .i64 0)) .e) (some (.int .i64 0)) (.n .e (some (.int .i64 0)) .e)), .struct [(0, 3), (1, 3), (2, 3)], true⟩
noncomputable def ty161 : Ty := ⟨true, 3, 24, [.int .i64 0, .int .i64 0, .int .i64 0], (.n (.n .e (some (.int .i64 0)) .e) (some (.int .i64 0)) (.n .e (some (.int .i64 0)) .e)), .struct [(0, 3), (1, 3), (2, 3)], true⟩
noncomputable def ty162 : Ty := ⟨false, 1, 8, [.nilp], (.n .e (some (.nilp)) .e), .ptr 164, false⟩
noncomputable def ty163 : Ty := ⟨true, 1, 24, [.nils], (.n .e (some (.nils)) .e), .struct [(0, 24)], false⟩
noncomputable def ty164 : Ty := ⟨true, 1, 24, [.nils], (.n .e (some (.nils)) .e), .struct [(0, 24)], false⟩
noncomputable def ty165 : Ty := ⟨false, 1, 8, [.nilf], (.n .e (some (.nilf)) .e), .other, false⟩
noncomputable def ty166 : Ty := ⟨false, 1, 8, [.nilp], (.n .e (some (.nilp)) .e), .ptr 170, false⟩
noncomputable def ty167 : Ty := ⟨false, 1, 24, [.nils], (.n .e (some (.nils)) .e), .slice 174, false⟩
noncomputable def ty168 : Ty := ⟨false, 1, 24, [.nils], (.n .e (some (.nils)) .e), .slice 171, false⟩
noncomputable def ty169 : Ty := ⟨true, 11, 200, [.int .i64 0, .int .i64 0, .int .i64 0, .nils, .nils, .nils, .nils, .nils, .nils, .nils, .int .i64 0], (.n (.n (.n (.n .e (some (.nils)) .e) (some (.nils)) .e) (some (.int .i64 0)) (.n (.n .e (some (.nils)) .e) (some (.nils)) .e)) (some (.int .i64 0)) (.n (.n (.n .e (some (.nils)) .e) (some (.nils)) .e) (some (.int .i64 0)) (.n (.n .e (some (.int .i64 0)) .e) (some (.nils)) .e))), .struct [(0, 23), (3, 49), (4, 65), (5, 167), (6, 168), (7, 81)], false⟩
noncomputable def ty170 : Ty := ⟨true, 11, 200, [.int .i64 0, .int .i64 0, .int .i64 0, .nils, .nils, .nils, .nils, .nils, .nils, .nils, .int .i64 0], (.n (.n (.n (.n .e (some (.nils)) .e) (some (.nils)) .e) (some (.int .i64 0)) (.n (.n .e (some (.nils)) .e) (some (.nils)) .e)) (some (.int .i64 0)) (.n (.n (.n .e (some (.nils)) .e) (some (.nils)) .e) (some (.int .i64 0)) (.n (.n .e (some (.int .i64 0)) .e) (some (.nils)) .e))), .struct [(0, 23), (3, 49), (4, 65), (5, 167), (6, 168), (7, 81)], false⟩
noncomputable def ty171 : Ty := ⟨true, 4, 32, [.int .i64 0, .int .i64 0, .int .i64 0, .int .i64 0], (.n (.n (.n .e (some (.int .i64 0)) .e) (some (.int .i64 0)) .e) (some (.int .i64 0)) (.n .e (some (.int .i64 0)) .e)), .arr 4 3, true⟩
noncomputable def ty172 : Ty := ⟨false, 1, 8, [.nilf], (.n .e (some (.nilf)) .e), .other, false⟩
noncomputable def ty173 : Ty := ⟨true, 2, 48, [.nils, .nils], (.n (.n .e (some (.nils)) .e) (some (.nils)) .e), .arr 2 24, false⟩
noncomputable def ty174 : Ty := ⟨true, 10, 240, [.nils, .nils, .nils, .nils, .nils, .nils, .nils, .nils, .nils, .nils], (.n (.n (.n (.n .e (some (.nils)) .e) (some (.nils)) .e) (some (.nils)) (.n (.n .e (some (.nils)) .e) (some (.nils)) .e)) (some (.nils)) (.n (.n (.n .e (some (.nils)) .e) (some (.nils)) .e) (some (.nils)) (.n .e (some (.nils)) .e))), .arr 5 173, false⟩
noncomputable def ty175 : Ty := ⟨true, 3, 24, [.int .i64 0, .int .i64 0, .int .i64 0], (.n (.n .e (some (.int .i64 0)) .e) (some (.int .i64 0)) (.n .e (some (.int .i64 0)) .e)), .struct [(0, 3), (1, 3), (2, 3)], true⟩
noncomputable def ty176 : Ty := ⟨true, 4, 32, [.int .i64 0, .int .i64 0, .int .i64 0, .int .i64 0], (.n (.n (.n .e (some (.int .i64 0)) .e) (some (.int .i64 0)) .e) (some (.int .i64 0)) (.n .e (some (.int .i64 0)) .e)), .struct [(0, 3), (1, 3), (2, 3), (3, 3)], true⟩
noncomputable def ty177 : Ty := ⟨false, 1, 8, [.nilf], (.n .e (some (.nilf)) .e), .other, false⟩
noncomputable def ty178 : Ty := ⟨false, 1, 8, [.nilf], (.n .e (some (.nilf)) .e), .other, false⟩
noncomputable def ty179 : Ty := ⟨false, 1, 8, [.nilf], (.n .e (some (.nilf)) .e), .other, false⟩
noncomputable def ty181 : Ty := ⟨false, 1, 8, [.nilf], (.n .e (some (.nilf)) .e), .other, false⟩
noncomputable def ty182 : Ty := ⟨false, 1, 8, [.nilf], (.n .e (some (.nilf)) .e), .other, false⟩
noncomputable def ty183 : Ty := ⟨false, 1, 8, [.nilf], (.n .e (some (.nilf)) .e), .other, false⟩
noncomputable def ty184 : Ty := ⟨false, 1, 8, [.nilf], (.n .e (some (.nilf)) .e), .other, false⟩
noncomputable def ty185 : Ty := ⟨false, 1, 8, [.nilf], (.n .e (some (.nilf)) .e), .other, false⟩
noncomputable def ty186 : Ty := ⟨false, 1, 8, [.int .u64 0], (.n .e (some (.int .u64 0)) .e), .int .u64, false⟩
noncomputable def ty187 : Ty := ⟨false, 1, 8, [.nilf], (.n .e (some (.nilf)) .e), .other, false⟩
noncomputable def ty189 : Ty := ⟨false, 1, 8, [.nilf], (.n .e (some (.nilf)) .e), .other, false⟩
noncomputable def ty190 : Ty := ⟨false, 1, 8, [.nilf], (.n .e (some (.nilf)) .e), .other, false⟩
noncomputable def ty191 : Ty := ⟨false, 1, 8, [.nilf], (.n .e (some (.nilf)) .e), .other, false⟩
noncomputable def ty192 : Ty := ⟨false, 1, 8, [.nilf], (.n .e (some (.nilf)) .e), .other, false⟩
noncomputable def ty193 : Ty := ⟨false, 1, 8, [.nilp], (.n .e (some (.nilp)) .e), .ptr 3, false⟩
noncomputable def ty194 : Ty := ⟨false, 1, 8, [.nilf], (.n .e (some (.nilf)) .e), .other, false⟩
noncomputable def ty195 : Ty := ⟨false, 1, 8, [.nilf], (.n .e (some (.nilf)) .e), .other, false⟩
noncomputable def ty196 : Ty := ⟨false, 1, 8, [.int .i64 0], (.n .e (some (.int .i64 0)) .e), .int .i64, false⟩
noncomputable def ty198 : Ty := ⟨false, 1, 8, [.nilf], (.n .e (some (.nilf)) .e), .other, false⟩
noncomputable def ty199 : Ty := ⟨false, 1, 8, [.nilf], (.n .e (some (.nilf)) .e), .other, false⟩
noncomputable def ty200 : Ty := ⟨false, 1, 8, [.nilf], (.n .e (some (.nilf)) .e), .other, false⟩
noncomputable def ty201 : Ty := ⟨false, 1, 8, [.nilf], (.n .e (some (.nilf)) .e), .other, false⟩
noncomputable def ty202 : Ty := ⟨false, 1, 8, [.nilf], (.n .e (some (.nilf)) .e), .other, false⟩
noncomputable def ty203 : Ty := ⟨false, 1, 4, [.int .u32 0], (.n .e (some (.int .u32 0)) .e), .int .u32, false⟩
noncomputable def ty204 : Ty := ⟨false, 1, 8, [.nilf], (.n .e (some (.nilf)) .e), .other, false⟩
noncomputable def ty205 : Ty := ⟨false, 1, 8, [.int .u64 0], (.n .e (some (.int .u64 0)) .e), .int .u64, false⟩
noncomputable def ty206 : Ty := ⟨false, 1, 8, [.nilp], (.n .e (some (.nilp)) .e), .ptr 24, false⟩
noncomputable def ty207 : Ty := ⟨false, 1, 8, [.int .u64 0], (.n .e (some (.int .u64 0)) .e), .int .u64, false⟩
noncomputable def ty208 : Ty := ⟨false, 1, 8, [.nilf], (.n .e (some (.nilf)) .e), .other, false⟩
noncomputable def ty209 : Ty := ⟨false, 1, 8, [.nilf], (.n .e (some (.nilf)) .e), .other, false⟩
noncomputable def ty210 : Ty := ⟨false, 1, 8, [.nilf], (.n .e (some (.nilf)) .e), .other, false⟩
noncomputable def ty211 : Ty := ⟨false, 1, 8, [.nilf], (.n .e (some (.nilf)) .e), .other, false⟩
noncomputable def ty212 : Ty := ⟨false, 1, 8, [.nilp], (.n .e (some (.nilp)) .e), .ptr 207, false⟩
noncomputable def ty214 : Ty := ⟨false, 1, 8, [.nilf], (.n .e (some (.nilf)) .e), .other, false⟩
noncomputable def ty215 : Ty := ⟨false, 1, 8, [.nilf], (.n .e (some (.nilf)) .e), .other, false⟩
noncomputable def ty216 : Ty := ⟨true, 4, 40, [.nilp, .nilp, .nilp, .str []], (.n (.n (.n .e (some (.str [])) .e) (some (.nilp)) .e) (some (.nilp)) (.n .e (some (.nilp)) .e)), .struct [(0, 17), (1, 17), (2, 17), (3, 9)], false⟩
noncomputable def ty217 : Ty := ⟨true, 4, 40, [.nilp, .nilp, .nilp, .str []], (.n (.n (.n .e (some (.str [])) .e) (some (.nilp)) .e) (some (.nilp)) (.n .e (some (.nilp)) .e)), .struct [(0, 17), (1, 17), (2, 17), (3, 9)], false⟩
noncomputable def ty218 : Ty := ⟨true, 0, 0, [], .e, .arr 0 16, false⟩
noncomputable def ty219 : Ty := ⟨true, 0, 0, [], .e, .struct [(0, 218)], false⟩
noncomputable def ty220 : Ty := ⟨true, 0, 0, [], .e, .struct [(0, 218)], false⟩
noncomputable def ty221 : Ty := ⟨false, 1, 1, [.int .u8 0], (.n .e (some (.int .u8 0)) .e), .int .u8, false⟩
noncomputable def ty222 : Ty := ⟨false, 1, 1, [.int .u8 0], (.n .e (some (.int .u8 0)) .e), .int .u8, false⟩
noncomputable def ty223 : Ty := ⟨false, 1, 8, [.nilf], (.n .e (some (.nilf)) .e), .other, false⟩
noncomputable def ty224 : Ty := ⟨false, 1, 8, [.nilp], (.n .e (some (.nilp)) .e), .ptr 5, false⟩
noncomputable def ty225 : Ty := ⟨false, 1, 4, [.int .i32 0], (.n .e (some (.int .i32 0)) .e), .int .i32, false⟩
noncomputable def ty226 : Ty := ⟨false, 1, 4, [.int .i32 0], (.n .e (some (.int .i32 0)) .e), .int .i32, false⟩
noncomputable def ty227 : Ty := ⟨true, 11, 48, [.int .u64 0, .int .u64 0, .int .u32 0, .int .u8 0, .int .u8 0, .int .u8 0, .int .u8 0, .nilf, .nilp, .int .i32 0, .int .i32 0], (.n (.n (.n (.n .e (some (.nilf)) .e) (some (.int .u8 0)) .e) (some (.int .u64 0)) (.n (.n .e (some (.int .i32 0)) .e) (some (.int .u8 0)) .e)) (some (.int .u64 0)) (.n (.n (.n .e (some (.nilp)) .e) (some (.int .u8 0)) .e) (some (.int .u32 0)) (.n (.n .e (some (.int .i32 0)) .e) (some (.int .u8 0)) .e))), .struct [(0, 12), (1, 12), (2, 203), (3, 221), (4, 5), (5, 5), (6, 222), (7, 223), (8, 224), (9, 225), (10, 226)], false⟩
noncomputable def ty228 : Ty := ⟨true, 11, 48, [.int .u64 0, .int .u64 0, .int .u32 0, .int .u8 0, .int .u8 0, .int .u8 0, .int .u8 0, .nilf, .nilp, .int .i32 0, .int .i32 0], (.n (.n (.n (.n .e (some (.nilf)) .e) (some (.int .u8 0)) .e) (some (.int .u64 0)) (.n (.n .e (some (.int .i32 0)) .e) (some (.int .u8 0)) .e)) (some (.int .u64 0)) (.n (.n (.n .e (some (.nilp)) .e) (some (.int .u8 0)) .e) (some (.int .u32 0)) (.n (.n .e (some (.int .i32 0)) .e) (some (.int .u8 0)) .e))), .struct [(0, 12), (1, 12), (2, 203), (3, 221), (4, 5), (5, 5), (6, 222), (7, 223), (8, 224), (9, 225), (10, 226)], false⟩
noncomputable def ty229 : Ty := ⟨false, 1, 8, [.nilp], (.n .e (some (.nilp)) .e), .other, false⟩
noncomputable def tyT : T Ty := (.n (.n (.n (.n (.n (.n (.n (.n .e (some ty127) .e) (some ty63) (.n .e (some ty191) .e)) (some ty31) (.n (.n .e (some ty159) .e) (some ty95) (.n .e (some ty223) .e))) (some ty15) (.n (.n (.n .e (some ty143) .e) (some ty79) (.n .e (some ty207) .e)) (some ty47) (.n (.n .e (some ty175) .e) none .e))) (some ty7) (.n (.n (.n (.n .e (some ty135) .e) (some ty71) (.n .e (some ty199) .e)) (some ty39) (.n (.n .e (some ty167) .e) (some ty103) .e)) (some ty23) (.n (.n (.n .e (some ty151) .e) (some ty87) (.n .e (some ty215) .e)) (some ty55) (.n (.n .e (some ty183) .e) (some ty119) .e)))) (some ty3) (.n (.n (.n (.n (.n .e (some ty131) .e) (some ty67) (.n .e (some ty195) .e)) (some ty35) (.n (.n .e (some ty163) .e) (some ty99) (.n .e (some ty227) .e))) (some ty19) (.n (.n (.n .e (some ty147) .e) (some ty83) (.n .e (some ty211) .e)) (some ty51) (.n (.n .e (some ty179) .e) (some ty115) .e))) (some ty11) (.n (.n (.n (.n .e (some ty139) .e) none (.n .e (some ty203) .e)) (some ty43) (.n (.n .e (some ty171) .e) (some ty107) .e)) (some ty27) (.n (.n (.n .e (some ty155) .e) (some ty91) (.n .e (some ty219) .e)) none (.n (.n .e (some ty187) .e) (some ty123) .e))))) (some ty1) (.n (.n (.n (.n (.n (.n .e (some ty129) .e) (some ty65) (.n .e (some ty193) .e)) (some ty33) (.n (.n .e (some ty161) .e) (some ty97) (.n .e (some ty225) .e))) (some ty17) (.n (.n (.n .e (some ty145) .e) (some ty81) (.n .e (some ty209) .e)) (some ty49) (.n (.n .e (some ty177) .e) (some ty113) .e))) (some ty9) (.n (.n (.n (.n .e (some ty137) .e) (some ty73) (.n .e (some ty201) .e)) (some ty41) (.n (.n .e (some ty169) .e) (some ty105) .e)) (some ty25) (.n (.n (.n .e (some ty153) .e) (some ty89) (.n .e (some ty217) .e)) (some ty57) (.n (.n .e (some ty185) .e) (some ty121) .e)))) (some ty5) (.n (.n (.n (.n (.n .e (some ty133) .e) (some ty69) .e) (some ty37) (.n (.n .e (some ty165) .e) (some ty101) (.n .e (some ty229) .e))) (some ty21) (.n (.n .e (some ty85) .e) (some ty53) (.n (.n .e (some ty181) .e) (some ty117) .e))) (some ty13) (.n (.n (.n (.n .e (some ty141) .e) (some ty77) (.n .e (some ty205) .e)) none (.n (.n .e (some ty173) .e) (some ty109) .e)) none (.n (.n (.n .e (some ty157) .e) (some ty93) (.n .e (some ty221) .e)) none (.n (.n .e (some ty189) .e) (some ty125) .e)))))) none (.n (.n (.n (.n (.n (.n (.n .e (some ty128) .e) (some ty64) (.n .e (some ty192) .e)) (some ty32) (.n (.n .e (some ty160) .e) (some ty96) (.n .e (some ty224) .e))) (some ty16) (.n (.n (.n .e (some ty144) .e) (some ty80) (.n .e (some ty208) .e)) (some ty48) (.n (.n .e (some ty176) .e) (some ty112) .e))) (some ty8) (.n (.n (.n (.n .e (some ty136) .e) (some ty72) (.n .e (some ty200) .e)) (some ty40) (.n (.n .e (some ty168) .e) (some ty104) .e)) (some ty24) (.n (.n (.n .e (some ty152) .e) (some ty88) (.n .e (some ty216) .e)) none (.n (.n .e (some ty184) .e) (some ty120) .e)))) (some ty4) (.n (.n (.n (.n (.n .e (some ty132) .e) (some ty68) (.n .e (some ty196) .e)) (some ty36) (.n (.n .e (some ty164) .e) none (.n .e (some ty228) .e))) (some ty20) (.n (.n (.n .e (some ty148) .e) (some ty84) (.n .e (some ty212) .e)) (some ty52) (.n .e (some ty116) .e))) (some ty12) (.n (.n (.n (.n .e (some ty140) .e) (some ty76) (.n .e (some ty204) .e)) (some ty44) (.n (.n .e (some ty172) .e) (some ty108) .e)) (some ty28) (.n (.n (.n .e (some ty156) .e) (some ty92) (.n .e (some ty220) .e)) (some ty60) (.n .e (some ty124) .e))))) (some ty2) (.n (.n (.n (.n (.n (.n .e (some ty130) .e) (some ty66) (.n .e (some ty194) .e)) none (.n (.n .e (some ty162) .e) (some ty98) (.n .e (some ty226) .e))) (some ty18) (.n (.n .e none (.n .e (some ty210) .e)) none (.n (.n .e (some ty178) .e) (some ty114) .e))) (some ty10) (.n (.n (.n (.n .e (some ty138) .e) (some ty74) (.n .e (some ty202) .e)) (some ty42) (.n (.n .e (some ty170) .e) (some ty106) .e)) (some ty26) (.n (.n (.n .e (some ty154) .e) (some ty90) (.n .e (some ty218) .e)) (some ty58) (.n (.n .e (some ty186) .e) (some ty122) .e)))) (some ty6) (.n (.n (.n (.n (.n .e (some ty134) .e) (some ty70) (.n .e (some ty198) .e)) (some ty38) (.n (.n .e (some ty166) .e) (some ty102) .e)) (some ty22) (.n (.n (.n .e (some ty150) .e) (some ty86) (.n .e (some ty214) .e)) (some ty54) (.n (.n .e (some ty182) .e) (some ty118) .e))) (some ty14) (.n (.n (.n (.n .e (some ty142) .e) (some ty78) (.n .e (some ty206) .e)) (some ty46) (.n (.n .e (some ty174) .e) (some ty110) .e)) (some ty30) (.n (.n (.n .e (some ty158) .e) (some ty94) (.n .e (some ty222) .e)) (some ty62) (.n (.n .e (some ty190) .e) (some ty126) .e)))))))
noncomputable def fnT : T Func := (.n (.n (.n (.n (.n (.n (.n .e (some Try.f63) .e) (some Try.f31) (.n .e (some Try.f95) .e)) (some Try.f15) (.n (.n .e (some Try.f79) .e) (some Try.f47) (.n .e (some Try.f111) .e))) (some Try.f7) (.n (.n (.n .e (some Try.f71) .e) (some Try.f39) (.n .e (some Try.f103) .e)) (some Try.f23) (.n (.n .e (some Try.f87) .e) (some Try.f55) (.n .e (some Try.f119) .e)))) (some Try.f3) (.n (.n (.n (.n .e (some Try.f67) .e) (some Try.f35) (.n .e (some Try.f99) .e)) (some Try.f19) (.n (.n .e (some Try.f83) .e) (some Try.f51) (.n .e (some Try.f115) .e))) (some Try.f11) (.n (.n (.n .e (some Try.f75) .e) (some Try.f43) (.n .e (some Try.f107) .e)) (some Try.f27) (.n (.n .e (some Try.f91) .e) (some Try.f59) .e)))) none (.n (.n (.n (.n (.n .e (some Try.f65) .e) (some Try.f33) (.n .e (some Try.f97) .e)) (some Try.f17) (.n (.n .e (some Try.f81) .e) (some Try.f49) (.n .e (some Try.f113) .e))) (some Try.f9) (.n (.n (.n .e (some Try.f73) .e) (some Try.f41) (.n .e (some Try.f105) .e)) (some Try.f25) (.n (.n .e (some Try.f89) .e) (some Try.f57) (.n .e (some Try.f121) .e)))) (some Try.f5) (.n (.n (.n (.n .e (some Try.f69) .e) (some Try.f37) (.n .e (some Try.f101) .e)) (some Try.f21) (.n (.n .e (some Try.f85) .e) (some Try.f53) (.n .e (some Try.f117) .e))) (some Try.f13) (.n (.n (.n .e (some Try.f77) .e) (some Try.f45) (.n .e (some Try.f109) .e)) (some Try.f29) (.n (.n .e (some Try.f93) .e) (some Try.f61) .e))))) none (.n (.n (.n (.n (.n (.n .e (some Try.f64) .e) (some Try.f32) (.n .e (some Try.f96) .e)) (some Try.f16) (.n (.n .e (some Try.f80) .e) (some Try.f48) (.n .e (some Try.f112) .e))) (some Try.f8) (.n (.n (.n .e (some Try.f72) .e) (some Try.f40) (.n .e (some Try.f104) .e)) (some Try.f24) (.n (.n .e (some Try.f88) .e) (some Try.f56) (.n .e (some Try.f120) .e)))) (some Try.f4) (.n (.n (.n (.n .e (some Try.f68) .e) (some Try.f36) (.n .e (some Try.f100) .e)) (some Try.f20) (.n (.n .e (some Try.f84) .e) (some Try.f52) (.n .e (some Try.f116) .e))) (some Try.f12) (.n (.n (.n .e (some Try.f76) .e) (some Try.f44) (.n .e (some Try.f108) .e)) (some Try.f28) (.n (.n .e (some Try.f92) .e) (some Try.f60) .e)))) (some Try.f2) (.n (.n (.n (.n (.n .e (some Try.f66) .e) (some Try.f34) (.n .e (some Try.f98) .e)) (some Try.f18) (.n (.n .e (some Try.f82) .e) (some Try.f50) (.n .e (some Try.f114) .e))) (some Try.f10) (.n (.n (.n .e (some Try.f74) .e) (some Try.f42) (.n .e (some Try.f106) .e)) (some Try.f26) (.n (.n .e (some Try.f90) .e) (some Try.f58) .e))) (some Try.f6) (.n (.n (.n (.n .e (some Try.f70) .e) (some Try.f38) (.n .e (some Try.f102) .e)) (some Try.f22) (.n (.n .e (some Try.f86) .e) (some Try.f54) (.n .e (some Try.f118) .e))) (some Try.f14) (.n (.n (.n .e (some Try.f78) .e) (some Try.f46) (.n .e (some Try.f110) .e)) (some Try.f30) (.n (.n .e (some Try.f94) .e) (some Try.f62) .e))))))
noncomputable def env : Env := ⟨fun t => match Nat.blt t 230 with | true => tyT.get t | false => none, fun f => fnT.get f, fun _ => none, fun _ => none⟩
end CX

namespace CX
open Go

noncomputable section
def zOk : V → Value → Bool
  | .int k n, .int k' n' => kindEq k k' && ieq n n'
  | .bool false, .bool false => true
  | .str [], .string s => Nat.beq s.size 0
  | .nils, .slice none 0 0 => true
  | .nilp, .pointer none => true
  | .nilf, .nilFunc => true
  | .nili, .nilIface => true
  | .nilm, .map none => true
  | _, _ => false

def zOks : List V → List Value → Bool
  | [], [] => true
  | k :: ks, v :: vs => zOk k v && zOks ks vs
  | _, _ => false

def sameZ : V → V → Bool
  | .int k n, .int k' n' => kindEq k k' && ieq n n'
  | .bool false, .bool false => true
  | .str [], .str [] => true
  | .nils, .nils => true
  | .nilp, .nilp => true
  | .nilf, .nilf => true
  | .nili, .nili => true
  | .nilm, .nilm => true
  | _, _ => false

def ztOk (t : T V) : Nat → List V → Bool
  | _, [] => true
  | i, v :: l => (match t.get i with | some u => sameZ u v | none => false) && ztOk t (Nat.succ i) l

def fsEq : List Field → List (Nat × Nat) → Bool
  | [], [] => true
  | f :: r, (o, t) :: s => Nat.beq f.offset o && Nat.beq f.type t && fsEq r s
  | _, _ => false

def kdChk (P : Program) (kd : TK) (d : TypeDesc) : Bool :=
  match kd with
  | .other => match d with
    | .interface _ => false
    | _ => true
  | .int k => match d with
    | .int k' => kindEq k k'
    | _ => false
  | .bool => match d with
    | .bool => true
    | _ => false
  | .str => match d with
    | .string => true
    | _ => false
  | .struct fs => match d with
    | .struct fields => fsEq fields.toList fs && fields.toList.all fun f => (P.info? f.type).isSome
    | _ => false
  | .arr n e => match d with
    | .array n' e' => Nat.beq n n' && Nat.beq e e'
    | _ => false
  | .slice e => match d with
    | .slice e' => Nat.beq e e'
    | _ => false
  | .map k e => match d with
    | .map k' e' => Nat.beq k k' && Nat.beq e e'
    | _ => false
  | .ptr e => match d with
    | .pointer e' => Nat.beq e e'
    | _ => false
  | .iface => true

def sKind (P : Program) (z : V) (t : Nat) : Bool :=
  match z with
  | .int _ _ => match P.underlying t with
    | some (.int _) => true
    | _ => false
  | .bool _ => match P.underlying t with
    | some .bool => true
    | _ => false
  | .str _ => match P.underlying t with
    | some .string => true
    | _ => false
  | _ => false

def chkF (P : Program) : List Field → List V → Nat → Bool
  | [], [], _ => true
  | f :: fs, z :: zs, i => (f.name != "_") && Nat.beq f.offset i && sKind P z f.type && chkF P fs zs (Nat.succ i)
  | _, _, _ => false

def eqChk (P : Program) (t : Nat) (ty : Ty) (d : TypeDesc) : Bool :=
  match ty.eqp with
  | false => true
  | true => !P.eqGuardType P.depth t && (match d with
    | .struct fields => !P.stoodInHeld t && chkF P fields.toList ty.zero 0
    | .array n e => (P.info? e).isSome && Nat.beq (P.cellsOf e) 1 && Nat.beq (len ty.zero) n && ty.zero.all fun z => sKind P z e
    | _ => false)

def tyChk (P : Program) (t : Nat) (ty : Ty) : Bool :=
  match P.info? t, P.underlying t with
  | some i, some d =>
    Nat.beq i.size ty.size && Nat.beq i.bytes ty.bytes &&
      (match i.zero with
        | some z => zOks ty.zero z.cells.toList && (match z with | .agg _ => ty.agg | _ => !ty.agg)
        | none => false) &&
      Nat.beq (len ty.zero) ty.size && ztOk ty.zt 0 ty.zero && (isAggD d == ty.agg) && kdChk P ty.kd d && eqChk P t ty d
  | _, _ => false

end

theorem zOk_ok {v : V} {u : Value} (h : zOk v u = true) : one1 v = true ∧ ∀ ρ n, Rv ρ n v u := by
  unfold zOk at h
  split at h
  · simp only [Bool.and_eq_true] at h
    have h1 := kindEq_ok h.1
    have h2 := h.2
    rw [ieq_eq, beq_iff_eq] at h2
    subst h1 h2
    exact ⟨rfl, fun ρ n => by simp [Rv]⟩
  · exact ⟨rfl, fun ρ n => by simp [Rv]⟩
  · rename_i s
    have : s.size = 0 := by simpa using h
    have hs : s = ByteArray.empty := ByteArray.ext (Array.eq_empty_of_size_eq_zero this)
    exact ⟨rfl, fun ρ n => by simp only [Rv]; exact ⟨by simp, by rw [hs]; rfl⟩⟩
  all_goals first | (cases h; done) | exact ⟨rfl, fun ρ n => by simp [Rv]⟩

theorem zOks_ok : ∀ (l : List V) (us : List Value), zOks l us = true → (∀ v ∈ l, one1 v = true) ∧ ∀ ρ n, RvL ρ n l us
  | [], [], _ => ⟨by simp, fun _ _ => by simp [RvL]⟩
  | v :: l, u :: us, h => by
    simp only [zOks, Bool.and_eq_true] at h
    obtain ⟨h1, h2⟩ := zOk_ok h.1
    obtain ⟨h3, h4⟩ := zOks_ok l us h.2
    refine ⟨fun x hx => ?_, fun ρ n => by simp only [RvL]; exact ⟨h2 ρ n, h4 ρ n⟩⟩
    rcases List.mem_cons.1 hx with rfl | hx
    · exact h1
    · exact h3 x hx
  | [], _ :: _, h => by simp [zOks] at h
  | _ :: _, [], h => by simp [zOks] at h

theorem sameZ_ok {a b : V} (h : sameZ a b = true) : a = b := by
  unfold sameZ at h
  split at h
  · simp only [Bool.and_eq_true] at h
    have h1 := kindEq_ok h.1
    have h2 := h.2
    rw [ieq_eq, beq_iff_eq] at h2
    subst h1 h2; rfl
  all_goals first | rfl | cases h

theorem ztOk_ok {t : T V} : ∀ (l : List V) (i : Nat), ztOk t i l = true → ∀ j, j < l.length → t.get (i + j) = l[j]?
  | [], _, _, j, hj => by simp at hj
  | v :: l, i, h, j, hj => by
    simp only [ztOk, Bool.and_eq_true] at h
    cases j with
    | zero =>
      have h1 := h.1
      split at h1
      · rename_i u hu
        rw [Nat.add_zero, hu, sameZ_ok h1]; rfl
      · cases h1
    | succ j =>
      have := ztOk_ok l (Nat.succ i) h.2 j (by simpa using hj)
      rw [show i + (j + 1) = Nat.succ i + j by omega, this]; rfl

theorem fsEq_ok : ∀ (l : List Field) (fs : List (Nat × Nat)), fsEq l fs = true → l.map (fun f => (f.offset, f.type)) = fs
  | [], [], _ => rfl
  | f :: r, (o, t) :: s, h => by
    simp only [fsEq, Bool.and_eq_true, Nat.beq_eq] at h
    rw [List.map_cons, fsEq_ok r s h.2, h.1.1, h.1.2]
  | [], _ :: _, h => by simp [fsEq] at h
  | _ :: _, [], h => by simp [fsEq] at h

theorem kdChk_ok {P : Program} {kd : TK} {d : TypeDesc} (h : kdChk P kd d = true) : KdOk P kd d := by
  cases kd with
  | other =>
    intro ms e
    subst e
    simp [kdChk] at h
  | int k =>
    simp only [kdChk] at h
    split at h
    · rw [kindEq_ok h]; rfl
    · cases h
  | bool => simp only [kdChk] at h; split at h; rfl; cases h
  | str => simp only [kdChk] at h; split at h; rfl; cases h
  | struct fs =>
    simp only [kdChk] at h
    split at h
    · rename_i fields
      simp only [Bool.and_eq_true] at h
      refine ⟨fields, rfl, fsEq_ok _ _ h.1, fun f hf => ?_⟩
      have := List.all_eq_true.1 h.2 f (by simpa using hf)
      exact Option.isSome_iff_exists.1 this
    · cases h
  | arr n e =>
    simp only [kdChk] at h
    split at h
    · simp only [Bool.and_eq_true, Nat.beq_eq] at h
      simp only [KdOk, h.1, h.2]
    · cases h
  | slice e =>
    simp only [kdChk] at h
    split at h
    · simp only [Nat.beq_eq] at h
      simp only [KdOk, h]
    · cases h
  | map k e =>
    simp only [kdChk] at h
    split at h
    · simp only [Bool.and_eq_true, Nat.beq_eq] at h
      simp only [KdOk, h.1, h.2]
    · cases h
  | ptr e =>
    simp only [kdChk] at h
    split at h
    · simp only [Nat.beq_eq] at h
      simp only [KdOk, h]
    · cases h
  | iface => trivial

section
variable {P : Program} {ρ : Nm} {n : Nat}

theorem cell_eq {z a b : V} {x y : Value} {t : Nat} {r : Bool} {w : World} (hz : sKind P z t = true) (ha : Rv ρ n a x) (hb : Rv ρ n b y)
    (h : eqK z a b = some r) : (Op.equalIn 9999 t x y).run P w = .ok r w ∧ ∀ cs : Array Value, ∀ off, cs[off]? = some x → (Go.part t cs off).run P w = .ok x w := by
  have pt : ∀ d, P.underlying t = some d → isAggD d = false → ∀ cs : Array Value, ∀ off, cs[off]? = some x → (Go.part t cs off).run P w = .ok x w := by
    intro d hd hag cs off hc
    simp only [Go.part, Sem.run_bind, run_isAgg' hd, Result.andThen_ok]
    cases d <;> simp_all [isAggD]
  cases z with
  | int k0 n0 =>
    simp only [eqK] at h
    obtain ⟨k', hu⟩ : ∃ k', P.underlying t = some (.int k') := by
      simp only [sKind] at hz
      split at hz
      · exact ⟨_, by assumption⟩
      · cases hz
    cases a with
    | int k1 a1 =>
      simp only [Rv] at ha
      subst ha
      cases b with
      | int k2 b1 =>
        simp only [Rv] at hb
        subst hb
        simp only [eq1] at h
        split at h
        · rename_i hk
          have := kindEq_ok hk
          subst this
          simp only [Option.some.injEq] at h
          subst h
          exact ⟨by rw [run_equalIn_int w 9998 t k1 k' _ _ hu, ieq_eq], pt _ hu rfl⟩
        · cases h
      | _ => simp [eq1] at h
    | _ => simp at h
  | bool b0 =>
    simp only [eqK] at h
    have hu : P.underlying t = some .bool := by
      simp only [sKind] at hz
      split at hz
      · assumption
      · cases hz
    cases a with
    | bool a1 =>
      simp only [Rv] at ha
      subst ha
      cases b with
      | bool b1 =>
        simp only [Rv] at hb
        subst hb
        refine ⟨?_, pt _ hu rfl⟩
        rw [run_equalIn_bool' w 9998 t _ _ hu]
        cases a1 <;> cases b1 <;> simp_all [eq1]
      | _ => simp [eq1] at h
    | _ => simp at h
  | str s0 =>
    simp only [eqK] at h
    have hu : P.underlying t = some .string := by
      simp only [sKind] at hz
      split at hz
      · assumption
      · cases hz
    cases a with
    | str a1 =>
      simp only [Rv] at ha
      obtain ⟨ha1, rfl⟩ := ha
      cases b with
      | str b1 =>
        simp only [Rv] at hb
        obtain ⟨hb1, rfl⟩ := hb
        simp only [eq1, Option.some.injEq] at h
        subst h
        refine ⟨?_, pt _ hu rfl⟩
        rw [run_equalIn_string w 9998 t _ _ hu, beq_bytes ha1 hb1]
      | _ => simp [eq1] at h
    | _ => simp at h
  | _ => simp [eqK] at h

theorem sKind_und {z : V} {t : Nat} (hz : sKind P z t = true) : ∃ d, P.underlying t = some d ∧ isAggD d = false := by
  cases z <;> simp only [sKind] at hz <;> first | (cases hz; done) | (split at hz <;> first | (cases hz; done) | exact ⟨_, by assumption, rfl⟩)

theorem lists_get {xs : Array Value} {i : Nat} {u : Value} {us : List Value} (h : xs.toList.drop i = u :: us) : xs[i]? = some u ∧ xs.toList.drop (i + 1) = us := by
  have h1 : (xs.toList.drop i)[0]? = some u := by rw [h]; rfl
  rw [List.getElem?_drop] at h1
  refine ⟨by simpa using h1, ?_⟩
  rw [show i + 1 = i + 1 from rfl, ← List.drop_drop, h]; rfl

theorem eqFields_ok {w : World} {xs ys : Array Value} : ∀ (fs : List Field) (zs : List V) (i : Nat) (a b : List V) {r : Bool}, chkF P fs zs i = true → RvL ρ n a (xs.toList.drop i) → RvL ρ n b (ys.toList.drop i) → eqZ zs a b = some r →
    (Op.eqFields 9999 xs ys fs).run P w = .ok r w
  | [], [], i, [], [], r, _, _, _, h => by
    simp only [eqZ, Option.some.injEq] at h
    subst h
    simp [Op.eqFields]
  | f :: fs, z :: zs, i, a :: as0, b :: bs, r, hc, ha, hb, h => by
    simp only [chkF, Bool.and_eq_true, Nat.beq_eq, bne_iff_ne] at hc
    obtain ⟨⟨⟨h1, h2⟩, h3⟩, h4⟩ := hc
    cases hx : xs.toList.drop i with
    | nil => rw [hx] at ha; simp [RvL] at ha
    | cons x xr =>
      cases hy : ys.toList.drop i with
      | nil => rw [hy] at hb; simp [RvL] at hb
      | cons y yr =>
        rw [hx] at ha
        rw [hy] at hb
        simp only [RvL] at ha hb
        obtain ⟨gx, ex⟩ := lists_get hx
        obtain ⟨gy, ey⟩ := lists_get hy
        simp only [eqZ] at h
        have step : ∀ c, eqK z a b = some c → (Op.eqFields 9999 xs ys (f :: fs)).run P w = if c then (Op.eqFields 9999 xs ys fs).run P w else .ok false w := by
          intro c hcc
          obtain ⟨k1, k2⟩ := cell_eq (w := w) h3 ha.1 hb.1 hcc
          have k3 : (Go.part f.type ys f.offset).run P w = .ok y w := by
            obtain ⟨d, hd, hag⟩ := sKind_und h3
            simp only [Go.part, Sem.run_bind, run_isAgg' hd, Result.andThen_ok, h2, gy]
            cases d <;> simp_all [isAggD]
          rw [h2] at k3
          simp only [Op.eqFields, if_pos h1, Sem.run_bind]
          rw [h2, k2 xs i gx, Result.andThen_ok, k3, Result.andThen_ok, k1, Result.andThen_ok]
          cases c <;> simp
        split at h
        · rename_i hcc
          rw [step true hcc, if_pos rfl]
          exact eqFields_ok fs zs (Nat.succ i) as0 bs h4 (by rw [Nat.succ_eq_add_one, ex]; exact ha.2) (by rw [Nat.succ_eq_add_one, ey]; exact hb.2) h
        · rename_i hcc
          simp only [Option.some.injEq] at h
          subst h
          rw [step false hcc]; rfl
        · cases h
  | [], [], _, _ :: _, _, _, _, _, _, h => by simp [eqZ] at h
  | [], [], _, [], _ :: _, _, _, _, _, h => by simp [eqZ] at h
  | [], _ :: _, _, _, _, _, h, _, _, _ => by simp [chkF] at h
  | _ :: _, [], _, _, _, _, h, _, _, _ => by simp [chkF] at h
  | _ :: _, _ :: _, _, [], _, _, _, _, _, h => by simp [eqZ] at h
  | _ :: _, _ :: _, _, _ :: _, [], _, _, _, _, h => by simp [eqZ] at h

theorem eqItems_ok {w : World} {xs ys : Array Value} {e : Nat} : ∀ (m i : Nat) (zs : List V) (a b : List V) {r : Bool}, zs.length = m → (∀ z ∈ zs, sKind P z e = true) → RvL ρ n a (xs.toList.drop i) → RvL ρ n b (ys.toList.drop i) → eqZ zs a b = some r →
    (Op.eqItems 9999 e 1 xs ys (List.range' i m)).run P w = .ok r w
  | 0, i, [], [], [], r, _, _, _, _, h => by
    simp only [eqZ, Option.some.injEq] at h
    subst h
    simp [Op.eqItems]
  | m + 1, i, z :: zs, a :: as0, b :: bs, r, hm, hc, ha, hb, h => by
    have h3 := hc z (by simp)
    cases hx : xs.toList.drop i with
    | nil => rw [hx] at ha; simp [RvL] at ha
    | cons x xr =>
      cases hy : ys.toList.drop i with
      | nil => rw [hy] at hb; simp [RvL] at hb
      | cons y yr =>
        rw [hx] at ha
        rw [hy] at hb
        simp only [RvL] at ha hb
        obtain ⟨gx, ex⟩ := lists_get hx
        obtain ⟨gy, ey⟩ := lists_get hy
        simp only [eqZ] at h
        have step : ∀ c, eqK z a b = some c → (Op.eqItems 9999 e 1 xs ys (List.range' i (m + 1))).run P w = if c then (Op.eqItems 9999 e 1 xs ys (List.range' (i + 1) m)).run P w else .ok false w := by
          intro c hcc
          obtain ⟨k1, k2⟩ := cell_eq (w := w) h3 ha.1 hb.1 hcc
          have k3 : (Go.part e ys i).run P w = .ok y w := by
            obtain ⟨d, hd, hag⟩ := sKind_und h3
            simp only [Go.part, Sem.run_bind, run_isAgg' hd, Result.andThen_ok, gy]
            cases d <;> simp_all [isAggD]
          simp only [List.range'_succ, Op.eqItems, Nat.mul_one, Sem.run_bind]
          rw [k2 xs i gx, Result.andThen_ok, k3, Result.andThen_ok, k1, Result.andThen_ok]
          cases c <;> simp
        split at h
        · rename_i hcc
          rw [step true hcc, if_pos rfl]
          exact eqItems_ok m (i + 1) zs as0 bs (by simpa using hm) (fun z hz => hc z (by simp [hz])) (by rw [ex]; exact ha.2) (by rw [ey]; exact hb.2) h
        · rename_i hcc
          simp only [Option.some.injEq] at h
          subst h
          rw [step false hcc]; rfl
        · cases h
  | 0, _, _ :: _, _, _, _, hm, _, _, _, _ => by simp at hm
  | _ + 1, _, [], _, _, _, hm, _, _, _, _ => by simp at hm
  | 0, _, [], _ :: _, _, _, _, _, _, _, h => by simp [eqZ] at h
  | 0, _, [], [], _ :: _, _, _, _, _, _, h => by simp [eqZ] at h
  | _ + 1, _, _ :: _, [], _, _, _, _, _, _, h => by simp [eqZ] at h
  | _ + 1, _, _ :: _, _ :: _, [], _, _, _, _, _, h => by simp [eqZ] at h
end

theorem tyChk_ok {P : Program} {t : Nat} {ty : Ty} (h : tyChk P t ty = true) : TyOk P t ty := by
  unfold tyChk at h
  split at h
  · rename_i i d hi hd
    simp only [Bool.and_eq_true, Nat.beq_eq] at h
    obtain ⟨⟨⟨⟨⟨⟨⟨h1, h2⟩, h3⟩, h4⟩, h5⟩, h6⟩, h7⟩, h8⟩ := h
    rw [len_eq] at h4
    split at h3
    · rename_i z hz
      simp only [Bool.and_eq_true] at h3
      obtain ⟨hz1, hz2⟩ := zOks_ok _ _ h3.1
      have h3b := h3.2
      replace h6 : isAggD d = ty.agg := eq_of_beq h6
      refine ⟨⟨i, z, hi, h1, h2, hz, hz2, fun ha => ?_, fun ha => ?_⟩, h4, hz1, fun j hj => ?_, ⟨d, hd, h6, kdChk_ok h7⟩, fun he => ?_⟩
      · split at h3b
        · rfl
        · rw [ha] at h3b; cases h3b
      · split at h3b
        · rw [ha] at h3b; cases h3b
        · rename_i hne
          cases z <;> first | rfl | exact (hne _ rfl).elim
      · have := ztOk_ok _ 0 h5 j (by omega)
        simpa using this
      · unfold eqChk at h8
        rw [he] at h8
        simp only [Bool.and_eq_true, Bool.not_eq_true'] at h8
        obtain ⟨g1, g2⟩ := h8
        refine ⟨g1, fun ρ n a b xs ys r w ha hb hr => ?_⟩
        split at g2
        · rename_i fields
          simp only [Bool.and_eq_true, Bool.not_eq_true'] at g2
          have hfo : P.fieldsOf t = fields := by simp [Program.fieldsOf, hd]
          rw [run_equalIn_struct w 9999 t _ _ (by rw [hfo]; exact hd) g2.1, hfo]
          exact eqFields_ok fields.toList ty.zero 0 a b g2.2 (by simpa using ha) (by simpa using hb) hr
        · rename_i m e
          simp only [Bool.and_eq_true, Nat.beq_eq] at g2
          obtain ⟨⟨⟨q1, q2⟩, q3⟩, q4⟩ := g2
          obtain ⟨ie, hie⟩ := Option.isSome_iff_exists.1 q1
          rw [run_equalIn_array w 9999 _ _ hd hie, q2, List.range_eq_range']
          rw [len_eq] at q3
          exact eqItems_ok m 0 ty.zero a b q3 (fun z hz => List.all_eq_true.1 q4 z hz) (by simpa using ha) (by simpa using hb) hr
        · cases g2
    · cases h3
  · cases h

def T.All {α : Type} (p : Nat → α → Prop) : T α → (Nat → Nat) → Prop
  | .e, _ => True
  | .n l v r, φ => T.All p l (fun i => φ (2 * i + 1)) ∧ (match v with | some x => p (φ 0) x | none => True) ∧ T.All p r (fun i => φ (2 * i + 2))

theorem T.All.get {α : Type} {p : Nat → α → Prop} : ∀ (t : T α) (φ : Nat → Nat), T.All p t φ → ∀ i x, t.get i = some x → p (φ i) x
  | .e, _, _, i, x, h => by simp [T.get] at h
  | .n l v r, φ, ha, 0, x, h => by
    have h1 := ha.2.1
    have h2 : v = some x := h
    rw [h2] at h1
    exact h1
  | .n l v r, φ, ha, j + 1, x, h => by
    have hj : (T.n l v r).get (j + 1) = if j % 2 = 0 then l.get (j / 2) else r.get (j / 2) := T.get_succ l v r j
    rw [hj] at h
    split at h
    · have := T.All.get l _ ha.1 (j / 2) x h
      rw [show 2 * (j / 2) + 1 = j + 1 by omega] at this
      exact this
    · have := T.All.get r _ ha.2.2 (j / 2) x h
      rw [show 2 * (j / 2) + 2 = j + 1 by omega] at this
      exact this

def T.allB {α : Type} (p : α → Bool) : T α → Bool
  | .e => true
  | .n l v r => T.allB p l && (match v with | some x => p x | none => true) && T.allB p r

theorem T.allB_ok {α : Type} {p : α → Bool} : ∀ (t : T α) (φ : Nat → Nat), T.allB p t = true → T.All (fun _ x => p x = true) t φ
  | .e, _, _ => trivial
  | .n l v r, φ, h => by
    simp only [T.allB, Bool.and_eq_true] at h
    refine ⟨T.allB_ok l _ h.1.1, ?_, T.allB_ok r _ h.2⟩
    cases v with
    | none => trivial
    | some x => exact h.1.2

noncomputable def tabChk (P : Program) (T : Nat → Option Ty) : Nat → Bool
  | 0 => true
  | n + 1 => (match T n with
    | some ty => tyChk P n ty
    | none => true) && tabChk P T n

theorem tabChk_ok {P : Program} {T : Nat → Option Ty} : ∀ n, tabChk P T n = true → ∀ t ty, t < n → T t = some ty → TyOk P t ty
  | 0, _, t, _, h, _ => by omega
  | n + 1, hc, t, ty, ht, h => by
    simp only [tabChk, Bool.and_eq_true] at hc
    by_cases e : t = n
    · subst e
      rw [h] at hc
      exact tyChk_ok hc.1
    · exact tabChk_ok n hc.2 t ty (by omega) h
end CX

namespace CX
open Go Go.Proofs

theorem fnT_ok : T.All (fun f fn => Try.prog.funcs[f]? = some fn) fnT id := (And.intro (And.intro (And.intro (And.intro (And.intro (And.intro (And.intro trivial (And.intro Try.func63 trivial)) (And.intro Try.func31 (And.intro trivial (And.intro Try.func95 trivial)))) (And.intro Try.func15 (And.intro (And.intro trivial (And.intro Try.func79 trivial)) (And.intro Try.func47 (And.intro trivial (And.intro Try.func111 trivial)))))) (And.intro Try.func7 (And.intro (And.intro (And.intro trivial (And.intro Try.func71 trivial)) (And.intro Try.func39 (And.intro trivial (And.intro Try.func103 trivial)))) (And.intro Try.func23 (And.intro (And.intro trivial (And.intro Try.func87 trivial)) (And.intro Try.func55 (And.intro trivial (And.intro Try.func119 trivial)))))))) (And.intro Try.func3 (And.intro (And.intro (And.intro (And.intro trivial (And.intro Try.func67 trivial)) (And.intro Try.func35 (And.intro trivial (And.intro Try.func99 trivial)))) (And.intro Try.func19 (And.intro (And.intro trivial (And.intro Try.func83 trivial)) (And.intro Try.func51 (And.intro trivial (And.intro Try.func115 trivial)))))) (And.intro Try.func11 (And.intro (And.intro (And.intro trivial (And.intro Try.func75 trivial)) (And.intro Try.func43 (And.intro trivial (And.intro Try.func107 trivial)))) (And.intro Try.func27 (And.intro (And.intro trivial (And.intro Try.func91 trivial)) (And.intro Try.func59 trivial)))))))) (And.intro trivial (And.intro (And.intro (And.intro (And.intro (And.intro trivial (And.intro Try.func65 trivial)) (And.intro Try.func33 (And.intro trivial (And.intro Try.func97 trivial)))) (And.intro Try.func17 (And.intro (And.intro trivial (And.intro Try.func81 trivial)) (And.intro Try.func49 (And.intro trivial (And.intro Try.func113 trivial)))))) (And.intro Try.func9 (And.intro (And.intro (And.intro trivial (And.intro Try.func73 trivial)) (And.intro Try.func41 (And.intro trivial (And.intro Try.func105 trivial)))) (And.intro Try.func25 (And.intro (And.intro trivial (And.intro Try.func89 trivial)) (And.intro Try.func57 (And.intro trivial (And.intro Try.func121 trivial)))))))) (And.intro Try.func5 (And.intro (And.intro (And.intro (And.intro trivial (And.intro Try.func69 trivial)) (And.intro Try.func37 (And.intro trivial (And.intro Try.func101 trivial)))) (And.intro Try.func21 (And.intro (And.intro trivial (And.intro Try.func85 trivial)) (And.intro Try.func53 (And.intro trivial (And.intro Try.func117 trivial)))))) (And.intro Try.func13 (And.intro (And.intro (And.intro trivial (And.intro Try.func77 trivial)) (And.intro Try.func45 (And.intro trivial (And.intro Try.func109 trivial)))) (And.intro Try.func29 (And.intro (And.intro trivial (And.intro Try.func93 trivial)) (And.intro Try.func61 trivial)))))))))) (And.intro trivial (And.intro (And.intro (And.intro (And.intro (And.intro (And.intro trivial (And.intro Try.func64 trivial)) (And.intro Try.func32 (And.intro trivial (And.intro Try.func96 trivial)))) (And.intro Try.func16 (And.intro (And.intro trivial (And.intro Try.func80 trivial)) (And.intro Try.func48 (And.intro trivial (And.intro Try.func112 trivial)))))) (And.intro Try.func8 (And.intro (And.intro (And.intro trivial (And.intro Try.func72 trivial)) (And.intro Try.func40 (And.intro trivial (And.intro Try.func104 trivial)))) (And.intro Try.func24 (And.intro (And.intro trivial (And.intro Try.func88 trivial)) (And.intro Try.func56 (And.intro trivial (And.intro Try.func120 trivial)))))))) (And.intro Try.func4 (And.intro (And.intro (And.intro (And.intro trivial (And.intro Try.func68 trivial)) (And.intro Try.func36 (And.intro trivial (And.intro Try.func100 trivial)))) (And.intro Try.func20 (And.intro (And.intro trivial (And.intro Try.func84 trivial)) (And.intro Try.func52 (And.intro trivial (And.intro Try.func116 trivial)))))) (And.intro Try.func12 (And.intro (And.intro (And.intro trivial (And.intro Try.func76 trivial)) (And.intro Try.func44 (And.intro trivial (And.intro Try.func108 trivial)))) (And.intro Try.func28 (And.intro (And.intro trivial (And.intro Try.func92 trivial)) (And.intro Try.func60 trivial)))))))) (And.intro Try.func2 (And.intro (And.intro (And.intro (And.intro (And.intro trivial (And.intro Try.func66 trivial)) (And.intro Try.func34 (And.intro trivial (And.intro Try.func98 trivial)))) (And.intro Try.func18 (And.intro (And.intro trivial (And.intro Try.func82 trivial)) (And.intro Try.func50 (And.intro trivial (And.intro Try.func114 trivial)))))) (And.intro Try.func10 (And.intro (And.intro (And.intro trivial (And.intro Try.func74 trivial)) (And.intro Try.func42 (And.intro trivial (And.intro Try.func106 trivial)))) (And.intro Try.func26 (And.intro (And.intro trivial (And.intro Try.func90 trivial)) (And.intro Try.func58 trivial)))))) (And.intro Try.func6 (And.intro (And.intro (And.intro (And.intro trivial (And.intro Try.func70 trivial)) (And.intro Try.func38 (And.intro trivial (And.intro Try.func102 trivial)))) (And.intro Try.func22 (And.intro (And.intro trivial (And.intro Try.func86 trivial)) (And.intro Try.func54 (And.intro trivial (And.intro Try.func118 trivial)))))) (And.intro Try.func14 (And.intro (And.intro (And.intro trivial (And.intro Try.func78 trivial)) (And.intro Try.func46 (And.intro trivial (And.intro Try.func110 trivial)))) (And.intro Try.func30 (And.intro (And.intro trivial (And.intro Try.func94 trivial)) (And.intro Try.func62 trivial))))))))))))
end CX

namespace CX
open Go
noncomputable section

def Known (E : Env) (P : Program) (rd : Option Nat) (c : Code) (S : St) (e : Ex) (S' : St) : Prop :=
  ∀ ρ a w, Sat E ρ S a w → RdOk ρ S.nx rd → c.wpIn (Fw (rdB ρ rd)) 0 P (CPost E ρ S w e S') a w

def KnownR (E : Env) (P : Program) (rd : Option Nat) (m : Nat) (c : Code) (S : St) (e : Ex) (S' : St) : Prop :=
  ∀ ρ a w, Sat E ρ S a w → RdOk ρ S.nx rd → Code.roundsIn (Fw (rdB ρ rd)) 0 P c (CPost E ρ S w e S') m a w

variable {E : Env} {P : Program} {rd : Option Nat}

theorem CPost.from {ρ : Nm} {S S0 : St} (h : Wk S S0) {w : World} {e : Ex} {S' : St} {x : Exit} {a' : Act} {w' : World} (hp : CPost E ρ S0 w e S' x a' w') : CPost E ρ S w e S' x a' w' := by
  obtain ⟨rfl, ρ', hL⟩ := hp
  exact ⟨rfl, ρ', hL.sat, by rw [← h.nx]; exact hL.ag, by rw [← h.nx]; exact hL.le, hL.nt.trans h.nt, hL.bar.trans h.bar,
    hL.fr.os, hL.fr.tape, hL.fr.output, hL.fr.size, fun b hb ho => hL.fr.keep b hb fun hn => ho (Own.wk h hn), fun b hb => (hL.fr.own b hb).imp (Own.wk h) id⟩

theorem CPost.to {ρ : Nm} {S S' S'' : St} (h : Wk S' S'') {w : World} {e : Ex} {x : Exit} {a' : Act} {w' : World} (hp : CPost E ρ S w e S' x a' w') : CPost E ρ S w e S'' x a' w' := by
  obtain ⟨rfl, ρ', hL⟩ := hp
  exact ⟨rfl, ρ', hL.wk h⟩

theorem Known.from {c : Code} {S S0 : St} {e : Ex} {S' : St} (h : Wk S S0) (k : Known E P rd c S0 e S') : Known E P rd c S e S' := fun ρ a w hS hrd => by
  have := k ρ a w (hS.wk h) (by rw [h.nx]; exact hrd)
  exact wpIn_mono this fun x a' w' hp => hp.from h

theorem KnownR.from {m : Nat} {c : Code} {S S0 : St} {e : Ex} {S' : St} (h : Wk S S0) (k : KnownR E P rd m c S0 e S') : KnownR E P rd m c S e S' := fun ρ a w hS hrd => by
  have := k ρ a w (hS.wk h) (by rw [h.nx]; exact hrd)
  exact roundsIn_mono (fun x a' w' hp => hp.from h) m a w this

theorem Known.to {c : Code} {S : St} {e : Ex} {S' S'' : St} (h : Wk S' S'') (k : Known E P rd c S e S') : Known E P rd c S e S'' := fun ρ a w hS hrd =>
  wpIn_mono (k ρ a w hS hrd) fun x a' w' hp => hp.to h

theorem Known.cx (hE : EnvOk E P) {n : Nat} {c : Code} {S : St} {e : Ex} {S' : St} (h : cx E n rd c S = some (e, S')) : Known E P rd c S e S' :=
  (cx_ok hE n).1 rd c S e S' h

theorem KnownR.cx (hE : EnvOk E P) {n : Nat} {c : Code} {S : St} {e : Ex} {S' : St} (h : cx E n rd (.loop c) S = some (e, S')) : KnownR E P rd n c S e S' :=
  (cx_ok hE n).2 rd c S e S' h

theorem KnownR.step {m : Nat} {c : Code} {S S1 : St} {e : Ex} {S' : St} (k1 : Known E P rd c S .normal S1) (k2 : KnownR E P rd m c S1 e S') : KnownR E P rd (m + 1) c S e S' := fun ρ a w hS hrd => by
  rw [roundsIn_succ]
  refine wpIn_mono (k1 ρ a w hS hrd) ?_
  rintro x a1 w1 ⟨rfl, ρ1, hL⟩
  have := k2 ρ1 a1 w1 hL.sat (hrd.ag hL.ag hL.le)
  rw [rdB_ag hrd hL.ag] at this
  exact roundsIn_mono (fun x a2 w2 hp => hp.after hL) m a1 w1 this

theorem KnownR.loop {m : Nat} {c : Code} {S : St} {e : Ex} {S' : St} (k : KnownR E P rd m c S e S') : Known E P rd (.loop c) S e S' := fun ρ a w hS hrd =>
  wpIn_loop_rounds m (k ρ a w hS hrd)

def itn (E : Env) (n : Nat) (rd : Option Nat) (c : Code) : Nat → St → Option St
  | 0, S => some S
  | k + 1, S => match cx E n rd c S with
    | some (.normal, S) => itn E n rd c k S
    | _ => none

theorem KnownR.itn (hE : EnvOk E P) {n : Nat} {c : Code} {e : Ex} {S' : St} : ∀ (k : Nat) {S S1 : St} {m : Nat}, itn E n rd c k S = some S1 → KnownR E P rd m c S1 e S' → KnownR E P rd (m + k) c S e S'
  | 0, S, S1, m, h, k2 => by
    simp only [CX.itn, Option.some.injEq] at h
    subst h
    exact k2
  | k + 1, S, S1, m, h, k2 => by
    simp only [CX.itn] at h
    split at h
    · rename_i S2 h2
      exact KnownR.step (Known.cx hE h2) (KnownR.itn hE k h k2)
    · cases h

def isS (S : St) : Option St → Bool
  | some S' => leS S S'
  | none => false

theorem KnownR.chunk (hE : EnvOk E P) {n k : Nat} {c : Code} {e : Ex} {S' S S1 : St} {m : Nat} (h : isS S1 (CX.itn E n rd c k S) = true) (k2 : KnownR E P rd m c S1 e S') : KnownR E P rd (m + k) c S e S' := by
  cases hi : CX.itn E n rd c k S with
  | none => rw [hi] at h; cases h
  | some S2 =>
    rw [hi] at h
    exact KnownR.itn hE k hi (k2.from (leS_ok h))


def flatC : Code → List Code
  | .seq a b => flatC a ++ flatC b
  | c => [c]

def wpL (F : Fence) (P : Program) (Q : Exit → Act → World → Prop) : List Code → Act → World → Prop
  | [] => Q .normal
  | c :: r => c.wpIn F 0 P (Exit.then (wpL F P Q r) Q)

theorem wpL_mono {F : Fence} {Q Q' : Exit → Act → World → Prop} (h : ∀ e a w, Q e a w → Q' e a w) : ∀ (l : List Code) (a : Act) (w : World), wpL F P Q l a w → wpL F P Q' l a w
  | [], a, w, hq => h _ _ _ hq
  | c :: r, a, w, hq => wpIn_mono (show c.wpIn F 0 P (Exit.then (wpL F P Q r) Q) a w from hq) fun e a w he => by
    cases e <;> first | exact wpL_mono h r _ _ he | exact h _ _ _ he

theorem wpL_app {F : Fence} {Q : Exit → Act → World → Prop} : ∀ (l l' : List Code) (a : Act) (w : World), wpL F P Q (l ++ l') a w → wpL F P (Exit.then (wpL F P Q l') Q) l a w
  | [], l', a, w, h => h
  | c :: r, l', a, w, h => wpIn_mono (show c.wpIn F 0 P (Exit.then (wpL F P Q (r ++ l')) Q) a w from h) fun e a w he => by
    cases e <;> first | exact wpL_app r l' _ _ he | exact he

theorem wpL_one {F : Fence} {Q : Exit → Act → World → Prop} {c : Code} {a : Act} {w : World} (h : wpL F P Q [c] a w) : c.wpIn F 0 P Q a w :=
  wpIn_mono (show c.wpIn F 0 P (Exit.then (wpL F P Q []) Q) a w from h) fun e a w he => by cases e <;> exact he

theorem wpL_flat {F : Fence} (c : Code) : ∀ {Q : Exit → Act → World → Prop} (a : Act) (w : World), wpL F P Q (flatC c) a w → c.wpIn F 0 P Q a w := by
  induction c with
  | seq c1 c2 i1 i2 =>
    intro Q a w h
    refine wpIn_seq (i1 a w (wpL_mono (fun e a w he => ?_) _ a w (wpL_app _ _ a w h)))
    cases e <;> first | exact i2 _ _ he | exact he
  | _ => exact fun a w h => wpL_one h

def KnownL (E : Env) (P : Program) (rd : Option Nat) (l : List Code) (S : St) (e : Ex) (S' : St) : Prop :=
  ∀ ρ a w, Sat E ρ S a w → RdOk ρ S.nx rd → wpL (Fw (rdB ρ rd)) P (CPost E ρ S w e S') l a w

theorem KnownL.code {c : Code} {S : St} {e : Ex} {S' : St} (k : KnownL E P rd (flatC c) S e S') : Known E P rd c S e S' := fun ρ a w hS hrd => wpL_flat c a w (k ρ a w hS hrd)

theorem KnownL.cons {c : Code} {l : List Code} {S S1 : St} {e : Ex} {S' : St} (k1 : Known E P rd c S .normal S1) (k2 : KnownL E P rd l S1 e S') : KnownL E P rd (c :: l) S e S' := fun ρ a w hS hrd => by
  refine wpIn_mono (k1 ρ a w hS hrd) ?_
  rintro x a1 w1 ⟨rfl, ρ1, hL⟩
  have := k2 ρ1 a1 w1 hL.sat (hrd.ag hL.ag hL.le)
  rw [rdB_ag hrd hL.ag] at this
  exact wpL_mono (fun x a2 w2 hp => hp.after hL) l a1 w1 this

theorem KnownL.from {l : List Code} {S S0 : St} {e : Ex} {S' : St} (h : Wk S S0) (k : KnownL E P rd l S0 e S') : KnownL E P rd l S e S' := fun ρ a w hS hrd =>
  wpL_mono (fun x a' w' hp => hp.from h) l a w (k ρ a w (hS.wk h) (by rw [h.nx]; exact hrd))

theorem KnownL.to {l : List Code} {S : St} {e : Ex} {S' S'' : St} (h : Wk S' S'') (k : KnownL E P rd l S e S') : KnownL E P rd l S e S'' := fun ρ a w hS hrd =>
  wpL_mono (fun x a' w' hp => hp.to h) l a w (k ρ a w hS hrd)

def runL (E : Env) (n : Nat) (rd : Option Nat) : List Code → St → Option St
  | [], S => some S
  | c :: r, S => match cx E n rd c S with
    | some (.normal, S) => runL E n rd r S
    | _ => none

theorem KnownL.run (hE : EnvOk E P) {n : Nat} {e : Ex} {S' : St} : ∀ (l : List Code) {l' : List Code} {S S1 : St}, runL E n rd l S = some S1 → KnownL E P rd l' S1 e S' → KnownL E P rd (l ++ l') S e S'
  | [], l', S, S1, h, k => by
    simp only [runL, Option.some.injEq] at h
    subst h
    exact k
  | c :: r, l', S, S1, h, k => by
    simp only [runL] at h
    split at h
    · rename_i S2 h2
      exact KnownL.cons (Known.cx hE h2) (KnownL.run hE r h k)
    · cases h

theorem KnownL.chunk (hE : EnvOk E P) {n : Nat} {e : Ex} {S' : St} {l l' : List Code} {S S1 : St} (h : isS S1 (runL E n rd l S) = true) (k : KnownL E P rd l' S1 e S') : KnownL E P rd (l ++ l') S e S' := by
  cases hi : runL E n rd l S with
  | none => rw [hi] at h; cases h
  | some S2 =>
    rw [hi] at h
    exact KnownL.run hE l hi (k.from (leS_ok h))

def runE (E : Env) (n : Nat) (rd : Option Nat) : List Code → St → Option (Ex × St)
  | [], S => some (.normal, S)
  | c :: r, S => match cx E n rd c S with
    | some (.normal, S) => runE E n rd r S
    | some (e, S) => some (e, S)
    | none => none

theorem KnownL.ends (hE : EnvOk E P) {n : Nat} {e : Ex} {S' : St} : ∀ (l : List Code) {S : St}, runE E n rd l S = some (e, S') → KnownL E P rd l S e S'
  | [], S, h => by
    simp only [runE, Option.some.injEq, Prod.mk.injEq] at h
    obtain ⟨rfl, rfl⟩ := h
    exact fun ρ a w hS _ => ⟨rfl, ρ, hS.lands⟩
  | c :: r, S, h => by
    simp only [runE] at h
    split at h
    · rename_i S2 h2
      exact KnownL.cons (Known.cx hE h2) (KnownL.ends hE r h)
    · rename_i e2 S2 hne h2
      simp only [Option.some.injEq, Prod.mk.injEq] at h
      obtain ⟨rfl, rfl⟩ := h
      intro ρ a w hS hrd
      refine wpIn_mono (Known.cx hE h2 ρ a w hS hrd) ?_
      rintro x a1 w1 ⟨rfl, hp⟩
      cases e2 with
      | normal => exact absurd rfl hne
      | ret => exact ⟨rfl, hp⟩
      | exit id => exact ⟨rfl, hp⟩
    · cases h

def isE (e : Ex) (S : St) : Option (Ex × St) → Bool
  | some (e', S') => exSame e e' && leS S S'
  | none => false

theorem KnownL.endC (hE : EnvOk E P) {n : Nat} {e : Ex} {S' : St} {l : List Code} {S : St} (h : isE e S' (runE E n rd l S) = true) : KnownL E P rd l S e S' := by
  cases hi : runE E n rd l S with
  | none => rw [hi] at h; cases h
  | some x =>
    obtain ⟨e2, S2⟩ := x
    rw [hi] at h
    simp only [isE, Bool.and_eq_true] at h
    have := exSame_ok h.1
    subst this
    exact (KnownL.ends hE l hi).to (leS_ok h.2)

theorem KnownR.endC (hE : EnvOk E P) {n : Nat} {c : Code} {e : Ex} {S S' : St} (h : isE e S' (CX.cx E n rd (.loop c) S) = true) : KnownR E P rd n c S e S' := by
  cases hi : CX.cx E n rd (.loop c) S with
  | none => rw [hi] at h; cases h
  | some x =>
    obtain ⟨e2, S2⟩ := x
    rw [hi] at h
    simp only [isE, Bool.and_eq_true] at h
    have := exSame_ok h.1
    subst this
    intro ρ a w hS hrd
    exact roundsIn_mono (fun x a' w' hp => hp.to (leS_ok h.2)) n a w (KnownR.cx hE hi ρ a w hS hrd)

theorem Known.block {id : Nat} {c : Code} {S S' : St} (k : Known E P rd c S (.exit id) S') : Known E P rd (.block id c) S .normal S' := fun ρ a w hS hrd => by
  refine wpIn_block (wpIn_mono (k ρ a w hS hrd) ?_)
  rintro x a1 w1 ⟨rfl, hp⟩
  simp only [exO, Exit.inBlock]
  exact ⟨rfl, hp⟩

def entered : List V → Nat → T V → T V
  | [], _, t => t
  | v :: l, i, t => entered l (Nat.succ i) (t.up i (some v))

theorem enterRegs_eq : ∀ (l : List V) (i : Nat) (t : T V) (k : T V → R), enterRegs l i t k = k (entered l i t)
  | [], _, _, _ => rfl
  | v :: l, i, t, k => by
    simp only [enterRegs, entered]
    rw [T.set_eq]
    exact enterRegs_eq l _ _ k

theorem known_call (hE : EnvOk E P) (hro : ∀ a, E.ro a = none) {f : Nat} {fn : Func} {c : Code} (hf : E.fn f = some fn) (hx : E.ext f = none) (hb : fn.body = some c) {hin : T O} {nxin : Nat} {args : List V} {v : V} {e : Ex} {S' : St}
    (ha : Nat.ble (len args) fn.ntmps = true) (k : Known E P none c ⟨fn.ntmps, 0, entered args 0 .e, hin, nxin, []⟩ e S') (he : e = .normal ∨ e = .ret) (hd : S'.df = [])
    (hr : resultsX E S'.regs S'.h fn.results.toList (fun l => retV (one l) S'.h S'.nx) = retV v S'.h S'.nx) :
    ∀ ρ w xs, HSat ρ hin.get nxin w → RvL ρ nxin args xs → Calls P f xs.toArray w (CallPost ρ hin.get nxin 0 w v S'.h.get S'.nx) := by
  intro ρ w xs hS hxs
  let S0 : St := ⟨fn.ntmps, 0, entered args 0 .e, hin, nxin, []⟩
  let ih : IH := fun rd c' S1 => @ite _ (rd = none ∧ c' = c ∧ S1 = S0) (Classical.propDecidable _) (some (e, S')) none
  have hI : IhOk E P ih := by
    intro rd c' S1 e1 S2 h
    by_cases hc : rd = none ∧ c' = c ∧ S1 = S0
    · have h2 : ih rd c' S1 = some (e, S') := if_pos hc
      rw [h2] at h
      cases h
      rw [hc.1, hc.2.1, hc.2.2]
      exact k
    · have h2 : ih rd c' S1 = none := if_neg hc
      rw [h2] at h
      cases h
  have hi : ih none c S0 = some (e, S') := by
    exact if_pos ⟨rfl, rfl, rfl⟩
  have hcall : callF E ih 0 hin nxin f args retV = retV v S'.h S'.nx := by
    obtain ⟨nt', bar', regs', h', nx', df'⟩ := S'
    have hd : df' = [] := hd
    subst hd
    have hr : resultsX E regs' h' fn.results.toList (fun l => retV (one l) h' nx') = retV v h' nx' := hr
    unfold callF
    simp only [hf, hb, ha, hx, enterRegs_eq]
    have hi : ih none c ⟨fn.ntmps, 0, entered args 0 .e, hin, nxin, []⟩ = some (e, ⟨nt', bar', regs', h', nx', []⟩) := hi
    rw [hi]
    rcases he with rfl | rfl <;> simp only [takeDf] <;> rw [hr] <;> rfl
  have hcall' : callF E ih 0 hin nxin f args retV = some (.normal, ⟨0, 0, .n .e (some v) .e, S'.h, S'.nx, []⟩) := hcall
  obtain ⟨v', g', n', fn', h1, _, _, h2⟩ := callF_ok hE hI (ρ := ρ) (n := nxin) (bar := 0) (g := hin) (w := w) (xs := xs) ⟨fun a v h => by (rw [hro] at h; cases h), fun a v h => by (rw [hro] at h; cases h)⟩ hS hxs hcall'
  simp only [retV, Option.some.injEq, Prod.mk.injEq, St.mk.injEq, T.n.injEq, true_and, and_true] at h1
  obtain ⟨rfl, rfl, rfl⟩ := h1
  exact callsIn_wide.1 (h2 none)
end
end CX

namespace CX
open Go
noncomputable section

variable {E : Env} {P : Program} {rd : Option Nat}

def flatN : Nat → Code → List Code
  | 0, c => [c]
  | n + 1, c => match c with
    | .seq a b => a :: flatN n b
    | c => [c]

theorem wpL_flatN {F : Fence} : ∀ (n : Nat) (c : Code) {Q : Exit → Act → World → Prop} (a : Act) (w : World), wpL F P Q (flatN n c) a w → c.wpIn F 0 P Q a w
  | 0, c, Q, a, w, h => wpL_one h
  | n + 1, c, Q, a, w, h => by
    cases c with
    | seq c1 c2 =>
      refine wpIn_seq (wpIn_mono (show c1.wpIn F 0 P (Exit.then (wpL F P Q (flatN n c2)) Q) a w from h) fun e a w he => ?_)
      cases e <;> first | exact wpL_flatN n c2 _ _ he | exact he
    | _ => exact wpL_one h

theorem KnownL.codeN {n : Nat} {c : Code} {S : St} {e : Ex} {S' : St} (k : KnownL E P rd (flatN n c) S e S') : Known E P rd c S e S' := fun ρ a w hS hrd => wpL_flatN n c a w (k ρ a w hS hrd)

theorem KnownL.nil {S : St} : KnownL E P rd [] S .normal S := fun ρ a w hS _ => ⟨rfl, ρ, hS.lands⟩

def Env.and (E : Env) (f : Nat) (x : Ext) : Env := ⟨E.T, E.fn, fun g => match Nat.beq g f with | true => some x | false => E.ext g, E.ro⟩

theorem EnvOk.and (hE : EnvOk E P) {f : Nat} {hin : CX.T O} {nxin : Nat} {args : List V} {v : V} {hout : CX.T O} {nxout : Nat}
    (h : ∀ ρ w xs, HSat ρ hin.get nxin w → RvL ρ nxin args xs → Calls P f xs.toArray w (CallPost ρ hin.get nxin 0 w v hout.get nxout)) : EnvOk (E.and f (.known hin nxin args v hout nxout)) P := by
  refine ⟨hE.T, hE.fn, hE.mixed, fun g b hg => ?_, fun g hin' nxin' args' v' hout' nxout' hg => ?_⟩
  · simp only [Env.and] at hg
    split at hg
    · cases hg
    · exact hE.ext g b hg
  · simp only [Env.and] at hg
    split at hg
    · rename_i hb
      simp only [Option.some.injEq, Ext.known.injEq] at hg
      obtain ⟨rfl, rfl, rfl, rfl, rfl, rfl⟩ := hg
      rw [Nat.eq_of_beq_eq_true hb]
      exact h
    · exact hE.known g _ _ _ _ _ _ hg

theorem known_closed (hE : EnvOk E P) (hro : ∀ a, E.ro a = none) {f : Nat} {fn : Func} {c : Code} (hf : E.fn f = some fn) (hx : E.ext f = none) (hb : fn.body = some c) {b : Bool} {e : Ex} {S' : St}
    (k : Known E P none c ⟨fn.ntmps, 0, .e, .e, 0, []⟩ e S') (he : e = .normal ∨ e = .ret) (hd : S'.df = [])
    (hr : resultsX E S'.regs S'.h fn.results.toList (fun l => retV (one l) S'.h S'.nx) = retV (.bool b) S'.h S'.nx) (w : World) :
    Calls P f #[] w fun e w' => e = .returned (.bool b) ∧ Kept w w' := by
  have h0 : HSat (fun _ => none) (T.e : T O).get 0 w := ⟨fun id o h => by simp [T.get] at h, fun id o id' o' h => by simp [T.get] at h, fun _ _ => rfl, fun _ _ h => by cases h⟩
  have := known_call hE hro hf hx hb (args := []) (by rfl) k he hd hr (fun _ => none) w [] h0 (by simp [RvL])
  refine this.mono fun e w' he => ?_
  obtain ⟨u, ρ', rfl, d1, _, _, _, d5⟩ := he
  simp only [Rv] at d1
  subst d1
  refine ⟨rfl, d5.os, d5.tape, d5.output, d5.size, fun b hb => d5.keep b hb ?_⟩
  rintro ⟨id, o, L, _, h, _⟩
  simp [T.get] at h
end
end CX

namespace CX
open Go Go.Proofs

theorem names_ok : T.allB (fun fn : Func => fn.name != "runtime.NumGoroutine") fnT = true := by kernel_rfl
theorem types_ok : tabChk Try.prog env.T 230 = true := by kernel_rfl

theorem env_ok : EnvOk env Try.prog := by
  refine ⟨fun t ty h => ?_, fun f fn h => ?_, by kernel_rfl, fun _ _ h => (by cases h), fun _ _ _ _ _ _ _ h => by cases h⟩
  · refine tabChk_ok 230 types_ok t ty ?_ h
    simp only [env] at h
    split at h
    · rename_i hb; simpa [Nat.blt_eq] using hb
    · cases h
  · refine ⟨T.All.get fnT id fnT_ok f fn h, ?_⟩
    have := T.All.get fnT id (T.allB_ok fnT id names_ok) f fn h
    simpa using this

noncomputable section
noncomputable def fb (f : Func) : Code := match f.body with | some c => c | none => .skip
noncomputable def pcW : List Code := flatC (fb Try.f13)
noncomputable def pcR : List Code := flatN 9 (fb Try.f33)
noncomputable def lpR : Code := match pcR[7]? with
  | some (Code.seq _ (Code.block _ (Code.loop b))) => b
  | _ => .skip
noncomputable def reR : Code := match pcR[7]? with
  | some (Code.seq a _) => a
  | _ => .skip
end

theorem runA : isS rA (runL env 1000 none (pcR.take 7 ++ [reR]) rEn) = true := by kernel_rfl
theorem runB : isS rB (itn env 1000 none lpR 5 rA) = true := by kernel_rfl
theorem runC : isS rC (itn env 1000 none lpR 5 rB) = true := by kernel_rfl
theorem runD : isS rD (itn env 1000 none lpR 5 rC) = true := by kernel_rfl
theorem runE' : isS rE (itn env 1000 none lpR 5 rD) = true := by kernel_rfl
theorem runF : isE (.exit 2) rF (cx env 1000 none (.loop lpR) rE) = true := by kernel_rfl
theorem runZ : isE .ret rZ (runE env 1000 none (pcR.drop 8) rF) = true := by kernel_rfl
end CX

namespace CX
open Go Go.Proofs

section
variable {E : Env} {P : Program} {rd : Option Nat}
theorem wpL_seq {F : Fence} {a b : Code} {l2 : List Code} {Q : Exit → Act → World → Prop} : ∀ (l1 : List Code) (x : Act) (w : World), wpL F P Q (l1 ++ a :: b :: l2) x w → wpL F P Q (l1 ++ .seq a b :: l2) x w
  | [], x, w, h => by
    refine wpIn_seq (wpIn_mono (show a.wpIn F 0 P (Exit.then (wpL F P Q (b :: l2)) Q) x w from h) fun e x w he => ?_)
    cases e <;> exact he
  | c :: r, x, w, h => wpIn_mono (show c.wpIn F 0 P (Exit.then (wpL F P Q (r ++ a :: b :: l2)) Q) x w from h) fun e x w he => by
    cases e <;> first | exact wpL_seq r _ _ he | exact he
theorem KnownL.seq {a b : Code} {l1 l2 : List Code} {S S' : St} {e : Ex} (k : KnownL E P rd (l1 ++ a :: b :: l2) S e S') : KnownL E P rd (l1 ++ .seq a b :: l2) S e S' := fun ρ x w hS hrd => wpL_seq l1 x w (k ρ x w hS hrd)
end

noncomputable section
noncomputable def gR (regs : T V) (t : Nat) : V := match regs.get t with | some v => v | none => .nili
noncomputable def rArgs : List V := [gR rEnR 0, gR rEnR 1, gR rEnR 2, gR rEnR 3]
noncomputable def envR : Env := env.and 33 (.known rEnH 386 rArgs (gR rVR 0) rZH 3300)
noncomputable def wZ : St := ⟨194, 0, .n .e (some (.bool true)) .e, .e, 3408, []⟩
end

theorem run_entry : leS rEn ⟨168, 0, entered rArgs 0 .e, rEnH, 386, []⟩ = true := by kernel_rfl
theorem run_pcs : flatN 9 (fb Try.f33) = pcR.take 7 ++ Code.seq reR (.block 2 (.loop lpR)) :: pcR.drop 8 := by kernel_rfl
theorem run_res : resultsX env rZ.regs rZ.h Try.f33.results.toList (fun l => retV (one l) rZ.h rZ.nx) = retV (gR rVR 0) rZ.h rZ.nx := by kernel_rfl
theorem run_fits : Nat.ble (len rArgs) Try.f33.ntmps = true := by kernel_rfl

theorem known_run : Known env Try.prog none (fb Try.f33) rEn .ret rZ := by
  refine KnownL.codeN (n := 9) ?_
  rw [run_pcs]
  refine KnownL.seq ?_
  rw [show pcR.take 7 ++ reR :: Code.block 2 (.loop lpR) :: pcR.drop 8 = (pcR.take 7 ++ [reR]) ++ (Code.block 2 (.loop lpR) :: pcR.drop 8) by rw [List.append_assoc]; rfl]
  have hl : KnownR env Try.prog none (1000 + 5 + 5 + 5 + 5) lpR rA (.exit 2) rF :=
    KnownR.chunk env_ok runB (KnownR.chunk env_ok runC (KnownR.chunk env_ok runD (KnownR.chunk env_ok runE' (KnownR.endC env_ok runF))))
  exact KnownL.chunk env_ok runA (KnownL.cons (Known.block hl.loop) (KnownL.endC env_ok runZ))

theorem f33_body : Try.f33.body = some (fb Try.f33) := by kernel_rfl
theorem f13_body : Try.f13.body = some (fb Try.f13) := by kernel_rfl
theorem f33_fn : env.fn 33 = some Try.f33 := by kernel_rfl
theorem f13_fn : envR.fn 13 = some Try.f13 := by kernel_rfl

theorem envR_ok : EnvOk envR Try.prog :=
  EnvOk.and env_ok (known_call env_ok (fun _ => rfl) f33_fn rfl f33_body run_fits (Known.from (leS_ok run_entry) known_run) (.inr rfl) rfl run_res)

theorem w_s10 : isS s10 (runL envR 1000 none (pcW.take 10) ⟨194, 0, .e, .e, 0, []⟩) = true := by kernel_rfl
theorem w_end : isE .ret wZ (runE envR 1000 none (pcW.drop 10) s10) = true := by kernel_rfl
theorem w_res : resultsX envR wZ.regs wZ.h Try.f13.results.toList (fun l => retV (one l) wZ.h wZ.nx) = retV (.bool true) wZ.h wZ.nx := by kernel_rfl

theorem works_known : Known envR Try.prog none (fb Try.f13) ⟨194, 0, .e, .e, 0, []⟩ .ret wZ := by
  refine KnownL.code ?_
  rw [show flatC (fb Try.f13) = pcW.take 10 ++ pcW.drop 10 from (List.take_append_drop 10 pcW).symm]
  exact KnownL.chunk envR_ok w_s10 (KnownL.endC envR_ok w_end)

theorem works_ok (w : World) : Calls Try.prog 13 #[] w fun e w' => e = .returned (.bool true) ∧ Kept w w' :=
  known_closed envR_ok (fun _ => rfl) f13_fn rfl f13_body works_known (.inr rfl) rfl w_res w
end CX
