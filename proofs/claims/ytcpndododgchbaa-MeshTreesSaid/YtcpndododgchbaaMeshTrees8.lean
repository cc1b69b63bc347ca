/-
  Texts of the executors: CxStates, CxTab, CxEnv, CxFn, CxKn, CxKn2, CxWorks1, CxWorks, HxTab, HxC0, HxLib0, HxSrt, HxC, HxLib, V8.
-/
import Derived.Test.YtcpndododgchbaaMeshTrees7
import Derived.Test.YtcpndododgchbaaProg
import Derived.ChangeKeysEq
import Derived.KernelRfl
set_option linter.all false
noncomputable section
namespace CX
open Go
noncomputable section
abbrev i (n:Int):V:=.int .i64 n
def s10H:T O:=.n (.b (.l (.l (.l (.l (.l (.r (.f (.cells (.n (.q 65535) (some (i 7)) (.q 16)) 3)))))))) (.r (.b (.r (.r (.r (.l (.f (.cells (.n (.n (.q 7) (some (i 65535)) (.q 1)) (some (i 3)) (.n (.q 65535) (some (i 16)) .e)) 6)))))) (.l (.r (.r (.l (.f (.cells (.n (.n (.f (.nils)) (some (.slc 373 3 0 2 none)) (.f (.slc 383 3 0 1 none))) (some (.slc 368 3 0 1 none)) (.n (.f (.nils)) (some (.slc 378 3 0 1 none)) .e)) 6))))))))) (some (.cells (.n (.q 2) (some (i 3)) (.q 2)) 3)) (.b (.l (.l (.r (.r (.r (.l (.f (.cells (.n (.q 65535) (some (i 7)) (.q 17)) 3)))))))) (.l (.r (.r (.r (.r (.l (.f (.cells (.n (.q 65535) (some (i 7)) (.q 18)) 3)))))))))
def s10R:T V:=.b (.f (.ptr 0 0)) (.l (.l (.f (.slc 365 1 0 6 (some 6)))))
def s10:St:=⟨194,0,s10R,s10H,385,[]⟩
def rEnH:T O:=.n (.b (.l (.l (.l (.l (.l (.r (.f (.cells (.n (.q 65535) (some (i 7)) (.q 16)) 3)))))))) (.b (.l (.l (.l (.l (.r (.f (.cells (.n (.n (.n (.q 0) (some (i 0)) (.q 0)) (some (i 0)) (.n (.q 0) (some (i 0)) .e)) (some (i 0)) (.n (.n (.q 0) (some (i 0)) .e) (some (i 7)) (.n (.q 7) (some (i 7)) .e))) 12))))))) (.b (.r (.r (.r (.l (.f (.cells (.n (.n (.q 7) (some (i 65535)) (.q 1)) (some (i 3)) (.n (.q 65535) (some (i 16)) .e)) 6)))))) (.l (.r (.r (.l (.f (.cells (.n (.n (.f (.nils)) (some (.slc 373 3 0 2 none)) (.f (.slc 383 3 0 1 none))) (some (.slc 368 3 0 1 none)) (.n (.f (.nils)) (some (.slc 378 3 0 1 none)) .e)) 6))))))))) (some (.cells (.n (.q 2) (some (i 3)) (.q 2)) 3)) (.b (.l (.l (.r (.r (.r (.l (.f (.cells (.n (.q 65535) (some (i 7)) (.q 17)) 3)))))))) (.l (.r (.r (.r (.r (.l (.f (.cells (.n (.q 65535) (some (i 7)) (.q 18)) 3)))))))))
def rEnR:T V:=.n (.n (.q 20) (some (.slc 365 1 0 6 (some 6))) .e) (some (.agg [i 3,i 2,i 2])) (.f (.slc 385 4 0 3 (some 3)))
def rEn:St:=⟨168,0,rEnR,rEnH,386,[]⟩
def rAH:T O:=.n (.b (.b (.b (.l (.b (.l (.r (.f (.cells (.n (.q 65535) (some (i 7)) (.q 16)) 3)))) (.l (.r (.f (.cells (.n (.n (.q 0) (some (i 0)) .e) (some (i 0)) (.q 7)) 4)))))) (.r (.l (.l (.r (.f (.cells (.n (.n (.n (.f (.map 406)) (some (.slc 365 1 0 6 (some 6))) (.q 0)) (some (i 2)) (.n (.f (.nils)) (some (.map 404)) .e)) (some (i 3)) (.n (.n (.f (.nils)) (some (.slc 385 4 0 3 (some 3))) .e) (some (i 2)) (.n (.f (.slc 408 2 0 6 (some 6))) (some (.map 405)) .e))) 12))))))) (.l (.l (.l (.l (.r (.f (.cells (.n (.n (.q 0) (some (.nils)) .e) (some (.nils)) (.f (.nils))) 4)))))))) (.b (.l (.l (.b (.l (.r (.f (.cells (.n (.n (.n (.q 0) (some (i 0)) (.q 0)) (some (i 0)) (.n (.q 0) (some (i 0)) .e)) (some (i 0)) (.n (.n (.q 0) (some (i 0)) .e) (some (i 7)) (.n (.q 7) (some (i 7)) .e))) 12)))) (.l (.r (.f (.cells (.n (.q 1) (some (i 0)) (.q 2)) 3))))))) (.b (.r (.b (.l (.r (.f (.map [] 0)))) (.r (.l (.f (.cells (.n (.n (.q 7) (some (i 65535)) (.q 1)) (some (i 3)) (.n (.q 65535) (some (i 16)) .e)) 6)))))) (.l (.r (.r (.l (.f (.cells (.n (.n (.f (.nils)) (some (.slc 373 3 0 2 none)) (.f (.slc 383 3 0 1 none))) (some (.slc 368 3 0 1 none)) (.n (.f (.nils)) (some (.slc 378 3 0 1 none)) .e)) 6))))))))) (some (.cells (.n (.q 2) (some (i 3)) (.q 2)) 3)) (.b (.b (.b (.b (.r (.l (.r (.f (.cells (.q 2) 1))))) (.r (.r (.l (.f (.cells (.n (.q 65535) (some (i 7)) (.q 17)) 3)))))) (.r (.l (.l (.r (.f (.cells (.n (.n (.n (.q 0) (some (i 0)) (.q 0)) (some (i 0)) (.n (.q 0) (some (i 0)) .e)) (some (i 0)) (.n (.n (.q 0) (some (i 0)) .e) (some (i 0)) (.n (.q 0) (some (i 0)) .e))) 12))))))) (.l (.r (.l (.l (.r (.f (.map [(i 0,.slc 417 1 0 3 none,0)] 1)))))))) (.b (.b (.l (.l (.l (.r (.f (.cells (.n (.q 2) (some (i 3)) (.q 2)) 3)))))) (.r (.r (.r (.l (.f (.cells (.n (.q 65535) (some (i 7)) (.q 18)) 3))))))) (.l (.r (.l (.l (.r (.f (.map [] 0)))))))))
def rAR:T V:=.n (.n (.n (.b (.b (.n (.f (.slc 385 4 0 3 (some 3))) (some (.agg [i 3,i 2,i 2])) .e) (.n (.f (.map 404)) (some (.slc 385 4 0 3 (some 3))) .e)) (.b (.n (.f (.ptr 407 0)) (some (.bool false)) .e) (.n (.q 20) (some (i 3)) .e))) (some (i 20)) (.n (.b (.n (.q 2) (some (.bool false)) .e) (.n (.q 2) (some (.agg [i 3,i 2,i 2,.slc 365 1 0 6 (some 6),.slc 385 4 0 3 (some 3),.map 404,.map 405,.map 406,.nils,.nils,.nils,i 0])) .e)) (some (i 0)) (.n (.n (.q 0) (some (.bool false)) .e) (some (i 0)) (.f (.slc 408 2 0 6 (some 6)))))) (some (.slc 365 1 0 6 (some 6))) (.b (.n (.b (.n (.q 3) (some (i 0)) .e) (.n (.q 0) (some (.map 405)) .e)) (some (i 0)) (.n (.n (.f (.map 404)) (some (i 20)) .e) (some (.slc 365 1 0 6 (some 6))) (.q 2))) (.n (.b (.l (.f (.agg [i 0,i 0,i 7,i 0]))) (.n (.f (.slc 417 1 0 3 none)) (some (.ptr 407 0)) .e)) (some (i 2)) (.b (.n (.f (.ptr 407 0)) (some (.agg [i 3,i 2,i 2])) .e) (.f (.ptr 407 8)))))) (some (.agg [i 3,i 2,i 2])) (.n (.n (.n (.b (.n (.q 3) (some (.slc 385 4 0 3 (some 3))) .e) (.n (.f (.ptr 415 0)) (some (.map 404)) .e)) (some (.ptr 387 0)) (.n (.n (.f (.ptr 407 5)) (some (.bool false)) .e) (some (.agg [i 3,i 2,i 2])) (.n (.q 0) (some (.ptr 386 1)) .e))) (some (.ptr 386 0)) (.n (.b (.l (.f (.ptr 385 8))) (.n (.f (.slc 416 1 0 1 (some 1))) (some (.ptr 407 0)) .e)) (some (.ptr 407 0)) (.n (.l (.f (.ptr 407 0))) (some (.bool false)) (.f (.ptr 407 0))))) (some (.slc 385 4 0 3 (some 3))) (.b (.n (.b (.n (.f (.bool false)) (some (i 0)) .e) (.n (.f (.slc 414 1 0 2 none)) (some (.map 406)) .e)) (some (i 0)) (.n (.n (.f (.ptr 415 0)) (some (.bool false)) .e) (some (i 0)) (.q 6))) (.n (.b (.n (.f (.ptr 407 0)) (some (i 20)) .e) (.n (.q 3) (some (.ptr 386 0)) .e)) (some (.ptr 415 0)) (.b (.n (.f (.ptr 407 5)) (some (.slc 365 1 0 6 (some 6))) .e) (.f (.ptr 407 10))))))
def rA:St:=⟨168,0,rAR,rAH,418,[]⟩
def rBH:T O:=.n (.b (.b (.b (.b (.b (.b (.r (.n (.f (.cells (.f (.nils)) 1)) (some (.cells (.n (.q 65535) (some (i 7)) (.q 16)) 3)) .e)) (.r (.f (.cells (.f (.slc 470 1 2 0 none)) 1)))) (.b (.r (.f (.cells (.n (.n (.q 0) (some (i 0)) .e) (some (i 0)) (.q 7)) 4))) (.l (.l (.f (.cells (.f (.nils)) 1)))))) (.l (.r (.b (.l (.f (.cells (.f (.nils)) 1))) (.f (.cells (.n (.q 1) (some (i 0)) .e) 2)))))) (.b (.b (.l (.r (.l (.f (.cells (.f (.nils)) 1))))) (.r (.r (.f (.cells (.n (.n (.n (.q 0) (some (i 0)) .e) (some (i 0)) (.q 0)) (some (i 2)) (.n (.q 2) (some (i 1)) (.q 16))) 8))))) (.b (.b (.r (.f (.cells (.n (.n (.n (.f (.map 406)) (some (.slc 365 1 0 6 (some 6))) (.q 0)) (some (i 2)) (.n (.f (.slc 487 4 0 2 none)) (some (.map 404)) .e)) (some (i 3)) (.n (.n (.f (.slc 1318 3 0 6 none)) (some (.slc 385 4 0 3 (some 3))) .e) (some (i 2)) (.n (.f (.slc 408 2 0 6 (some 6))) (some (.map 405)) .e))) 12))) (.l (.l (.f (.cells (.f (.nils)) 1))))) (.l (.r (.f (.cells (.f (.slc 463 1 2 0 none)) 1))))))) (.b (.b (.l (.l (.r (.n (.f (.cells (.f (.nils)) 1)) (some (.cells (.n (.n (.q 0) (some (.nils)) .e) (some (.nils)) (.f (.nils))) 4)) .e)))) (.l (.r (.l (.l (.f (.cells (.f (.nils)) 1))))))) (.b (.l (.l (.r (.l (.f (.cells (.f (.nils)) 1)))))) (.b (.r (.l (.l (.f (.cells (.f (.nils)) 1))))) (.r (.l (.l (.f (.cells (.f (.nils)) 1))))))))) (.b (.b (.b (.b (.l (.r (.n (.f (.cells (.f (.nils)) 1)) (some (.cells (.n (.n (.n (.q 0) (some (i 0)) (.q 0)) (some (i 0)) (.n (.q 0) (some (i 0)) .e)) (some (i 0)) (.n (.n (.q 0) (some (i 0)) .e) (some (i 7)) (.n (.q 7) (some (i 7)) .e))) 12)) .e))) (.b (.b (.l (.f (.cells (.f (.nils)) 1))) (.f (.cells (.n (.q 1) (some (i 0)) (.q 2)) 3))) (.l (.l (.f (.cells (.f (.slc 1053 1 1 0 none)) 1)))))) (.l (.r (.l (.l (.f (.cells (.f (.nils)) 1))))))) (.b (.l (.l (.r (.l (.f (.cells (.f (.nils)) 1)))))) (.b (.r (.l (.l (.f (.cells (.f (.nils)) 1))))) (.r (.l (.l (.f (.cells (.f (.nils)) 1)))))))) (.b (.b (.l (.l (.r (.l (.f (.cells (.f (.nils)) 1)))))) (.b (.b (.r (.f (.map [(.agg [i 0,i 1,i 0],.ptr 439 0,0),(.agg [i 0,i 16,i 0],.ptr 447 0,1),(.agg [i 0,i 1,i 1],.ptr 545 0,2),(.agg [i 0,i 2,i 1],.ptr 552 0,3),(.agg [i 0,i 2,i 0],.ptr 554 0,4),(.agg [i 0,i 4,i 1],.ptr 556 0,5),(.agg [i 0,i 4,i 0],.ptr 558 0,6),(.agg [i 0,i 8,i 1],.ptr 560 0,7),(.agg [i 0,i 8,i 0],.ptr 562 0,8),(.agg [i 0,i 16,i 1],.ptr 564 0,9),(.agg [i 1,i 1,i 1],.ptr 570 0,10),(.agg [i 1,i 1,i 0],.ptr 572 0,11),(.agg [i 1,i 2,i 1],.ptr 574 0,12),(.agg [i 1,i 2,i 0],.ptr 576 0,13),(.agg [i 1,i 4,i 1],.ptr 578 0,14),(.agg [i 1,i 4,i 0],.ptr 580 0,15),(.agg [i 1,i 8,i 1],.ptr 582 0,16),(.agg [i 1,i 8,i 0],.ptr 584 0,17),(.agg [i 1,i 16,i 1],.ptr 586 0,18),(.agg [i 1,i 16,i 0],.ptr 588 0,19),(.agg [i 2,i 1,i 1],.ptr 591 0,20),(.agg [i 2,i 1,i 0],.ptr 593 0,21),(.agg [i 2,i 2,i 1],.ptr 595 0,22),(.agg [i 2,i 2,i 0],.ptr 597 0,23),(.agg [i 2,i 4,i 1],.ptr 599 0,24),(.agg [i 2,i 4,i 0],.ptr 601 0,25),(.agg [i 2,i 8,i 1],.ptr 603 0,26),(.agg [i 2,i 8,i 0],.ptr 605 0,27),(.agg [i 2,i 16,i 1],.ptr 607 0,28),(.agg [i 2,i 16,i 0],.ptr 609 0,29),(.agg [i 3,i 1,i 1],.ptr 612 0,30),(.agg [i 3,i 1,i 0],.ptr 614 0,31),(.agg [i 3,i 2,i 1],.ptr 616 0,32),(.agg [i 3,i 2,i 0],.ptr 618 0,33),(.agg [i 3,i 4,i 1],.ptr 620 0,34),(.agg [i 3,i 4,i 0],.ptr 622 0,35),(.agg [i 3,i 8,i 1],.ptr 624 0,36),(.agg [i 3,i 8,i 0],.ptr 626 0,37),(.agg [i 3,i 16,i 1],.ptr 628 0,38),(.agg [i 3,i 16,i 0],.ptr 630 0,39),(.agg [i 4,i 1,i 1],.ptr 633 0,40),(.agg [i 4,i 1,i 0],.ptr 635 0,41),(.agg [i 4,i 2,i 1],.ptr 637 0,42),(.agg [i 4,i 2,i 0],.ptr 639 0,43),(.agg [i 4,i 4,i 1],.ptr 641 0,44),(.agg [i 4,i 4,i 0],.ptr 643 0,45),(.agg [i 4,i 8,i 1],.ptr 645 0,46),(.agg [i 4,i 8,i 0],.ptr 647 0,47),(.agg [i 4,i 16,i 1],.ptr 649 0,48),(.agg [i 4,i 16,i 0],.ptr 651 0,49),(.agg [i 5,i 1,i 1],.ptr 654 0,50),(.agg [i 5,i 1,i 0],.ptr 656 0,51),(.agg [i 5,i 2,i 1],.ptr 658 0,52),(.agg [i 5,i 2,i 0],.ptr 660 0,53),(.agg [i 5,i 4,i 1],.ptr 662 0,54),(.agg [i 5,i 4,i 0],.ptr 664 0,55),(.agg [i 5,i 8,i 1],.ptr 666 0,56),(.agg [i 5,i 8,i 0],.ptr 668 0,57),(.agg [i 5,i 16,i 1],.ptr 670 0,58),(.agg [i 5,i 16,i 0],.ptr 672 0,59)] 60))) (.l (.l (.f (.cells (.f (.slc 1046 1 1 0 none)) 1))))) (.r (.l (.f (.cells (.n (.n (.q 7) (some (i 65535)) (.q 1)) (some (i 3)) (.n (.q 65535) (some (i 16)) .e)) 6)))))) (.b (.b (.r (.r (.l (.l (.f (.cells (.q 4) 1)))))) (.r (.l (.f (.cells (.n (.n (.f (.nils)) (some (.slc 373 3 0 2 none)) (.f (.slc 383 3 0 1 none))) (some (.slc 368 3 0 1 none)) (.n (.f (.nils)) (some (.slc 378 3 0 1 none)) .e)) 6))))) (.b (.b (.l (.l (.l (.f (.cells (.q 1) 1))))) (.l (.l (.f (.cells (.f (.nils)) 1))))) (.r (.l (.l (.f (.cells (.f (.nils)) 1)))))))))) (some (.cells (.n (.q 2) (some (i 3)) (.q 2)) 3)) (.b (.b (.b (.b (.b (.r (.l (.l (.f (.cells (.f (.nils)) 1))))) (.l (.r (.n (.f (.cells (.f (.slc 1250 1 1 0 none)) 1)) (some (.cells (.q 2) 1)) .e)))) (.b (.l (.r (.l (.f (.cells (.f (.nils)) 1))))) (.b (.l (.l (.f (.cells (.f (.nils)) 1)))) (.l (.n (.f (.cells (.f (.nils)) 1)) (some (.cells (.n (.q 65535) (some (i 7)) (.q 17)) 3)) .e))))) (.b (.b (.r (.l (.l (.f (.cells (.f (.nils)) 1))))) (.b (.l (.l (.f (.cells (.f (.nils)) 1)))) (.l (.l (.f (.cells (.f (.nils)) 1)))))) (.l (.b (.r (.n (.f (.cells (.f (.nils)) 1)) (some (.cells (.n (.n (.n (.q 0) (some (i 0)) (.q 0)) (some (i 0)) (.n (.q 0) (some (i 0)) .e)) (some (i 2)) (.n (.n (.q 0) (some (i 1)) .e) (some (i 1)) (.n (.q 1) (some (i 0)) .e))) 12)) .e)) (.r (.l (.l (.f (.cells (.q 1) 1))))))))) (.b (.b (.b (.r (.l (.l (.f (.cells (.f (.nils)) 1))))) (.r (.l (.l (.f (.cells (.f (.nils)) 1)))))) (.b (.l (.r (.n (.f (.cells (.f (.nils)) 1)) (some (.map [(i 0,.slc 417 1 0 3 none,0)] 1)) .e))) (.b (.l (.l (.f (.cells (.f (.nils)) 1)))) (.l (.l (.f (.cells (.f (.nils)) 1))))))) (.b (.b (.r (.b (.l (.f (.cells (.f (.nils)) 1))) (.l (.l (.f (.cells (.f (.ptr 407 0)) 1)))))) (.b (.l (.l (.f (.cells (.f (.nils)) 1)))) (.l (.l (.f (.cells (.f (.nils)) 1)))))) (.b (.l (.r (.l (.f (.cells (.f (.nils)) 1))))) (.l (.l (.l (.f (.cells (.f (.slc 862 1 1 0 none)) 1))))))))) (.b (.b (.b (.b (.b (.r (.f (.cells (.n (.q 2) (some (i 3)) (.q 2)) 3))) (.l (.l (.f (.cells (.f (.nils)) 1))))) (.r (.r (.l (.l (.f (.cells (.q 1) 1))))))) (.b (.l (.r (.l (.f (.cells (.f (.nils)) 1))))) (.b (.l (.l (.f (.cells (.f (.nils)) 1)))) (.l (.l (.f (.cells (.f (.nils)) 1))))))) (.b (.b (.r (.l (.l (.f (.cells (.f (.nils)) 1))))) (.b (.l (.l (.f (.cells (.f (.nils)) 1)))) (.l (.l (.f (.cells (.f (.nils)) 1)))))) (.b (.l (.b (.r (.l (.f (.cells (.n (.n (.q 8) (some (i 2)) .e) (some (i 1)) (.n (.q 16) (some (i 4)) .e)) 5)))) (.l (.f (.cells (.f (.nils)) 1))))) (.b (.l (.l (.f (.cells (.f (.nils)) 1)))) (.l (.f (.cells (.n (.q 65535) (some (i 7)) (.q 18)) 3))))))) (.b (.b (.b (.r (.l (.l (.f (.cells (.f (.nils)) 1))))) (.b (.l (.r (.l (.f (.cells (.n (.n (.n (.n (.q 1) (some (i 2)) .e) (some (i 1)) (.q 3)) (some (i 0)) (.n (.n (.q 4) (some (i 1)) .e) (some (i 1)) (.q 5))) (some (i 0)) (.n (.n (.n (.q 5) (some (i 2)) .e) (some (i 0)) (.q 0)) (some (i 0)) (.n (.q 2) (some (i 0)) (.q 3)))) 18))))) (.l (.l (.f (.cells (.f (.nils)) 1)))))) (.b (.b (.b (.l (.l (.f (.cells (.q 1) 1)))) (.n (.f (.cells (.f (.nils)) 1)) (some (.map [] 6)) .e)) (.r (.f (.cells (.n (.q 1) (some (i 0)) .e) 2)))) (.r (.l (.l (.f (.cells (.f (.nils)) 1))))))) (.b (.b (.b (.r (.l (.f (.cells (.f (.nils)) 1)))) (.r (.l (.l (.f (.cells (.q 5) 1)))))) (.b (.l (.l (.f (.cells (.f (.nils)) 1)))) (.l (.l (.f (.cells (.f (.nils)) 1)))))) (.b (.b (.r (.l (.f (.cells (.f (.nils)) 1)))) (.l (.r (.f (.cells (.q 1) 1))))) (.l (.l (.l (.f (.cells (.f (.nils)) 1))))))))))
def rBR:T V:=.n (.n (.n (.b (.n (.n (.n (.q 16) (some (.slc 385 4 0 3 (some 3))) .e) (some (.agg [i 3,i 2,i 2])) (.q 5)) (some (i 4)) (.n (.f (.map 404)) (some (.slc 385 4 0 3 (some 3))) (.q 1))) (.b (.n (.f (.ptr 407 0)) (some (.bool false)) (.f (.bool false))) (.n (.q 20) (some (i 3)) (.q 5)))) (some (i 20)) (.n (.n (.n (.n (.q 5) (some (i 2)) .e) (some (.bool false)) (.f (.fn (.func 97) [] [.ptr 1230 0,.ptr 1228 0,.ptr 1229 0]))) (some (i 5)) (.n (.q 2) (some (.agg [i 3,i 2,i 2,.slc 365 1 0 6 (some 6),.slc 385 4 0 3 (some 3),.map 404,.map 405,.map 406,.nils,.nils,.nils,i 0])) (.q 6))) (some (i 0)) (.n (.n (.q 0) (some (.bool false)) (.q 4)) (some (i 0)) (.n (.f (.slc 365 1 0 6 (some 6))) (some (.slc 408 2 0 6 (some 6))) (.q 16))))) (some (.slc 365 1 0 6 (some 6))) (.b (.n (.b (.n (.n (.q 5) (some (i 3)) .e) (some (i 0)) (.q 4)) (.n (.q 0) (some (.map 405)) (.f (.slc 365 1 0 6 (some 6))))) (some (i 0)) (.n (.n (.f (.map 404)) (some (i 20)) (.q 1)) (some (.slc 365 1 0 6 (some 6))) (.n (.f (.bool true)) (some (i 2)) (.f (.bool false))))) (.n (.n (.b (.f (.agg [i 0,i 0,i 7,i 0])) (.q 1)) (some (i 16)) (.n (.f (.slc 417 1 0 3 none)) (some (.ptr 407 0)) (.q 5))) (some (i 2)) (.b (.n (.f (.ptr 407 0)) (some (.agg [i 3,i 2,i 2])) (.q 1)) (.n (.q 6) (some (.ptr 407 8)) (.q 4)))))) (some (.agg [i 3,i 2,i 2])) (.n (.n (.n (.n (.n (.n (.f (.tup [])) (some (i 3)) .e) (some (.slc 385 4 0 3 (some 3))) (.f (.ptr 407 0))) (some (i 5)) (.n (.f (.ptr 415 0)) (some (.map 404)) (.q 6))) (some (.ptr 387 0)) (.n (.n (.f (.ptr 407 5)) (some (.bool false)) (.f (.ptr 1240 0))) (some (.agg [i 3,i 2,i 2])) (.n (.q 5) (some (.ptr 386 1)) (.q 5)))) (some (.ptr 386 0)) (.n (.b (.b (.f (.ptr 385 8)) (.f (.slc 1240 1 0 1 none))) (.n (.f (.slc 416 1 0 1 (some 1))) (some (.ptr 407 0)) (.f (.bool false)))) (some (.ptr 407 0)) (.n (.b (.f (.ptr 407 0)) (.q 5)) (some (.bool false)) (.n (.q 6) (some (.ptr 407 0)) (.f (.ptr 407 0)))))) (some (.slc 385 4 0 3 (some 3))) (.b (.n (.n (.n (.n (.q 6) (some (.bool false)) .e) (some (i 0)) (.q 5)) (some (i 1)) (.n (.f (.slc 414 1 0 2 none)) (some (.map 406)) (.q 6))) (some (i 0)) (.n (.n (.f (.ptr 415 0)) (some (.bool false)) (.f (.ptr 407 0))) (some (i 0)) (.n (.q 4) (some (i 6)) (.f (.ptr 1306 4))))) (.n (.b (.n (.f (.ptr 407 0)) (some (i 20)) (.q 1)) (.n (.q 3) (some (.ptr 386 0)) (.f (.slc 1306 1 0 5 (some 5))))) (some (.ptr 415 0)) (.b (.n (.f (.ptr 407 5)) (some (.slc 365 1 0 6 (some 6))) (.f (.tup []))) (.n (.f (.bool false)) (some (.ptr 407 10)) (.q 5))))))
def rB:St:=⟨168,0,rBR,rBH,1319,[]⟩
def rCH:T O:=.n (.b (.b (.b (.b (.b (.b (.r (.n (.f (.cells (.f (.nils)) 1)) (some (.cells (.n (.q 65535) (some (i 7)) (.q 16)) 3)) .e)) (.r (.f (.cells (.f (.slc 470 1 2 0 none)) 1)))) (.b (.r (.f (.cells (.n (.n (.q 0) (some (i 0)) .e) (some (i 0)) (.q 7)) 4))) (.l (.l (.f (.cells (.f (.nils)) 1)))))) (.b (.r (.b (.l (.f (.cells (.f (.nils)) 1))) (.f (.cells (.n (.q 1) (some (i 0)) .e) 2)))) (.r (.l (.r (.r (.f (.cells (.q 9) 1)))))))) (.b (.b (.l (.r (.l (.f (.cells (.f (.nils)) 1))))) (.r (.r (.f (.cells (.n (.n (.n (.q 0) (some (i 0)) .e) (some (i 0)) (.q 0)) (some (i 2)) (.n (.q 2) (some (i 1)) (.q 16))) 8))))) (.b (.b (.r (.f (.cells (.n (.n (.n (.f (.map 406)) (some (.slc 365 1 0 6 (some 6))) (.q 0)) (some (i 2)) (.n (.f (.slc 487 4 0 2 none)) (some (.map 404)) .e)) (some (i 3)) (.n (.n (.f (.slc 1318 3 0 6 none)) (some (.slc 385 4 0 3 (some 3))) .e) (some (i 2)) (.n (.f (.slc 408 2 0 6 (some 6))) (some (.map 405)) .e))) 12))) (.l (.l (.f (.cells (.f (.nils)) 1))))) (.l (.r (.f (.cells (.f (.slc 463 1 2 0 none)) 1))))))) (.b (.b (.l (.l (.r (.n (.f (.cells (.f (.nils)) 1)) (some (.cells (.n (.n (.q 0) (some (.nils)) .e) (some (.nils)) (.f (.nils))) 4)) .e)))) (.l (.r (.l (.l (.f (.cells (.f (.nils)) 1))))))) (.b (.l (.l (.r (.l (.f (.cells (.f (.nils)) 1)))))) (.b (.r (.l (.l (.f (.cells (.f (.nils)) 1))))) (.r (.l (.l (.f (.cells (.f (.nils)) 1))))))))) (.b (.b (.b (.b (.l (.r (.n (.f (.cells (.f (.nils)) 1)) (some (.cells (.n (.n (.n (.q 0) (some (i 0)) (.q 0)) (some (i 0)) (.n (.q 0) (some (i 0)) .e)) (some (i 0)) (.n (.n (.q 0) (some (i 0)) .e) (some (i 7)) (.n (.q 7) (some (i 7)) .e))) 12)) .e))) (.b (.b (.l (.f (.cells (.f (.nils)) 1))) (.f (.cells (.n (.q 1) (some (i 0)) (.q 2)) 3))) (.l (.l (.f (.cells (.f (.slc 1053 1 1 0 none)) 1)))))) (.l (.r (.l (.l (.f (.cells (.f (.nils)) 1))))))) (.b (.l (.l (.r (.l (.f (.cells (.f (.nils)) 1)))))) (.b (.r (.l (.l (.f (.cells (.f (.nils)) 1))))) (.r (.l (.l (.f (.cells (.f (.nils)) 1)))))))) (.b (.b (.l (.l (.r (.l (.f (.cells (.f (.nils)) 1)))))) (.b (.b (.r (.f (.map [(.agg [i 0,i 1,i 0],.ptr 439 0,0),(.agg [i 0,i 16,i 0],.ptr 447 0,1),(.agg [i 0,i 1,i 1],.ptr 545 0,2),(.agg [i 0,i 2,i 1],.ptr 552 0,3),(.agg [i 0,i 2,i 0],.ptr 554 0,4),(.agg [i 0,i 4,i 1],.ptr 556 0,5),(.agg [i 0,i 4,i 0],.ptr 558 0,6),(.agg [i 0,i 8,i 1],.ptr 560 0,7),(.agg [i 0,i 8,i 0],.ptr 562 0,8),(.agg [i 0,i 16,i 1],.ptr 564 0,9),(.agg [i 1,i 1,i 1],.ptr 570 0,10),(.agg [i 1,i 1,i 0],.ptr 572 0,11),(.agg [i 1,i 2,i 1],.ptr 574 0,12),(.agg [i 1,i 2,i 0],.ptr 576 0,13),(.agg [i 1,i 4,i 1],.ptr 578 0,14),(.agg [i 1,i 4,i 0],.ptr 580 0,15),(.agg [i 1,i 8,i 1],.ptr 582 0,16),(.agg [i 1,i 8,i 0],.ptr 584 0,17),(.agg [i 1,i 16,i 1],.ptr 586 0,18),(.agg [i 1,i 16,i 0],.ptr 588 0,19),(.agg [i 2,i 1,i 1],.ptr 591 0,20),(.agg [i 2,i 1,i 0],.ptr 593 0,21),(.agg [i 2,i 2,i 1],.ptr 595 0,22),(.agg [i 2,i 2,i 0],.ptr 597 0,23),(.agg [i 2,i 4,i 1],.ptr 599 0,24),(.agg [i 2,i 4,i 0],.ptr 601 0,25),(.agg [i 2,i 8,i 1],.ptr 603 0,26),(.agg [i 2,i 8,i 0],.ptr 605 0,27),(.agg [i 2,i 16,i 1],.ptr 607 0,28),(.agg [i 2,i 16,i 0],.ptr 609 0,29),(.agg [i 3,i 1,i 1],.ptr 612 0,30),(.agg [i 3,i 1,i 0],.ptr 614 0,31),(.agg [i 3,i 2,i 1],.ptr 616 0,32),(.agg [i 3,i 2,i 0],.ptr 618 0,33),(.agg [i 3,i 4,i 1],.ptr 620 0,34),(.agg [i 3,i 4,i 0],.ptr 622 0,35),(.agg [i 3,i 8,i 1],.ptr 624 0,36),(.agg [i 3,i 8,i 0],.ptr 626 0,37),(.agg [i 3,i 16,i 1],.ptr 628 0,38),(.agg [i 3,i 16,i 0],.ptr 630 0,39),(.agg [i 4,i 1,i 1],.ptr 633 0,40),(.agg [i 4,i 1,i 0],.ptr 635 0,41),(.agg [i 4,i 2,i 1],.ptr 637 0,42),(.agg [i 4,i 2,i 0],.ptr 639 0,43),(.agg [i 4,i 4,i 1],.ptr 641 0,44),(.agg [i 4,i 4,i 0],.ptr 643 0,45),(.agg [i 4,i 8,i 1],.ptr 645 0,46),(.agg [i 4,i 8,i 0],.ptr 647 0,47),(.agg [i 4,i 16,i 1],.ptr 649 0,48),(.agg [i 4,i 16,i 0],.ptr 651 0,49),(.agg [i 5,i 1,i 1],.ptr 654 0,50),(.agg [i 5,i 1,i 0],.ptr 656 0,51),(.agg [i 5,i 2,i 1],.ptr 658 0,52),(.agg [i 5,i 2,i 0],.ptr 660 0,53),(.agg [i 5,i 4,i 1],.ptr 662 0,54),(.agg [i 5,i 4,i 0],.ptr 664 0,55),(.agg [i 5,i 8,i 1],.ptr 666 0,56),(.agg [i 5,i 8,i 0],.ptr 668 0,57),(.agg [i 5,i 16,i 1],.ptr 670 0,58),(.agg [i 5,i 16,i 0],.ptr 672 0,59)] 60))) (.l (.l (.f (.cells (.f (.slc 1046 1 1 0 none)) 1))))) (.r (.l (.f (.cells (.n (.n (.q 7) (some (i 65535)) (.q 1)) (some (i 3)) (.n (.q 65535) (some (i 16)) .e)) 6)))))) (.b (.r (.r (.l (.f (.cells (.n (.n (.f (.nils)) (some (.slc 373 3 0 2 none)) (.f (.slc 383 3 0 1 none))) (some (.slc 368 3 0 1 none)) (.n (.f (.nils)) (some (.slc 378 3 0 1 none)) .e)) 6))))) (.b (.b (.l (.l (.l (.f (.cells (.q 1) 1))))) (.l (.l (.f (.cells (.f (.nils)) 1))))) (.r (.l (.l (.f (.cells (.f (.nils)) 1)))))))))) (some (.cells (.n (.q 2) (some (i 3)) (.q 2)) 3)) (.b (.b (.b (.b (.b (.r (.l (.l (.f (.cells (.f (.nils)) 1))))) (.l (.r (.n (.f (.cells (.f (.slc 1250 1 1 0 none)) 1)) (some (.cells (.q 2) 1)) .e)))) (.b (.l (.r (.l (.f (.cells (.f (.nils)) 1))))) (.b (.b (.l (.f (.cells (.f (.nils)) 1))) (.r (.r (.f (.cells (.n (.n (.q 8) (some (i 2)) .e) (some (i 1)) (.n (.q 16) (some (i 4)) .e)) 5))))) (.l (.n (.f (.cells (.f (.nils)) 1)) (some (.cells (.n (.q 65535) (some (i 7)) (.q 17)) 3)) (.r (.f (.cells (.q 5) 1)))))))) (.b (.b (.r (.l (.l (.f (.cells (.f (.nils)) 1))))) (.b (.l (.l (.f (.cells (.f (.nils)) 1)))) (.l (.l (.f (.cells (.f (.nils)) 1)))))) (.l (.b (.r (.n (.f (.cells (.f (.nils)) 1)) (some (.cells (.n (.n (.n (.q 0) (some (i 0)) (.q 0)) (some (i 0)) (.n (.q 0) (some (i 0)) .e)) (some (i 2)) (.n (.n (.q 0) (some (i 1)) .e) (some (i 1)) (.n (.q 1) (some (i 0)) .e))) 12)) .e)) (.r (.l (.l (.f (.cells (.q 1) 1))))))))) (.b (.b (.b (.r (.l (.l (.f (.cells (.f (.nils)) 1))))) (.r (.l (.l (.f (.cells (.f (.nils)) 1)))))) (.b (.l (.r (.n (.f (.cells (.f (.nils)) 1)) (some (.map [(i 0,.slc 417 1 0 3 none,0)] 1)) .e))) (.b (.l (.l (.f (.cells (.f (.nils)) 1)))) (.l (.l (.f (.cells (.f (.nils)) 1))))))) (.b (.b (.r (.l (.l (.f (.cells (.f (.nils)) 1))))) (.b (.l (.l (.f (.cells (.f (.nils)) 1)))) (.l (.l (.f (.cells (.f (.nils)) 1)))))) (.b (.l (.r (.l (.f (.cells (.f (.nils)) 1))))) (.l (.l (.l (.f (.cells (.f (.slc 862 1 1 0 none)) 1))))))))) (.b (.b (.b (.b (.b (.r (.f (.cells (.n (.q 2) (some (i 3)) (.q 2)) 3))) (.l (.l (.f (.cells (.f (.nils)) 1))))) (.r (.r (.l (.l (.f (.cells (.q 1) 1))))))) (.b (.l (.r (.l (.f (.cells (.f (.nils)) 1))))) (.b (.l (.l (.f (.cells (.f (.nils)) 1)))) (.l (.l (.f (.cells (.f (.nils)) 1))))))) (.b (.b (.r (.l (.l (.f (.cells (.f (.nils)) 1))))) (.b (.l (.l (.f (.cells (.f (.nils)) 1)))) (.l (.l (.f (.cells (.f (.nils)) 1)))))) (.b (.l (.r (.l (.f (.cells (.f (.nils)) 1))))) (.b (.l (.l (.f (.cells (.f (.nils)) 1)))) (.l (.f (.cells (.n (.q 65535) (some (i 7)) (.q 18)) 3))))))) (.b (.b (.b (.r (.l (.l (.f (.cells (.f (.nils)) 1))))) (.b (.l (.r (.l (.f (.cells (.n (.n (.n (.n (.q 1) (some (i 2)) .e) (some (i 1)) (.q 3)) (some (i 0)) (.n (.n (.q 4) (some (i 1)) .e) (some (i 1)) (.q 5))) (some (i 0)) (.n (.n (.n (.q 5) (some (i 2)) .e) (some (i 0)) (.q 0)) (some (i 0)) (.n (.q 2) (some (i 0)) (.q 3)))) 18))))) (.l (.l (.f (.cells (.f (.nils)) 1)))))) (.b (.b (.b (.l (.l (.f (.cells (.q 1) 1)))) (.n (.f (.cells (.f (.nils)) 1)) (some (.map [] 6)) .e)) (.r (.f (.cells (.n (.q 1) (some (i 0)) .e) 2)))) (.r (.l (.l (.f (.cells (.f (.nils)) 1))))))) (.b (.b (.l (.r (.l (.f (.cells (.f (.nils)) 1))))) (.b (.l (.l (.f (.cells (.f (.nils)) 1)))) (.l (.b (.f (.cells (.f (.nils)) 1)) (.r (.f (.cells (.f (.ptr 407 0)) 1))))))) (.b (.b (.r (.l (.f (.cells (.f (.nils)) 1)))) (.l (.r (.f (.cells (.q 1) 1))))) (.l (.l (.l (.f (.cells (.f (.nils)) 1))))))))))
def rCR:T V:=.n (.n (.n (.b (.n (.n (.n (.q 16) (some (.slc 385 4 0 3 (some 3))) .e) (some (.agg [i 3,i 2,i 2])) (.q 5)) (some (i 9)) (.n (.f (.map 404)) (some (.slc 385 4 0 3 (some 3))) (.q 1))) (.b (.n (.f (.ptr 407 0)) (some (.bool false)) (.f (.bool false))) (.n (.q 20) (some (i 3)) (.q 5)))) (some (i 20)) (.n (.n (.n (.n (.q 10) (some (i 2)) .e) (some (.bool false)) (.f (.fn (.func 97) [] [.ptr 1904 0,.ptr 1902 0,.ptr 1903 0]))) (some (i 5)) (.n (.q 2) (some (.agg [i 3,i 2,i 2,.slc 365 1 0 6 (some 6),.slc 385 4 0 3 (some 3),.map 404,.map 405,.map 406,.nils,.nils,.nils,i 0])) (.q 6))) (some (i 0)) (.n (.n (.q 0) (some (.bool false)) (.q 4)) (some (i 0)) (.n (.f (.slc 365 1 0 6 (some 6))) (some (.slc 408 2 0 6 (some 6))) (.q 16))))) (some (.slc 365 1 0 6 (some 6))) (.b (.n (.b (.n (.n (.q 5) (some (i 3)) .e) (some (i 0)) (.q 9)) (.n (.q 0) (some (.map 405)) (.f (.slc 365 1 0 6 (some 6))))) (some (i 0)) (.n (.n (.f (.map 404)) (some (i 20)) (.q 1)) (some (.slc 365 1 0 6 (some 6))) (.n (.f (.bool true)) (some (i 2)) (.f (.bool false))))) (.n (.n (.b (.f (.agg [i 0,i 0,i 7,i 0])) (.q 0)) (some (i 16)) (.n (.f (.slc 417 1 0 3 none)) (some (.ptr 407 0)) (.q 5))) (some (i 2)) (.b (.n (.f (.ptr 407 0)) (some (.agg [i 3,i 2,i 2])) (.q 1)) (.n (.q 6) (some (.ptr 407 8)) (.q 9)))))) (some (.agg [i 3,i 2,i 2])) (.n (.n (.n (.n (.n (.n (.f (.tup [])) (some (i 3)) .e) (some (.slc 385 4 0 3 (some 3))) (.f (.ptr 407 0))) (some (i 5)) (.n (.f (.ptr 415 0)) (some (.map 404)) (.q 6))) (some (.ptr 387 0)) (.n (.n (.f (.ptr 407 5)) (some (.bool false)) (.f (.ptr 1240 0))) (some (.agg [i 3,i 2,i 2])) (.n (.q 10) (some (.ptr 386 1)) (.q 5)))) (some (.ptr 386 0)) (.n (.b (.b (.f (.ptr 385 8)) (.f (.nils))) (.n (.f (.slc 416 1 0 1 (some 1))) (some (.ptr 407 0)) (.f (.bool false)))) (some (.ptr 407 0)) (.n (.b (.f (.ptr 407 0)) (.q 5)) (some (.bool false)) (.n (.q 6) (some (.ptr 407 0)) (.f (.ptr 407 0)))))) (some (.slc 385 4 0 3 (some 3))) (.b (.n (.n (.n (.n (.q 6) (some (.bool false)) .e) (some (i 0)) (.q 5)) (some (i 1)) (.n (.f (.slc 414 1 0 2 none)) (some (.map 406)) (.q 6))) (some (i 0)) (.n (.n (.f (.ptr 415 0)) (some (.bool false)) (.f (.ptr 407 0))) (some (i 0)) (.n (.q 9) (some (i 6)) (.f (.ptr 1968 4))))) (.n (.b (.n (.f (.ptr 407 0)) (some (i 20)) (.q 0)) (.n (.q 3) (some (.ptr 386 0)) (.f (.slc 1968 1 0 5 (some 5))))) (some (.ptr 415 0)) (.b (.n (.f (.ptr 407 5)) (some (.slc 365 1 0 6 (some 6))) (.f (.tup []))) (.n (.f (.bool false)) (some (.ptr 407 10)) (.q 5))))))
def rC:St:=⟨168,0,rCR,rCH,1979,[]⟩
def rDH:T O:=.n (.b (.b (.b (.b (.b (.b (.r (.n (.f (.cells (.f (.nils)) 1)) (some (.cells (.n (.q 65535) (some (i 7)) (.q 16)) 3)) .e)) (.r (.f (.cells (.f (.slc 470 1 2 0 none)) 1)))) (.b (.r (.f (.cells (.n (.n (.q 0) (some (i 0)) .e) (some (i 0)) (.q 7)) 4))) (.l (.l (.f (.cells (.f (.nils)) 1)))))) (.l (.r (.b (.l (.f (.cells (.f (.nils)) 1))) (.f (.cells (.n (.q 1) (some (i 0)) .e) 2)))))) (.b (.b (.l (.r (.l (.f (.cells (.f (.nils)) 1))))) (.r (.r (.f (.cells (.n (.n (.n (.q 0) (some (i 0)) .e) (some (i 0)) (.q 0)) (some (i 2)) (.n (.q 2) (some (i 1)) (.q 16))) 8))))) (.b (.b (.r (.f (.cells (.n (.n (.n (.f (.map 406)) (some (.slc 365 1 0 6 (some 6))) (.q 0)) (some (i 2)) (.n (.f (.slc 487 4 0 2 none)) (some (.map 404)) .e)) (some (i 3)) (.n (.n (.f (.slc 1318 3 0 6 none)) (some (.slc 385 4 0 3 (some 3))) .e) (some (i 2)) (.n (.f (.slc 408 2 0 6 (some 6))) (some (.map 405)) .e))) 12))) (.l (.l (.f (.cells (.f (.nils)) 1))))) (.l (.r (.f (.cells (.f (.slc 463 1 2 0 none)) 1))))))) (.b (.b (.l (.l (.b (.l (.r (.l (.f (.cells (.q 14) 1))))) (.n (.f (.cells (.f (.nils)) 1)) (some (.cells (.n (.n (.q 0) (some (.nils)) .e) (some (.nils)) (.f (.nils))) 4)) .e)))) (.l (.r (.l (.l (.f (.cells (.f (.nils)) 1))))))) (.b (.l (.l (.r (.l (.f (.cells (.f (.nils)) 1)))))) (.b (.r (.l (.l (.f (.cells (.f (.nils)) 1))))) (.r (.l (.l (.f (.cells (.f (.nils)) 1))))))))) (.b (.b (.b (.b (.l (.r (.n (.f (.cells (.f (.nils)) 1)) (some (.cells (.n (.n (.n (.q 0) (some (i 0)) (.q 0)) (some (i 0)) (.n (.q 0) (some (i 0)) .e)) (some (i 0)) (.n (.n (.q 0) (some (i 0)) .e) (some (i 7)) (.n (.q 7) (some (i 7)) .e))) 12)) .e))) (.b (.b (.l (.f (.cells (.f (.nils)) 1))) (.f (.cells (.n (.q 1) (some (i 0)) (.q 2)) 3))) (.l (.l (.f (.cells (.f (.slc 1053 1 1 0 none)) 1)))))) (.l (.r (.l (.l (.f (.cells (.f (.nils)) 1))))))) (.b (.l (.l (.r (.l (.f (.cells (.f (.nils)) 1)))))) (.b (.r (.l (.l (.f (.cells (.f (.nils)) 1))))) (.r (.l (.l (.f (.cells (.f (.nils)) 1)))))))) (.b (.b (.l (.l (.r (.l (.f (.cells (.f (.nils)) 1)))))) (.b (.b (.r (.f (.map [(.agg [i 0,i 1,i 0],.ptr 439 0,0),(.agg [i 0,i 16,i 0],.ptr 447 0,1),(.agg [i 0,i 1,i 1],.ptr 545 0,2),(.agg [i 0,i 2,i 1],.ptr 552 0,3),(.agg [i 0,i 2,i 0],.ptr 554 0,4),(.agg [i 0,i 4,i 1],.ptr 556 0,5),(.agg [i 0,i 4,i 0],.ptr 558 0,6),(.agg [i 0,i 8,i 1],.ptr 560 0,7),(.agg [i 0,i 8,i 0],.ptr 562 0,8),(.agg [i 0,i 16,i 1],.ptr 564 0,9),(.agg [i 1,i 1,i 1],.ptr 570 0,10),(.agg [i 1,i 1,i 0],.ptr 572 0,11),(.agg [i 1,i 2,i 1],.ptr 574 0,12),(.agg [i 1,i 2,i 0],.ptr 576 0,13),(.agg [i 1,i 4,i 1],.ptr 578 0,14),(.agg [i 1,i 4,i 0],.ptr 580 0,15),(.agg [i 1,i 8,i 1],.ptr 582 0,16),(.agg [i 1,i 8,i 0],.ptr 584 0,17),(.agg [i 1,i 16,i 1],.ptr 586 0,18),(.agg [i 1,i 16,i 0],.ptr 588 0,19),(.agg [i 2,i 1,i 1],.ptr 591 0,20),(.agg [i 2,i 1,i 0],.ptr 593 0,21),(.agg [i 2,i 2,i 1],.ptr 595 0,22),(.agg [i 2,i 2,i 0],.ptr 597 0,23),(.agg [i 2,i 4,i 1],.ptr 599 0,24),(.agg [i 2,i 4,i 0],.ptr 601 0,25),(.agg [i 2,i 8,i 1],.ptr 603 0,26),(.agg [i 2,i 8,i 0],.ptr 605 0,27),(.agg [i 2,i 16,i 1],.ptr 607 0,28),(.agg [i 2,i 16,i 0],.ptr 609 0,29),(.agg [i 3,i 1,i 1],.ptr 612 0,30),(.agg [i 3,i 1,i 0],.ptr 614 0,31),(.agg [i 3,i 2,i 1],.ptr 616 0,32),(.agg [i 3,i 2,i 0],.ptr 618 0,33),(.agg [i 3,i 4,i 1],.ptr 620 0,34),(.agg [i 3,i 4,i 0],.ptr 622 0,35),(.agg [i 3,i 8,i 1],.ptr 624 0,36),(.agg [i 3,i 8,i 0],.ptr 626 0,37),(.agg [i 3,i 16,i 1],.ptr 628 0,38),(.agg [i 3,i 16,i 0],.ptr 630 0,39),(.agg [i 4,i 1,i 1],.ptr 633 0,40),(.agg [i 4,i 1,i 0],.ptr 635 0,41),(.agg [i 4,i 2,i 1],.ptr 637 0,42),(.agg [i 4,i 2,i 0],.ptr 639 0,43),(.agg [i 4,i 4,i 1],.ptr 641 0,44),(.agg [i 4,i 4,i 0],.ptr 643 0,45),(.agg [i 4,i 8,i 1],.ptr 645 0,46),(.agg [i 4,i 8,i 0],.ptr 647 0,47),(.agg [i 4,i 16,i 1],.ptr 649 0,48),(.agg [i 4,i 16,i 0],.ptr 651 0,49),(.agg [i 5,i 1,i 1],.ptr 654 0,50),(.agg [i 5,i 1,i 0],.ptr 656 0,51),(.agg [i 5,i 2,i 1],.ptr 658 0,52),(.agg [i 5,i 2,i 0],.ptr 660 0,53),(.agg [i 5,i 4,i 1],.ptr 662 0,54),(.agg [i 5,i 4,i 0],.ptr 664 0,55),(.agg [i 5,i 8,i 1],.ptr 666 0,56),(.agg [i 5,i 8,i 0],.ptr 668 0,57),(.agg [i 5,i 16,i 1],.ptr 670 0,58),(.agg [i 5,i 16,i 0],.ptr 672 0,59)] 60))) (.l (.l (.f (.cells (.f (.slc 1046 1 1 0 none)) 1))))) (.r (.l (.f (.cells (.n (.n (.q 7) (some (i 65535)) (.q 1)) (some (i 3)) (.n (.q 65535) (some (i 16)) .e)) 6)))))) (.b (.r (.r (.l (.f (.cells (.n (.n (.f (.nils)) (some (.slc 373 3 0 2 none)) (.f (.slc 383 3 0 1 none))) (some (.slc 368 3 0 1 none)) (.n (.f (.nils)) (some (.slc 378 3 0 1 none)) .e)) 6))))) (.b (.b (.l (.l (.l (.f (.cells (.q 1) 1))))) (.l (.l (.f (.cells (.f (.nils)) 1))))) (.r (.l (.l (.f (.cells (.f (.nils)) 1)))))))))) (some (.cells (.n (.q 2) (some (i 3)) (.q 2)) 3)) (.b (.b (.b (.b (.b (.r (.l (.l (.f (.cells (.f (.nils)) 1))))) (.l (.r (.n (.f (.cells (.f (.slc 1250 1 1 0 none)) 1)) (some (.cells (.q 2) 1)) .e)))) (.b (.l (.r (.l (.f (.cells (.f (.nils)) 1))))) (.b (.l (.l (.f (.cells (.f (.nils)) 1)))) (.l (.n (.f (.cells (.f (.nils)) 1)) (some (.cells (.n (.q 65535) (some (i 7)) (.q 17)) 3)) .e))))) (.b (.b (.r (.l (.l (.f (.cells (.f (.nils)) 1))))) (.b (.l (.l (.f (.cells (.f (.nils)) 1)))) (.l (.l (.f (.cells (.f (.nils)) 1)))))) (.l (.b (.r (.n (.f (.cells (.f (.nils)) 1)) (some (.cells (.n (.n (.n (.q 0) (some (i 0)) (.q 0)) (some (i 0)) (.n (.q 0) (some (i 0)) .e)) (some (i 2)) (.n (.n (.q 0) (some (i 1)) .e) (some (i 1)) (.n (.q 1) (some (i 0)) .e))) 12)) .e)) (.r (.l (.l (.f (.cells (.q 1) 1))))))))) (.b (.b (.b (.b (.l (.l (.r (.l (.f (.cells (.q 5) 1)))))) (.l (.l (.n .e (some (.cells (.f (.nils)) 1)) (.l (.f (.cells (.n (.n (.q 8) (some (i 2)) .e) (some (i 1)) (.n (.q 16) (some (i 4)) .e)) 5))))))) (.r (.l (.l (.f (.cells (.f (.nils)) 1)))))) (.b (.l (.r (.n (.f (.cells (.f (.nils)) 1)) (some (.map [(i 0,.slc 417 1 0 3 none,0)] 1)) .e))) (.b (.l (.l (.f (.cells (.f (.nils)) 1)))) (.l (.l (.f (.cells (.f (.nils)) 1))))))) (.b (.b (.r (.l (.l (.f (.cells (.f (.nils)) 1))))) (.b (.l (.l (.f (.cells (.f (.nils)) 1)))) (.l (.l (.f (.cells (.f (.nils)) 1)))))) (.b (.l (.r (.l (.f (.cells (.f (.nils)) 1))))) (.l (.l (.l (.f (.cells (.f (.slc 862 1 1 0 none)) 1))))))))) (.b (.b (.b (.b (.b (.b (.l (.r (.l (.f (.cells (.f (.ptr 407 0)) 1))))) (.f (.cells (.n (.q 2) (some (i 3)) (.q 2)) 3))) (.l (.l (.f (.cells (.f (.nils)) 1))))) (.r (.r (.l (.l (.f (.cells (.q 1) 1))))))) (.b (.l (.r (.l (.f (.cells (.f (.nils)) 1))))) (.b (.l (.l (.f (.cells (.f (.nils)) 1)))) (.l (.l (.f (.cells (.f (.nils)) 1))))))) (.b (.b (.r (.l (.l (.f (.cells (.f (.nils)) 1))))) (.b (.l (.l (.f (.cells (.f (.nils)) 1)))) (.l (.l (.f (.cells (.f (.nils)) 1)))))) (.b (.l (.r (.l (.f (.cells (.f (.nils)) 1))))) (.b (.l (.l (.f (.cells (.f (.nils)) 1)))) (.l (.f (.cells (.n (.q 65535) (some (i 7)) (.q 18)) 3))))))) (.b (.b (.b (.r (.l (.l (.f (.cells (.f (.nils)) 1))))) (.b (.l (.r (.l (.f (.cells (.n (.n (.n (.n (.q 1) (some (i 2)) .e) (some (i 1)) (.q 3)) (some (i 0)) (.n (.n (.q 4) (some (i 1)) .e) (some (i 1)) (.q 5))) (some (i 0)) (.n (.n (.n (.q 5) (some (i 2)) .e) (some (i 0)) (.q 0)) (some (i 0)) (.n (.q 2) (some (i 0)) (.q 3)))) 18))))) (.l (.l (.f (.cells (.f (.nils)) 1)))))) (.b (.b (.b (.l (.l (.f (.cells (.q 1) 1)))) (.n (.f (.cells (.f (.nils)) 1)) (some (.map [] 6)) .e)) (.r (.f (.cells (.n (.q 1) (some (i 0)) .e) 2)))) (.r (.l (.l (.f (.cells (.f (.nils)) 1))))))) (.b (.b (.l (.r (.l (.f (.cells (.f (.nils)) 1))))) (.b (.l (.l (.f (.cells (.f (.nils)) 1)))) (.l (.l (.f (.cells (.f (.nils)) 1)))))) (.b (.b (.r (.l (.f (.cells (.f (.nils)) 1)))) (.l (.r (.f (.cells (.q 1) 1))))) (.l (.l (.l (.f (.cells (.f (.nils)) 1))))))))))
def rDR:T V:=.n (.n (.n (.b (.n (.n (.n (.q 16) (some (.slc 385 4 0 3 (some 3))) .e) (some (.agg [i 3,i 2,i 2])) (.q 5)) (some (i 14)) (.n (.f (.map 404)) (some (.slc 385 4 0 3 (some 3))) (.q 1))) (.b (.n (.f (.ptr 407 0)) (some (.bool false)) (.f (.bool false))) (.n (.q 20) (some (i 3)) (.q 5)))) (some (i 20)) (.n (.n (.n (.n (.q 15) (some (i 2)) .e) (some (.bool false)) (.f (.fn (.func 97) [] [.ptr 2564 0,.ptr 2562 0,.ptr 2563 0]))) (some (i 5)) (.n (.q 2) (some (.agg [i 3,i 2,i 2,.slc 365 1 0 6 (some 6),.slc 385 4 0 3 (some 3),.map 404,.map 405,.map 406,.nils,.nils,.nils,i 0])) (.q 6))) (some (i 0)) (.n (.n (.q 0) (some (.bool false)) (.q 4)) (some (i 0)) (.n (.f (.slc 365 1 0 6 (some 6))) (some (.slc 408 2 0 6 (some 6))) (.q 16))))) (some (.slc 365 1 0 6 (some 6))) (.b (.n (.b (.n (.n (.q 5) (some (i 3)) .e) (some (i 0)) (.q 14)) (.n (.q 0) (some (.map 405)) (.f (.slc 365 1 0 6 (some 6))))) (some (i 0)) (.n (.n (.f (.map 404)) (some (i 20)) (.q 1)) (some (.slc 365 1 0 6 (some 6))) (.n (.f (.bool true)) (some (i 2)) (.f (.bool false))))) (.n (.n (.b (.f (.agg [i 0,i 0,i 7,i 0])) (.q 0)) (some (i 16)) (.n (.f (.slc 417 1 0 3 none)) (some (.ptr 407 0)) (.q 5))) (some (i 2)) (.b (.n (.f (.ptr 407 0)) (some (.agg [i 3,i 2,i 2])) (.q 1)) (.n (.q 6) (some (.ptr 407 8)) (.q 14)))))) (some (.agg [i 3,i 2,i 2])) (.n (.n (.n (.n (.n (.n (.f (.tup [])) (some (i 3)) .e) (some (.slc 385 4 0 3 (some 3))) (.f (.ptr 407 0))) (some (i 5)) (.n (.f (.ptr 415 0)) (some (.map 404)) (.q 6))) (some (.ptr 387 0)) (.n (.n (.f (.ptr 407 5)) (some (.bool false)) (.f (.ptr 1240 0))) (some (.agg [i 3,i 2,i 2])) (.n (.q 15) (some (.ptr 386 1)) (.q 5)))) (some (.ptr 386 0)) (.n (.b (.b (.f (.ptr 385 8)) (.f (.nils))) (.n (.f (.slc 416 1 0 1 (some 1))) (some (.ptr 407 0)) (.f (.bool false)))) (some (.ptr 407 0)) (.n (.b (.f (.ptr 407 0)) (.q 5)) (some (.bool false)) (.n (.q 6) (some (.ptr 407 0)) (.f (.ptr 407 0)))))) (some (.slc 385 4 0 3 (some 3))) (.b (.n (.n (.n (.n (.q 6) (some (.bool false)) .e) (some (i 0)) (.q 5)) (some (i 1)) (.n (.f (.slc 414 1 0 2 none)) (some (.map 406)) (.q 6))) (some (i 0)) (.n (.n (.f (.ptr 415 0)) (some (.bool false)) (.f (.ptr 407 0))) (some (i 0)) (.n (.q 14) (some (i 6)) (.f (.ptr 2628 4))))) (.n (.b (.n (.f (.ptr 407 0)) (some (i 20)) (.q 0)) (.n (.q 3) (some (.ptr 386 0)) (.f (.slc 2628 1 0 5 (some 5))))) (some (.ptr 415 0)) (.b (.n (.f (.ptr 407 5)) (some (.slc 365 1 0 6 (some 6))) (.f (.tup []))) (.n (.f (.bool false)) (some (.ptr 407 10)) (.q 5))))))
def rD:St:=⟨168,0,rDR,rDH,2639,[]⟩
def rEH:T O:=.n (.b (.b (.b (.b (.b (.b (.r (.n (.f (.cells (.f (.nils)) 1)) (some (.cells (.n (.q 65535) (some (i 7)) (.q 16)) 3)) .e)) (.r (.f (.cells (.f (.slc 470 1 2 0 none)) 1)))) (.b (.r (.f (.cells (.n (.n (.q 0) (some (i 0)) .e) (some (i 0)) (.q 7)) 4))) (.l (.l (.f (.cells (.f (.nils)) 1)))))) (.l (.r (.b (.l (.f (.cells (.f (.nils)) 1))) (.f (.cells (.n (.q 1) (some (i 0)) .e) 2)))))) (.b (.b (.l (.r (.l (.f (.cells (.f (.nils)) 1))))) (.r (.r (.f (.cells (.n (.n (.n (.q 0) (some (i 0)) .e) (some (i 0)) (.q 0)) (some (i 2)) (.n (.q 2) (some (i 1)) (.q 16))) 8))))) (.b (.b (.r (.n (.l (.r (.f (.cells (.q 19) 1)))) (some (.cells (.n (.n (.n (.f (.map 406)) (some (.slc 365 1 0 6 (some 6))) (.q 0)) (some (i 2)) (.n (.f (.slc 487 4 0 2 none)) (some (.map 404)) .e)) (some (i 3)) (.n (.n (.f (.slc 1318 3 0 6 none)) (some (.slc 385 4 0 3 (some 3))) .e) (some (i 2)) (.n (.f (.slc 408 2 0 6 (some 6))) (some (.map 405)) .e))) 12)) .e)) (.l (.l (.f (.cells (.f (.nils)) 1))))) (.l (.r (.f (.cells (.f (.slc 463 1 2 0 none)) 1))))))) (.b (.b (.l (.l (.r (.n (.f (.cells (.f (.nils)) 1)) (some (.cells (.n (.n (.q 0) (some (.nils)) .e) (some (.nils)) (.f (.nils))) 4)) .e)))) (.l (.r (.l (.l (.f (.cells (.f (.nils)) 1))))))) (.b (.l (.l (.r (.l (.f (.cells (.f (.nils)) 1)))))) (.b (.r (.l (.l (.f (.cells (.f (.nils)) 1))))) (.r (.l (.l (.f (.cells (.f (.nils)) 1))))))))) (.b (.b (.b (.b (.l (.r (.n (.f (.cells (.f (.nils)) 1)) (some (.cells (.n (.n (.n (.q 0) (some (i 0)) (.q 0)) (some (i 0)) (.n (.q 0) (some (i 0)) .e)) (some (i 0)) (.n (.n (.q 0) (some (i 0)) .e) (some (i 7)) (.n (.q 7) (some (i 7)) .e))) 12)) .e))) (.b (.b (.l (.f (.cells (.f (.nils)) 1))) (.f (.cells (.n (.q 1) (some (i 0)) (.q 2)) 3))) (.l (.l (.f (.cells (.f (.slc 1053 1 1 0 none)) 1)))))) (.l (.r (.l (.l (.f (.cells (.f (.nils)) 1))))))) (.b (.l (.l (.r (.l (.f (.cells (.f (.nils)) 1)))))) (.b (.r (.l (.l (.f (.cells (.f (.nils)) 1))))) (.r (.l (.l (.f (.cells (.f (.nils)) 1)))))))) (.b (.b (.l (.l (.r (.l (.f (.cells (.f (.nils)) 1)))))) (.b (.b (.r (.f (.map [(.agg [i 0,i 1,i 0],.ptr 439 0,0),(.agg [i 0,i 16,i 0],.ptr 447 0,1),(.agg [i 0,i 1,i 1],.ptr 545 0,2),(.agg [i 0,i 2,i 1],.ptr 552 0,3),(.agg [i 0,i 2,i 0],.ptr 554 0,4),(.agg [i 0,i 4,i 1],.ptr 556 0,5),(.agg [i 0,i 4,i 0],.ptr 558 0,6),(.agg [i 0,i 8,i 1],.ptr 560 0,7),(.agg [i 0,i 8,i 0],.ptr 562 0,8),(.agg [i 0,i 16,i 1],.ptr 564 0,9),(.agg [i 1,i 1,i 1],.ptr 570 0,10),(.agg [i 1,i 1,i 0],.ptr 572 0,11),(.agg [i 1,i 2,i 1],.ptr 574 0,12),(.agg [i 1,i 2,i 0],.ptr 576 0,13),(.agg [i 1,i 4,i 1],.ptr 578 0,14),(.agg [i 1,i 4,i 0],.ptr 580 0,15),(.agg [i 1,i 8,i 1],.ptr 582 0,16),(.agg [i 1,i 8,i 0],.ptr 584 0,17),(.agg [i 1,i 16,i 1],.ptr 586 0,18),(.agg [i 1,i 16,i 0],.ptr 588 0,19),(.agg [i 2,i 1,i 1],.ptr 591 0,20),(.agg [i 2,i 1,i 0],.ptr 593 0,21),(.agg [i 2,i 2,i 1],.ptr 595 0,22),(.agg [i 2,i 2,i 0],.ptr 597 0,23),(.agg [i 2,i 4,i 1],.ptr 599 0,24),(.agg [i 2,i 4,i 0],.ptr 601 0,25),(.agg [i 2,i 8,i 1],.ptr 603 0,26),(.agg [i 2,i 8,i 0],.ptr 605 0,27),(.agg [i 2,i 16,i 1],.ptr 607 0,28),(.agg [i 2,i 16,i 0],.ptr 609 0,29),(.agg [i 3,i 1,i 1],.ptr 612 0,30),(.agg [i 3,i 1,i 0],.ptr 614 0,31),(.agg [i 3,i 2,i 1],.ptr 616 0,32),(.agg [i 3,i 2,i 0],.ptr 618 0,33),(.agg [i 3,i 4,i 1],.ptr 620 0,34),(.agg [i 3,i 4,i 0],.ptr 622 0,35),(.agg [i 3,i 8,i 1],.ptr 624 0,36),(.agg [i 3,i 8,i 0],.ptr 626 0,37),(.agg [i 3,i 16,i 1],.ptr 628 0,38),(.agg [i 3,i 16,i 0],.ptr 630 0,39),(.agg [i 4,i 1,i 1],.ptr 633 0,40),(.agg [i 4,i 1,i 0],.ptr 635 0,41),(.agg [i 4,i 2,i 1],.ptr 637 0,42),(.agg [i 4,i 2,i 0],.ptr 639 0,43),(.agg [i 4,i 4,i 1],.ptr 641 0,44),(.agg [i 4,i 4,i 0],.ptr 643 0,45),(.agg [i 4,i 8,i 1],.ptr 645 0,46),(.agg [i 4,i 8,i 0],.ptr 647 0,47),(.agg [i 4,i 16,i 1],.ptr 649 0,48),(.agg [i 4,i 16,i 0],.ptr 651 0,49),(.agg [i 5,i 1,i 1],.ptr 654 0,50),(.agg [i 5,i 1,i 0],.ptr 656 0,51),(.agg [i 5,i 2,i 1],.ptr 658 0,52),(.agg [i 5,i 2,i 0],.ptr 660 0,53),(.agg [i 5,i 4,i 1],.ptr 662 0,54),(.agg [i 5,i 4,i 0],.ptr 664 0,55),(.agg [i 5,i 8,i 1],.ptr 666 0,56),(.agg [i 5,i 8,i 0],.ptr 668 0,57),(.agg [i 5,i 16,i 1],.ptr 670 0,58),(.agg [i 5,i 16,i 0],.ptr 672 0,59)] 60))) (.l (.l (.f (.cells (.f (.slc 1046 1 1 0 none)) 1))))) (.r (.l (.f (.cells (.n (.n (.q 7) (some (i 65535)) (.q 1)) (some (i 3)) (.n (.q 65535) (some (i 16)) .e)) 6)))))) (.b (.r (.r (.l (.f (.cells (.n (.n (.f (.nils)) (some (.slc 373 3 0 2 none)) (.f (.slc 383 3 0 1 none))) (some (.slc 368 3 0 1 none)) (.n (.f (.nils)) (some (.slc 378 3 0 1 none)) .e)) 6))))) (.b (.b (.l (.l (.l (.f (.cells (.q 1) 1))))) (.l (.l (.f (.cells (.f (.nils)) 1))))) (.r (.l (.l (.f (.cells (.f (.nils)) 1)))))))))) (some (.cells (.n (.q 2) (some (i 3)) (.q 2)) 3)) (.b (.b (.b (.b (.b (.r (.l (.l (.f (.cells (.f (.nils)) 1))))) (.l (.r (.n (.f (.cells (.f (.slc 1250 1 1 0 none)) 1)) (some (.cells (.q 2) 1)) .e)))) (.b (.l (.r (.l (.f (.cells (.f (.nils)) 1))))) (.b (.l (.l (.f (.cells (.f (.nils)) 1)))) (.l (.n (.f (.cells (.f (.nils)) 1)) (some (.cells (.n (.q 65535) (some (i 7)) (.q 17)) 3)) .e))))) (.b (.b (.r (.l (.l (.f (.cells (.f (.nils)) 1))))) (.b (.l (.l (.f (.cells (.f (.nils)) 1)))) (.l (.l (.f (.cells (.f (.nils)) 1)))))) (.l (.b (.r (.n (.n (.r (.f (.cells (.q 5) 1))) (some (.cells (.f (.nils)) 1)) .e) (some (.cells (.n (.n (.n (.q 0) (some (i 0)) (.q 0)) (some (i 0)) (.n (.q 0) (some (i 0)) .e)) (some (i 2)) (.n (.n (.q 0) (some (i 1)) .e) (some (i 1)) (.n (.q 1) (some (i 0)) .e))) 12)) .e)) (.r (.l (.l (.n .e (some (.cells (.q 1) 1)) (.f (.cells (.n (.n (.q 8) (some (i 2)) .e) (some (i 1)) (.n (.q 16) (some (i 4)) .e)) 5)))))))))) (.b (.b (.b (.r (.l (.l (.f (.cells (.f (.nils)) 1))))) (.r (.l (.l (.f (.cells (.f (.nils)) 1)))))) (.b (.l (.r (.n (.f (.cells (.f (.nils)) 1)) (some (.map [(i 0,.slc 417 1 0 3 none,0)] 1)) .e))) (.b (.l (.l (.f (.cells (.f (.nils)) 1)))) (.l (.l (.f (.cells (.f (.nils)) 1))))))) (.b (.b (.r (.l (.l (.f (.cells (.f (.nils)) 1))))) (.b (.l (.l (.f (.cells (.f (.nils)) 1)))) (.l (.l (.f (.cells (.f (.nils)) 1)))))) (.b (.l (.r (.l (.f (.cells (.f (.nils)) 1))))) (.l (.l (.l (.f (.cells (.f (.slc 862 1 1 0 none)) 1))))))))) (.b (.b (.b (.b (.b (.r (.f (.cells (.n (.q 2) (some (i 3)) (.q 2)) 3))) (.l (.l (.f (.cells (.f (.nils)) 1))))) (.r (.r (.l (.l (.f (.cells (.q 1) 1))))))) (.b (.l (.r (.l (.f (.cells (.f (.nils)) 1))))) (.b (.l (.l (.f (.cells (.f (.nils)) 1)))) (.l (.l (.f (.cells (.f (.nils)) 1))))))) (.b (.b (.r (.l (.l (.f (.cells (.f (.nils)) 1))))) (.b (.l (.l (.f (.cells (.f (.nils)) 1)))) (.l (.l (.f (.cells (.f (.nils)) 1)))))) (.b (.l (.r (.l (.f (.cells (.f (.nils)) 1))))) (.b (.l (.l (.f (.cells (.f (.nils)) 1)))) (.l (.f (.cells (.n (.q 65535) (some (i 7)) (.q 18)) 3))))))) (.b (.b (.b (.r (.l (.l (.f (.cells (.f (.nils)) 1))))) (.b (.l (.r (.l (.f (.cells (.n (.n (.n (.n (.q 1) (some (i 2)) .e) (some (i 1)) (.q 3)) (some (i 0)) (.n (.n (.q 4) (some (i 1)) .e) (some (i 1)) (.q 5))) (some (i 0)) (.n (.n (.n (.q 5) (some (i 2)) .e) (some (i 0)) (.q 0)) (some (i 0)) (.n (.q 2) (some (i 0)) (.q 3)))) 18))))) (.l (.l (.f (.cells (.f (.nils)) 1)))))) (.b (.b (.b (.l (.l (.f (.cells (.q 1) 1)))) (.n (.n (.r (.f (.cells (.f (.ptr 407 0)) 1))) (some (.cells (.f (.nils)) 1)) .e) (some (.map [] 6)) .e)) (.r (.f (.cells (.n (.q 1) (some (i 0)) .e) 2)))) (.r (.l (.l (.f (.cells (.f (.nils)) 1))))))) (.b (.b (.l (.r (.l (.f (.cells (.f (.nils)) 1))))) (.b (.l (.l (.f (.cells (.f (.nils)) 1)))) (.l (.l (.f (.cells (.f (.nils)) 1)))))) (.b (.b (.r (.l (.f (.cells (.f (.nils)) 1)))) (.l (.r (.f (.cells (.q 1) 1))))) (.l (.l (.l (.f (.cells (.f (.nils)) 1))))))))))
def rER:T V:=.n (.n (.n (.b (.n (.n (.n (.q 16) (some (.slc 385 4 0 3 (some 3))) .e) (some (.agg [i 3,i 2,i 2])) (.q 5)) (some (i 19)) (.n (.f (.map 404)) (some (.slc 385 4 0 3 (some 3))) (.q 1))) (.b (.n (.f (.ptr 407 0)) (some (.bool false)) (.f (.bool false))) (.n (.q 20) (some (i 3)) (.q 5)))) (some (i 20)) (.n (.n (.n (.n (.q 20) (some (i 2)) .e) (some (.bool false)) (.f (.fn (.func 97) [] [.ptr 3224 0,.ptr 3222 0,.ptr 3223 0]))) (some (i 5)) (.n (.q 2) (some (.agg [i 3,i 2,i 2,.slc 365 1 0 6 (some 6),.slc 385 4 0 3 (some 3),.map 404,.map 405,.map 406,.nils,.nils,.nils,i 0])) (.q 6))) (some (i 0)) (.n (.n (.q 0) (some (.bool false)) (.q 4)) (some (i 0)) (.n (.f (.slc 365 1 0 6 (some 6))) (some (.slc 408 2 0 6 (some 6))) (.q 16))))) (some (.slc 365 1 0 6 (some 6))) (.b (.n (.b (.n (.n (.q 5) (some (i 3)) .e) (some (i 0)) (.q 19)) (.n (.q 0) (some (.map 405)) (.f (.slc 365 1 0 6 (some 6))))) (some (i 0)) (.n (.n (.f (.map 404)) (some (i 20)) (.q 1)) (some (.slc 365 1 0 6 (some 6))) (.n (.f (.bool true)) (some (i 2)) (.f (.bool false))))) (.n (.n (.b (.f (.agg [i 0,i 0,i 7,i 0])) (.q 0)) (some (i 16)) (.n (.f (.slc 417 1 0 3 none)) (some (.ptr 407 0)) (.q 5))) (some (i 2)) (.b (.n (.f (.ptr 407 0)) (some (.agg [i 3,i 2,i 2])) (.q 1)) (.n (.q 6) (some (.ptr 407 8)) (.q 19)))))) (some (.agg [i 3,i 2,i 2])) (.n (.n (.n (.n (.n (.n (.f (.tup [])) (some (i 3)) .e) (some (.slc 385 4 0 3 (some 3))) (.f (.ptr 407 0))) (some (i 5)) (.n (.f (.ptr 415 0)) (some (.map 404)) (.q 6))) (some (.ptr 387 0)) (.n (.n (.f (.ptr 407 5)) (some (.bool false)) (.f (.ptr 1240 0))) (some (.agg [i 3,i 2,i 2])) (.n (.q 20) (some (.ptr 386 1)) (.q 5)))) (some (.ptr 386 0)) (.n (.b (.b (.f (.ptr 385 8)) (.f (.nils))) (.n (.f (.slc 416 1 0 1 (some 1))) (some (.ptr 407 0)) (.f (.bool false)))) (some (.ptr 407 0)) (.n (.b (.f (.ptr 407 0)) (.q 5)) (some (.bool false)) (.n (.q 6) (some (.ptr 407 0)) (.f (.ptr 407 0)))))) (some (.slc 385 4 0 3 (some 3))) (.b (.n (.n (.n (.n (.q 6) (some (.bool false)) .e) (some (i 0)) (.q 5)) (some (i 1)) (.n (.f (.slc 414 1 0 2 none)) (some (.map 406)) (.q 6))) (some (i 0)) (.n (.n (.f (.ptr 415 0)) (some (.bool false)) (.f (.ptr 407 0))) (some (i 0)) (.n (.q 19) (some (i 6)) (.f (.ptr 3288 4))))) (.n (.b (.n (.f (.ptr 407 0)) (some (i 20)) (.q 0)) (.n (.q 3) (some (.ptr 386 0)) (.f (.slc 3288 1 0 5 (some 5))))) (some (.ptr 415 0)) (.b (.n (.f (.ptr 407 5)) (some (.slc 365 1 0 6 (some 6))) (.f (.tup []))) (.n (.f (.bool false)) (some (.ptr 407 10)) (.q 5))))))
def rE:St:=⟨168,0,rER,rEH,3299,[]⟩
def rFH:T O:=.n (.b (.b (.b (.b (.b (.b (.r (.n (.f (.cells (.f (.nils)) 1)) (some (.cells (.n (.q 65535) (some (i 7)) (.q 16)) 3)) .e)) (.r (.f (.cells (.f (.slc 470 1 2 0 none)) 1)))) (.b (.r (.f (.cells (.n (.n (.q 0) (some (i 0)) .e) (some (i 0)) (.q 7)) 4))) (.l (.l (.f (.cells (.f (.nils)) 1)))))) (.l (.r (.b (.l (.f (.cells (.f (.nils)) 1))) (.f (.cells (.n (.q 1) (some (i 0)) .e) 2)))))) (.b (.b (.l (.r (.l (.f (.cells (.f (.nils)) 1))))) (.r (.r (.f (.cells (.n (.n (.n (.q 0) (some (i 0)) .e) (some (i 0)) (.q 0)) (some (i 2)) (.n (.q 2) (some (i 1)) (.q 16))) 8))))) (.b (.b (.r (.n (.l (.r (.f (.cells (.q 19) 1)))) (some (.cells (.n (.n (.n (.f (.map 406)) (some (.slc 365 1 0 6 (some 6))) (.q 0)) (some (i 2)) (.n (.f (.slc 487 4 0 2 none)) (some (.map 404)) .e)) (some (i 3)) (.n (.n (.f (.slc 1318 3 0 6 none)) (some (.slc 385 4 0 3 (some 3))) .e) (some (i 2)) (.n (.f (.slc 408 2 0 6 (some 6))) (some (.map 405)) .e))) 12)) .e)) (.l (.l (.f (.cells (.f (.nils)) 1))))) (.l (.r (.f (.cells (.f (.slc 463 1 2 0 none)) 1))))))) (.b (.b (.l (.l (.r (.n (.f (.cells (.f (.nils)) 1)) (some (.cells (.n (.n (.q 0) (some (.nils)) .e) (some (.nils)) (.f (.nils))) 4)) .e)))) (.l (.r (.l (.l (.f (.cells (.f (.nils)) 1))))))) (.b (.l (.l (.r (.l (.f (.cells (.f (.nils)) 1)))))) (.b (.r (.l (.l (.f (.cells (.f (.nils)) 1))))) (.r (.l (.l (.f (.cells (.f (.nils)) 1))))))))) (.b (.b (.b (.b (.l (.r (.n (.f (.cells (.f (.nils)) 1)) (some (.cells (.n (.n (.n (.q 0) (some (i 0)) (.q 0)) (some (i 0)) (.n (.q 0) (some (i 0)) .e)) (some (i 0)) (.n (.n (.q 0) (some (i 0)) .e) (some (i 7)) (.n (.q 7) (some (i 7)) .e))) 12)) .e))) (.b (.b (.l (.f (.cells (.f (.nils)) 1))) (.f (.cells (.n (.q 1) (some (i 0)) (.q 2)) 3))) (.l (.l (.f (.cells (.f (.slc 1053 1 1 0 none)) 1)))))) (.l (.r (.l (.l (.f (.cells (.f (.nils)) 1))))))) (.b (.l (.l (.r (.l (.f (.cells (.f (.nils)) 1)))))) (.b (.r (.l (.l (.f (.cells (.f (.nils)) 1))))) (.r (.l (.l (.f (.cells (.f (.nils)) 1)))))))) (.b (.b (.l (.l (.r (.l (.f (.cells (.f (.nils)) 1)))))) (.b (.b (.r (.f (.map [(.agg [i 0,i 1,i 0],.ptr 439 0,0),(.agg [i 0,i 16,i 0],.ptr 447 0,1),(.agg [i 0,i 1,i 1],.ptr 545 0,2),(.agg [i 0,i 2,i 1],.ptr 552 0,3),(.agg [i 0,i 2,i 0],.ptr 554 0,4),(.agg [i 0,i 4,i 1],.ptr 556 0,5),(.agg [i 0,i 4,i 0],.ptr 558 0,6),(.agg [i 0,i 8,i 1],.ptr 560 0,7),(.agg [i 0,i 8,i 0],.ptr 562 0,8),(.agg [i 0,i 16,i 1],.ptr 564 0,9),(.agg [i 1,i 1,i 1],.ptr 570 0,10),(.agg [i 1,i 1,i 0],.ptr 572 0,11),(.agg [i 1,i 2,i 1],.ptr 574 0,12),(.agg [i 1,i 2,i 0],.ptr 576 0,13),(.agg [i 1,i 4,i 1],.ptr 578 0,14),(.agg [i 1,i 4,i 0],.ptr 580 0,15),(.agg [i 1,i 8,i 1],.ptr 582 0,16),(.agg [i 1,i 8,i 0],.ptr 584 0,17),(.agg [i 1,i 16,i 1],.ptr 586 0,18),(.agg [i 1,i 16,i 0],.ptr 588 0,19),(.agg [i 2,i 1,i 1],.ptr 591 0,20),(.agg [i 2,i 1,i 0],.ptr 593 0,21),(.agg [i 2,i 2,i 1],.ptr 595 0,22),(.agg [i 2,i 2,i 0],.ptr 597 0,23),(.agg [i 2,i 4,i 1],.ptr 599 0,24),(.agg [i 2,i 4,i 0],.ptr 601 0,25),(.agg [i 2,i 8,i 1],.ptr 603 0,26),(.agg [i 2,i 8,i 0],.ptr 605 0,27),(.agg [i 2,i 16,i 1],.ptr 607 0,28),(.agg [i 2,i 16,i 0],.ptr 609 0,29),(.agg [i 3,i 1,i 1],.ptr 612 0,30),(.agg [i 3,i 1,i 0],.ptr 614 0,31),(.agg [i 3,i 2,i 1],.ptr 616 0,32),(.agg [i 3,i 2,i 0],.ptr 618 0,33),(.agg [i 3,i 4,i 1],.ptr 620 0,34),(.agg [i 3,i 4,i 0],.ptr 622 0,35),(.agg [i 3,i 8,i 1],.ptr 624 0,36),(.agg [i 3,i 8,i 0],.ptr 626 0,37),(.agg [i 3,i 16,i 1],.ptr 628 0,38),(.agg [i 3,i 16,i 0],.ptr 630 0,39),(.agg [i 4,i 1,i 1],.ptr 633 0,40),(.agg [i 4,i 1,i 0],.ptr 635 0,41),(.agg [i 4,i 2,i 1],.ptr 637 0,42),(.agg [i 4,i 2,i 0],.ptr 639 0,43),(.agg [i 4,i 4,i 1],.ptr 641 0,44),(.agg [i 4,i 4,i 0],.ptr 643 0,45),(.agg [i 4,i 8,i 1],.ptr 645 0,46),(.agg [i 4,i 8,i 0],.ptr 647 0,47),(.agg [i 4,i 16,i 1],.ptr 649 0,48),(.agg [i 4,i 16,i 0],.ptr 651 0,49),(.agg [i 5,i 1,i 1],.ptr 654 0,50),(.agg [i 5,i 1,i 0],.ptr 656 0,51),(.agg [i 5,i 2,i 1],.ptr 658 0,52),(.agg [i 5,i 2,i 0],.ptr 660 0,53),(.agg [i 5,i 4,i 1],.ptr 662 0,54),(.agg [i 5,i 4,i 0],.ptr 664 0,55),(.agg [i 5,i 8,i 1],.ptr 666 0,56),(.agg [i 5,i 8,i 0],.ptr 668 0,57),(.agg [i 5,i 16,i 1],.ptr 670 0,58),(.agg [i 5,i 16,i 0],.ptr 672 0,59)] 60))) (.l (.l (.f (.cells (.f (.slc 1046 1 1 0 none)) 1))))) (.r (.l (.f (.cells (.n (.n (.q 7) (some (i 65535)) (.q 1)) (some (i 3)) (.n (.q 65535) (some (i 16)) .e)) 6)))))) (.b (.r (.r (.l (.f (.cells (.n (.n (.f (.nils)) (some (.slc 373 3 0 2 none)) (.f (.slc 383 3 0 1 none))) (some (.slc 368 3 0 1 none)) (.n (.f (.nils)) (some (.slc 378 3 0 1 none)) .e)) 6))))) (.b (.b (.l (.l (.l (.f (.cells (.q 1) 1))))) (.l (.l (.f (.cells (.f (.nils)) 1))))) (.r (.l (.l (.f (.cells (.f (.nils)) 1)))))))))) (some (.cells (.n (.q 2) (some (i 3)) (.q 2)) 3)) (.b (.b (.b (.b (.b (.r (.l (.l (.f (.cells (.f (.nils)) 1))))) (.l (.r (.n (.f (.cells (.f (.slc 1250 1 1 0 none)) 1)) (some (.cells (.q 2) 1)) .e)))) (.b (.l (.r (.l (.f (.cells (.f (.nils)) 1))))) (.b (.l (.l (.f (.cells (.f (.nils)) 1)))) (.l (.n (.f (.cells (.f (.nils)) 1)) (some (.cells (.n (.q 65535) (some (i 7)) (.q 17)) 3)) .e))))) (.b (.b (.r (.l (.l (.f (.cells (.f (.nils)) 1))))) (.b (.l (.l (.f (.cells (.f (.nils)) 1)))) (.l (.l (.f (.cells (.f (.nils)) 1)))))) (.l (.b (.r (.n (.n (.r (.f (.cells (.q 5) 1))) (some (.cells (.f (.nils)) 1)) .e) (some (.cells (.n (.n (.n (.q 0) (some (i 0)) (.q 0)) (some (i 0)) (.n (.q 0) (some (i 0)) .e)) (some (i 2)) (.n (.n (.q 0) (some (i 1)) .e) (some (i 1)) (.n (.q 1) (some (i 0)) .e))) 12)) .e)) (.r (.l (.l (.n .e (some (.cells (.q 1) 1)) (.f (.cells (.n (.n (.q 8) (some (i 2)) .e) (some (i 1)) (.n (.q 16) (some (i 4)) .e)) 5)))))))))) (.b (.b (.b (.r (.l (.l (.f (.cells (.f (.nils)) 1))))) (.r (.l (.l (.f (.cells (.f (.nils)) 1)))))) (.b (.l (.r (.n (.f (.cells (.f (.nils)) 1)) (some (.map [(i 0,.slc 417 1 0 3 none,0)] 1)) .e))) (.b (.l (.l (.f (.cells (.f (.nils)) 1)))) (.l (.l (.f (.cells (.f (.nils)) 1))))))) (.b (.b (.r (.l (.l (.f (.cells (.f (.nils)) 1))))) (.b (.l (.l (.f (.cells (.f (.nils)) 1)))) (.l (.l (.f (.cells (.f (.nils)) 1)))))) (.b (.l (.r (.l (.f (.cells (.f (.nils)) 1))))) (.l (.l (.l (.f (.cells (.f (.slc 862 1 1 0 none)) 1))))))))) (.b (.b (.b (.b (.b (.r (.f (.cells (.n (.q 2) (some (i 3)) (.q 2)) 3))) (.l (.l (.f (.cells (.f (.nils)) 1))))) (.r (.r (.l (.l (.f (.cells (.q 1) 1))))))) (.b (.l (.r (.l (.f (.cells (.f (.nils)) 1))))) (.b (.l (.l (.f (.cells (.f (.nils)) 1)))) (.l (.l (.f (.cells (.f (.nils)) 1))))))) (.b (.b (.r (.l (.l (.f (.cells (.f (.nils)) 1))))) (.b (.l (.l (.f (.cells (.f (.nils)) 1)))) (.l (.l (.f (.cells (.f (.nils)) 1)))))) (.b (.l (.r (.l (.f (.cells (.f (.nils)) 1))))) (.b (.l (.l (.f (.cells (.f (.nils)) 1)))) (.l (.f (.cells (.n (.q 65535) (some (i 7)) (.q 18)) 3))))))) (.b (.b (.b (.r (.l (.l (.f (.cells (.f (.nils)) 1))))) (.b (.l (.r (.l (.f (.cells (.n (.n (.n (.n (.q 1) (some (i 2)) .e) (some (i 1)) (.q 3)) (some (i 0)) (.n (.n (.q 4) (some (i 1)) .e) (some (i 1)) (.q 5))) (some (i 0)) (.n (.n (.n (.q 5) (some (i 2)) .e) (some (i 0)) (.q 0)) (some (i 0)) (.n (.q 2) (some (i 0)) (.q 3)))) 18))))) (.l (.l (.f (.cells (.f (.nils)) 1)))))) (.b (.b (.b (.l (.l (.f (.cells (.q 1) 1)))) (.n (.n (.r (.f (.cells (.f (.ptr 407 0)) 1))) (some (.cells (.f (.nils)) 1)) .e) (some (.map [] 6)) .e)) (.r (.f (.cells (.n (.q 1) (some (i 0)) .e) 2)))) (.r (.l (.l (.f (.cells (.f (.nils)) 1))))))) (.b (.b (.l (.r (.l (.f (.cells (.f (.nils)) 1))))) (.b (.l (.l (.f (.cells (.f (.nils)) 1)))) (.l (.l (.f (.cells (.f (.nils)) 1)))))) (.b (.b (.r (.l (.f (.cells (.f (.nils)) 1)))) (.l (.r (.f (.cells (.q 1) 1))))) (.l (.l (.l (.f (.cells (.f (.nils)) 1))))))))))
def rFR:T V:=.n (.n (.n (.b (.n (.n (.n (.q 16) (some (.slc 385 4 0 3 (some 3))) .e) (some (.agg [i 3,i 2,i 2])) (.q 5)) (some (i 19)) (.n (.f (.map 404)) (some (.slc 385 4 0 3 (some 3))) (.q 1))) (.b (.n (.f (.ptr 407 0)) (some (.bool false)) (.f (.bool false))) (.n (.q 20) (some (i 3)) (.q 5)))) (some (i 20)) (.n (.n (.n (.n (.q 20) (some (i 2)) .e) (some (.bool false)) (.f (.fn (.func 97) [] [.ptr 3224 0,.ptr 3222 0,.ptr 3223 0]))) (some (i 5)) (.n (.q 2) (some (.agg [i 3,i 2,i 2,.slc 365 1 0 6 (some 6),.slc 385 4 0 3 (some 3),.map 404,.map 405,.map 406,.nils,.nils,.nils,i 0])) (.q 6))) (some (i 0)) (.n (.n (.q 0) (some (.bool false)) (.q 4)) (some (i 0)) (.n (.f (.slc 365 1 0 6 (some 6))) (some (.slc 408 2 0 6 (some 6))) (.q 16))))) (some (.slc 365 1 0 6 (some 6))) (.b (.n (.b (.n (.n (.q 5) (some (i 3)) .e) (some (i 0)) (.q 19)) (.n (.q 0) (some (.map 405)) (.f (.slc 365 1 0 6 (some 6))))) (some (i 0)) (.n (.n (.f (.map 404)) (some (i 20)) (.q 1)) (some (.slc 365 1 0 6 (some 6))) (.n (.f (.bool false)) (some (i 2)) (.f (.bool false))))) (.n (.n (.b (.f (.agg [i 0,i 0,i 7,i 0])) (.q 0)) (some (i 16)) (.n (.f (.slc 417 1 0 3 none)) (some (.ptr 407 0)) (.q 5))) (some (i 2)) (.b (.n (.f (.ptr 407 0)) (some (.agg [i 3,i 2,i 2])) (.q 1)) (.n (.q 6) (some (.ptr 407 8)) (.q 19)))))) (some (.agg [i 3,i 2,i 2])) (.n (.n (.n (.n (.n (.n (.f (.tup [])) (some (i 3)) .e) (some (.slc 385 4 0 3 (some 3))) (.f (.ptr 407 0))) (some (i 5)) (.n (.f (.ptr 415 0)) (some (.map 404)) (.q 6))) (some (.ptr 387 0)) (.n (.n (.f (.ptr 407 5)) (some (.bool false)) (.f (.ptr 1240 0))) (some (.agg [i 3,i 2,i 2])) (.n (.q 20) (some (.ptr 386 1)) (.q 5)))) (some (.ptr 386 0)) (.n (.b (.b (.f (.ptr 385 8)) (.f (.nils))) (.n (.f (.slc 416 1 0 1 (some 1))) (some (.ptr 407 0)) (.f (.bool false)))) (some (.ptr 407 0)) (.n (.b (.f (.ptr 407 0)) (.q 5)) (some (.bool false)) (.n (.q 6) (some (.ptr 407 0)) (.f (.ptr 407 0)))))) (some (.slc 385 4 0 3 (some 3))) (.b (.n (.n (.n (.n (.q 6) (some (.bool false)) .e) (some (i 0)) (.q 5)) (some (i 1)) (.n (.f (.slc 414 1 0 2 none)) (some (.map 406)) (.q 6))) (some (i 0)) (.n (.n (.f (.ptr 415 0)) (some (.bool false)) (.f (.ptr 407 0))) (some (i 0)) (.n (.q 19) (some (i 6)) (.f (.ptr 3288 4))))) (.n (.b (.n (.f (.ptr 407 0)) (some (i 20)) (.q 0)) (.n (.q 3) (some (.ptr 386 0)) (.f (.slc 3288 1 0 5 (some 5))))) (some (.ptr 415 0)) (.b (.n (.f (.ptr 407 5)) (some (.slc 365 1 0 6 (some 6))) (.f (.tup []))) (.n (.f (.bool false)) (some (.ptr 407 10)) (.q 5))))))
def rF:St:=⟨168,0,rFR,rFH,3299,[]⟩
def rZH:T O:=.n (.l (.b (.r (.l (.r (.r (.r (.f (.cells (.n (.n (.n (.q 0) (some (i 0)) .e) (some (i 0)) (.q 0)) (some (i 2)) (.n (.q 2) (some (i 1)) (.q 16))) 8))))))) (.l (.l (.l (.l (.r (.f (.cells (.n (.n (.q 0) (some (.slc 487 4 0 2 none)) .e) (some (.slc 1318 3 0 6 none)) (.f (.slc 408 2 0 6 (some 6)))) 4))))))))) (some (.cells (.n (.q 2) (some (i 3)) (.q 2)) 3)) (.b (.l (.r (.r (.l (.l (.r (.f (.cells (.n (.n (.n (.q 0) (some (i 0)) (.q 0)) (some (i 0)) (.n (.q 0) (some (i 0)) .e)) (some (i 2)) (.n (.n (.q 0) (some (i 1)) .e) (some (i 1)) (.n (.q 1) (some (i 0)) .e))) 12)))))))) (.r (.l (.l (.r (.l (.l (.r (.l (.f (.cells (.n (.n (.n (.n (.q 1) (some (i 2)) .e) (some (i 1)) (.q 3)) (some (i 0)) (.n (.n (.q 4) (some (i 1)) .e) (some (i 1)) (.q 5))) (some (i 0)) (.n (.n (.n (.q 5) (some (i 2)) .e) (some (i 0)) (.q 0)) (some (i 0)) (.n (.q 2) (some (i 0)) (.q 3)))) 18)))))))))))
def rZR:T V:=.b (.r (.l (.q 0))) (.l (.l (.f (.ptr 387 0))))
def rZ:St:=⟨168,0,rZR,rZH,3300,[]⟩
def rVR:T V:=.f (.tup [.agg [.slc 1318 3 0 6 none,.slc 487 4 0 2 none,.slc 408 2 0 6 (some 6),i 0],i 0])
end
end CX

namespace CX
open Go Go.Proofs
def ty1:Ty:=⟨false,1,8,[.nilf],(.n .e (some (.nilf)) .e),.other,false⟩
def ty2:Ty:=⟨false,1,8,[.int .i64 0],(.n .e (some (.int .i64 0)) .e),.int .i64,false⟩
def ty3:Ty:=⟨false,1,8,[.int .i64 0],(.n .e (some (.int .i64 0)) .e),.int .i64,false⟩
def ty4:Ty:=⟨false,1,1,[.bool false],(.n .e (some (.bool false)) .e),.bool,false⟩
def ty5:Ty:=⟨false,1,1,[.int .u8 0],(.n .e (some (.int .u8 0)) .e),.int .u8,false⟩
def ty6:Ty:=⟨false,1,1,[.int .u8 0],(.n .e (some (.int .u8 0)) .e),.int .u8,false⟩
def ty7:Ty:=⟨true,4,24,[.int .i64 0,.int .i64 0,.bool false,.int .u8 0],(.n (.n (.n .e (some (.int .u8 0)) .e) (some (.int .i64 0)) .e) (some (.int .i64 0)) (.n .e (some (.bool false)) .e)),.struct [(0,2),(1,3),(2,4),(3,6)],true⟩
def ty8:Ty:=⟨true,4,24,[.int .i64 0,.int .i64 0,.bool false,.int .u8 0],(.n (.n (.n .e (some (.int .u8 0)) .e) (some (.int .i64 0)) .e) (some (.int .i64 0)) (.n .e (some (.bool false)) .e)),.struct [(0,2),(1,3),(2,4),(3,6)],true⟩
def ty9:Ty:=⟨false,1,16,[.str []],(.n .e (some (.str [])) .e),.str,false⟩
def ty10:Ty:=⟨false,1,16,[.str []],(.n .e (some (.str [])) .e),.str,false⟩
def ty11:Ty:=⟨false,1,16,[.str []],(.n .e (some (.str [])) .e),.str,false⟩
def ty12:Ty:=⟨false,1,8,[.int .u64 0],(.n .e (some (.int .u64 0)) .e),.int .u64,false⟩
def ty13:Ty:=⟨true,2,24,[.str [],.int .u64 0],(.n (.n .e (some (.int .u64 0)) .e) (some (.str [])) .e),.struct [(0,9),(1,12)],false⟩
def ty14:Ty:=⟨true,2,24,[.str [],.int .u64 0],(.n (.n .e (some (.int .u64 0)) .e) (some (.str [])) .e),.struct [(0,9),(1,12)],false⟩
def ty15:Ty:=⟨false,1,8,[.nilp],(.n .e (some (.nilp)) .e),.ptr 217,false⟩
def ty16:Ty:=⟨false,1,8,[.nilp],(.n .e (some (.nilp)) .e),.ptr 220,false⟩
def ty17:Ty:=⟨false,1,8,[.nilp],(.n .e (some (.nilp)) .e),.ptr 228,false⟩
def ty18:Ty:=⟨true,1,8,[.nilp],(.n .e (some (.nilp)) .e),.struct [(0,17)],false⟩
def ty19:Ty:=⟨true,1,8,[.nilp],(.n .e (some (.nilp)) .e),.struct [(0,17)],false⟩
def ty20:Ty:=⟨false,1,16,[.nili],(.n .e (some (.nili)) .e),.iface,false⟩
def ty21:Ty:=⟨false,1,4,[.int .i32 0],(.n .e (some (.int .i32 0)) .e),.int .i32,false⟩
def ty22:Ty:=⟨true,3,24,[.int .i64 0,.int .i64 0,.int .i64 0],(.n (.n .e (some (.int .i64 0)) .e) (some (.int .i64 0)) (.n .e (some (.int .i64 0)) .e)),.struct [(0,3),(1,3),(2,3)],true⟩
def ty23:Ty:=⟨true,3,24,[.int .i64 0,.int .i64 0,.int .i64 0],(.n (.n .e (some (.int .i64 0)) .e) (some (.int .i64 0)) (.n .e (some (.int .i64 0)) .e)),.struct [(0,3),(1,3),(2,3)],true⟩
def ty24:Ty:=⟨false,1,24,[.nils],(.n .e (some (.nils)) .e),.slice 3,false⟩
def ty25:Ty:=⟨false,1,8,[.nilf],(.n .e (some (.nilf)) .e),.other,false⟩
def ty26:Ty:=⟨true,3,24,[.int .i64 0,.int .i64 0,.int .i64 0],(.n (.n .e (some (.int .i64 0)) .e) (some (.int .i64 0)) (.n .e (some (.int .i64 0)) .e)),.struct [(0,3),(1,3),(2,3)],true⟩
def ty27:Ty:=⟨false,1,8,[.nilf],(.n .e (some (.nilf)) .e),.other,false⟩
def ty28:Ty:=⟨false,1,8,[.int .i64 0],(.n .e (some (.int .i64 0)) .e),.int .i64,false⟩
def ty30:Ty:=⟨false,1,8,[.nilf],(.n .e (some (.nilf)) .e),.other,false⟩
def ty31:Ty:=⟨false,1,8,[.nilf],(.n .e (some (.nilf)) .e),.other,false⟩
def ty32:Ty:=⟨false,1,8,[.nilf],(.n .e (some (.nilf)) .e),.other,false⟩
def ty33:Ty:=⟨false,1,8,[.nilf],(.n .e (some (.nilf)) .e),.other,false⟩
def ty35:Ty:=⟨false,1,8,[.nilf],(.n .e (some (.nilf)) .e),.other,false⟩
def ty36:Ty:=⟨false,1,8,[.nilf],(.n .e (some (.nilf)) .e),.other,false⟩
def ty37:Ty:=⟨false,1,8,[.nilf],(.n .e (some (.nilf)) .e),.other,false⟩
def ty38:Ty:=⟨false,1,8,[.nilf],(.n .e (some (.nilf)) .e),.other,false⟩
def ty39:Ty:=⟨false,1,8,[.nilf],(.n .e (some (.nilf)) .e),.other,false⟩
def ty40:Ty:=⟨false,1,8,[.nilf],(.n .e (some (.nilf)) .e),.other,false⟩
def ty41:Ty:=⟨false,1,24,[.nils],(.n .e (some (.nils)) .e),.slice 43,false⟩
def ty42:Ty:=⟨true,3,40,[.int .i64 0,.int .i64 0,.nils],(.n (.n .e (some (.int .i64 0)) .e) (some (.int .i64 0)) (.n .e (some (.nils)) .e)),.struct [(0,3),(1,3),(2,24)],false⟩
def ty43:Ty:=⟨true,3,40,[.int .i64 0,.int .i64 0,.nils],(.n (.n .e (some (.int .i64 0)) .e) (some (.int .i64 0)) (.n .e (some (.nils)) .e)),.struct [(0,3),(1,3),(2,24)],false⟩
def ty44:Ty:=⟨false,1,24,[.nils],(.n .e (some (.nils)) .e),.slice 53,false⟩
def ty46:Ty:=⟨false,1,8,[.nilf],(.n .e (some (.nilf)) .e),.other,false⟩
def ty47:Ty:=⟨false,1,24,[.nils],(.n .e (some (.nils)) .e),.slice 107,false⟩
def ty48:Ty:=⟨false,1,8,[.nilf],(.n .e (some (.nilf)) .e),.other,false⟩
def ty49:Ty:=⟨false,1,24,[.nils],(.n .e (some (.nils)) .e),.slice 54,false⟩
def ty51:Ty:=⟨false,1,8,[.nilf],(.n .e (some (.nilf)) .e),.other,false⟩
def ty52:Ty:=⟨false,1,8,[.nilf],(.n .e (some (.nilf)) .e),.other,false⟩
def ty53:Ty:=⟨false,1,24,[.nils],(.n .e (some (.nils)) .e),.slice 121,false⟩
def ty54:Ty:=⟨false,1,24,[.nils],(.n .e (some (.nils)) .e),.slice 125,false⟩
def ty55:Ty:=⟨false,1,8,[.nilf],(.n .e (some (.nilf)) .e),.other,false⟩
def ty57:Ty:=⟨false,1,8,[.nilf],(.n .e (some (.nilf)) .e),.other,false⟩
def ty58:Ty:=⟨false,1,8,[.nilf],(.n .e (some (.nilf)) .e),.other,false⟩
def ty60:Ty:=⟨false,1,8,[.nilf],(.n .e (some (.nilf)) .e),.other,false⟩
def ty62:Ty:=⟨false,1,8,[.nilf],(.n .e (some (.nilf)) .e),.other,false⟩
def ty63:Ty:=⟨false,1,8,[.nilf],(.n .e (some (.nilf)) .e),.other,false⟩
def ty64:Ty:=⟨false,1,8,[.nilf],(.n .e (some (.nilf)) .e),.other,false⟩
def ty65:Ty:=⟨false,1,24,[.nils],(.n .e (some (.nils)) .e),.slice 68,false⟩
def ty66:Ty:=⟨false,1,24,[.nils],(.n .e (some (.nils)) .e),.slice 69,false⟩
def ty67:Ty:=⟨true,4,32,[.int .i64 0,.int .i64 0,.int .i64 0,.int .i64 0],(.n (.n (.n .e (some (.int .i64 0)) .e) (some (.int .i64 0)) .e) (some (.int .i64 0)) (.n .e (some (.int .i64 0)) .e)),.struct [(0,3),(1,3),(2,3),(3,3)],true⟩
def ty68:Ty:=⟨true,4,32,[.int .i64 0,.int .i64 0,.int .i64 0,.int .i64 0],(.n (.n (.n .e (some (.int .i64 0)) .e) (some (.int .i64 0)) .e) (some (.int .i64 0)) (.n .e (some (.int .i64 0)) .e)),.struct [(0,3),(1,3),(2,3),(3,3)],true⟩
def ty69:Ty:=⟨true,4,32,[.int .i64 0,.int .i64 0,.int .i64 0,.int .i64 0],(.n (.n (.n .e (some (.int .i64 0)) .e) (some (.int .i64 0)) .e) (some (.int .i64 0)) (.n .e (some (.int .i64 0)) .e)),.struct [(0,3),(1,3),(2,3),(3,3)],true⟩
def ty70:Ty:=⟨false,1,24,[.nils],(.n .e (some (.nils)) .e),.slice 105,false⟩
def ty71:Ty:=⟨false,1,24,[.nils],(.n .e (some (.nils)) .e),.slice 118,false⟩
def ty72:Ty:=⟨false,1,24,[.nils],(.n .e (some (.nils)) .e),.slice 109,false⟩
def ty73:Ty:=⟨true,4,80,[.nils,.nils,.nils,.int .i64 0],(.n (.n (.n .e (some (.int .i64 0)) .e) (some (.nils)) .e) (some (.nils)) (.n .e (some (.nils)) .e)),.struct [(0,70),(1,71),(2,72),(3,3)],false⟩
def ty74:Ty:=⟨true,4,80,[.nils,.nils,.nils,.int .i64 0],(.n (.n (.n .e (some (.int .i64 0)) .e) (some (.nils)) .e) (some (.nils)) (.n .e (some (.nils)) .e)),.struct [(0,70),(1,71),(2,72),(3,3)],false⟩
def ty76:Ty:=⟨false,1,8,[.nilf],(.n .e (some (.nilf)) .e),.other,false⟩
def ty77:Ty:=⟨false,1,8,[.nilf],(.n .e (some (.nilf)) .e),.other,false⟩
def ty78:Ty:=⟨false,1,24,[.nils],(.n .e (some (.nils)) .e),.slice 175,false⟩
def ty79:Ty:=⟨false,1,24,[.nils],(.n .e (some (.nils)) .e),.slice 176,false⟩
def ty80:Ty:=⟨true,4,80,[.nils,.nils,.nils,.int .i64 0],(.n (.n (.n .e (some (.int .i64 0)) .e) (some (.nils)) .e) (some (.nils)) (.n .e (some (.nils)) .e)),.struct [(0,78),(1,79),(2,72),(3,3)],false⟩
def ty81:Ty:=⟨true,4,80,[.nils,.nils,.nils,.int .i64 0],(.n (.n (.n .e (some (.int .i64 0)) .e) (some (.nils)) .e) (some (.nils)) (.n .e (some (.nils)) .e)),.struct [(0,78),(1,79),(2,72),(3,3)],false⟩
def ty83:Ty:=⟨false,1,8,[.nilf],(.n .e (some (.nilf)) .e),.other,false⟩
def ty84:Ty:=⟨false,1,8,[.nilf],(.n .e (some (.nilf)) .e),.other,false⟩
def ty85:Ty:=⟨false,1,8,[.nilf],(.n .e (some (.nilf)) .e),.other,false⟩
def ty86:Ty:=⟨false,1,8,[.nilf],(.n .e (some (.nilf)) .e),.other,false⟩
def ty87:Ty:=⟨false,1,8,[.nilf],(.n .e (some (.nilf)) .e),.other,false⟩
def ty88:Ty:=⟨false,1,8,[.nilf],(.n .e (some (.nilf)) .e),.other,false⟩
def ty89:Ty:=⟨false,1,8,[.nilf],(.n .e (some (.nilf)) .e),.other,false⟩
def ty90:Ty:=⟨false,1,8,[.nilf],(.n .e (some (.nilf)) .e),.other,false⟩
def ty91:Ty:=⟨false,1,24,[.nils],(.n .e (some (.nils)) .e),.slice 5,false⟩
def ty92:Ty:=⟨false,1,8,[.nilf],(.n .e (some (.nilf)) .e),.other,false⟩
def ty93:Ty:=⟨false,1,24,[.nils],(.n .e (some (.nils)) .e),.slice 4,false⟩
def ty94:Ty:=⟨false,1,8,[.nilf],(.n .e (some (.nilf)) .e),.other,false⟩
def ty95:Ty:=⟨false,1,8,[.nilf],(.n .e (some (.nilf)) .e),.other,false⟩
def ty96:Ty:=⟨false,1,8,[.nilf],(.n .e (some (.nilf)) .e),.other,false⟩
def ty97:Ty:=⟨false,1,24,[.nils],(.n .e (some (.nils)) .e),.slice 91,false⟩
def ty98:Ty:=⟨false,1,24,[.nils],(.n .e (some (.nils)) .e),.slice 116,false⟩
def ty99:Ty:=⟨false,1,8,[.nilf],(.n .e (some (.nilf)) .e),.other,false⟩
def ty101:Ty:=⟨false,1,8,[.nilf],(.n .e (some (.nilf)) .e),.other,false⟩
def ty102:Ty:=⟨false,1,8,[.nilm],(.n .e (some (.nilm)) .e),.map 109 3,false⟩
def ty103:Ty:=⟨false,1,8,[.nilm],(.n .e (some (.nilm)) .e),.map 110 109,false⟩
def ty104:Ty:=⟨true,3,24,[.int .i64 0,.int .i64 0,.int .i64 0],(.n (.n .e (some (.int .i64 0)) .e) (some (.int .i64 0)) (.n .e (some (.int .i64 0)) .e)),.struct [(0,3),(1,3),(2,3)],true⟩
def ty105:Ty:=⟨true,3,24,[.int .i64 0,.int .i64 0,.int .i64 0],(.n (.n .e (some (.int .i64 0)) .e) (some (.int .i64 0)) (.n .e (some (.int .i64 0)) .e)),.struct [(0,3),(1,3),(2,3)],true⟩
def ty106:Ty:=⟨false,1,8,[.nilf],(.n .e (some (.nilf)) .e),.other,false⟩
def ty107:Ty:=⟨true,3,40,[.int .i64 0,.int .i64 0,.nils],(.n (.n .e (some (.int .i64 0)) .e) (some (.int .i64 0)) (.n .e (some (.nils)) .e)),.struct [(0,3),(1,3),(2,24)],false⟩
def ty108:Ty:=⟨false,1,8,[.nilf],(.n .e (some (.nilf)) .e),.other,false⟩
def ty109:Ty:=⟨true,2,16,[.int .i64 0,.int .i64 0],(.n (.n .e (some (.int .i64 0)) .e) (some (.int .i64 0)) .e),.arr 2 3,true⟩
def ty110:Ty:=⟨true,3,24,[.int .i64 0,.int .i64 0,.int .i64 0],(.n (.n .e (some (.int .i64 0)) .e) (some (.int .i64 0)) (.n .e (some (.int .i64 0)) .e)),.arr 3 3,true⟩
def ty112:Ty:=⟨false,1,8,[.nilf],(.n .e (some (.nilf)) .e),.other,false⟩
def ty113:Ty:=⟨false,1,8,[.nilf],(.n .e (some (.nilf)) .e),.other,false⟩
def ty114:Ty:=⟨false,1,8,[.nilm],(.n .e (some (.nilm)) .e),.map 3 3,false⟩
def ty115:Ty:=⟨true,3,3,[.int .u8 0,.int .u8 0,.bool false],(.n (.n .e (some (.int .u8 0)) .e) (some (.int .u8 0)) (.n .e (some (.bool false)) .e)),.struct [(0,5),(1,5),(2,4)],true⟩
def ty116:Ty:=⟨true,3,3,[.int .u8 0,.int .u8 0,.bool false],(.n (.n .e (some (.int .u8 0)) .e) (some (.int .u8 0)) (.n .e (some (.bool false)) .e)),.struct [(0,5),(1,5),(2,4)],true⟩
def ty117:Ty:=⟨true,4,32,[.int .i64 0,.int .i64 0,.int .i64 0,.int .i64 0],(.n (.n (.n .e (some (.int .i64 0)) .e) (some (.int .i64 0)) .e) (some (.int .i64 0)) (.n .e (some (.int .i64 0)) .e)),.struct [(0,3),(1,3),(2,3),(3,3)],true⟩
def ty118:Ty:=⟨true,4,32,[.int .i64 0,.int .i64 0,.int .i64 0,.int .i64 0],(.n (.n (.n .e (some (.int .i64 0)) .e) (some (.int .i64 0)) .e) (some (.int .i64 0)) (.n .e (some (.int .i64 0)) .e)),.struct [(0,3),(1,3),(2,3),(3,3)],true⟩
def ty119:Ty:=⟨false,1,24,[.nils],(.n .e (some (.nils)) .e),.slice 122,false⟩
def ty120:Ty:=⟨true,3,24,[.int .i64 0,.int .i64 0,.int .i64 0],(.n (.n .e (some (.int .i64 0)) .e) (some (.int .i64 0)) (.n .e (some (.int .i64 0)) .e)),.struct [(0,3),(1,3),(2,3)],true⟩
def ty121:Ty:=⟨true,3,24,[.int .i64 0,.int .i64 0,.int .i64 0],(.n (.n .e (some (.int .i64 0)) .e) (some (.int .i64 0)) (.n .e (some (.int .i64 0)) .e)),.struct [(0,3),(1,3),(2,3)],true⟩
def ty122:Ty:=⟨false,1,2,[.int .u16 0],(.n .e (some (.int .u16 0)) .e),.int .u16,false⟩
def ty123:Ty:=⟨false,1,8,[.nilf],(.n .e (some (.nilf)) .e),.other,false⟩
def ty124:Ty:=⟨false,1,8,[.nilf],(.n .e (some (.nilf)) .e),.other,false⟩
def ty125:Ty:=⟨true,3,24,[.int .i64 0,.int .i64 0,.int .i64 0],(.n (.n .e (some (.int .i64 0)) .e) (some (.int .i64 0)) (.n .e (some (.int .i64 0)) .e)),.struct [(0,3),(1,3),(2,3)],true⟩
def ty126:Ty:=⟨false,1,8,[.nilf],(.n .e (some (.nilf)) .e),.other,false⟩
def ty127:Ty:=⟨true,2,16,[.int .i64 0,.int .i64 0],(.n (.n .e (some (.int .i64 0)) .e) (some (.int .i64 0)) .e),.struct [(0,3),(1,3)],true⟩
def ty128:Ty:=⟨true,2,16,[.int .i64 0,.int .i64 0],(.n (.n .e (some (.int .i64 0)) .e) (some (.int .i64 0)) .e),.struct [(0,3),(1,3)],true⟩
def ty129:Ty:=⟨false,1,8,[.nilf],(.n .e (some (.nilf)) .e),.other,false⟩
def ty130:Ty:=⟨false,1,8,[.nilf],(.n .e (some (.nilf)) .e),.other,false⟩
def ty131:Ty:=⟨false,1,8,[.nilf],(.n .e (some (.nilf)) .e),.other,false⟩
def ty132:Ty:=⟨false,1,8,[.nilf],(.n .e (some (.nilf)) .e),.other,false⟩
def ty133:Ty:=⟨false,1,8,[.nilf],(.n .e (some (.nilf)) .e),.other,false⟩
def ty134:Ty:=⟨false,1,8,[.nilf],(.n .e (some (.nilf)) .e),.other,false⟩
def ty135:Ty:=⟨false,1,8,[.nilf],(.n .e (some (.nilf)) .e),.other,false⟩
def ty136:Ty:=⟨false,1,8,[.nilf],(.n .e (some (.nilf)) .e),.other,false⟩
def ty137:Ty:=⟨false,1,8,[.nilm],(.n .e (some (.nilm)) .e),.map 3 24,false⟩
def ty138:Ty:=⟨false,1,8,[.nilf],(.n .e (some (.nilf)) .e),.other,false⟩
def ty139:Ty:=⟨false,1,8,[.nilf],(.n .e (some (.nilf)) .e),.other,false⟩
def ty140:Ty:=⟨false,1,8,[.nilf],(.n .e (some (.nilf)) .e),.other,false⟩
def ty141:Ty:=⟨false,1,8,[.nilf],(.n .e (some (.nilf)) .e),.other,false⟩
def ty142:Ty:=⟨false,1,8,[.nilf],(.n .e (some (.nilf)) .e),.other,false⟩
def ty143:Ty:=⟨false,1,8,[.nilf],(.n .e (some (.nilf)) .e),.other,false⟩
def ty144:Ty:=⟨false,1,8,[.nilf],(.n .e (some (.nilf)) .e),.other,false⟩
def ty145:Ty:=⟨false,1,8,[.nilf],(.n .e (some (.nilf)) .e),.other,false⟩
def ty147:Ty:=⟨false,1,8,[.nilf],(.n .e (some (.nilf)) .e),.other,false⟩
def ty148:Ty:=⟨false,1,8,[.nilf],(.n .e (some (.nilf)) .e),.other,false⟩
def ty150:Ty:=⟨false,1,8,[.nilf],(.n .e (some (.nilf)) .e),.other,false⟩
def ty151:Ty:=⟨false,1,8,[.nilf],(.n .e (some (.nilf)) .e),.other,false⟩
def ty152:Ty:=⟨false,1,8,[.nilf],(.n .e (some (.nilf)) .e),.other,false⟩
def ty153:Ty:=⟨false,1,8,[.nilp],(.n .e (some (.nilp)) .e),.ptr 157,false⟩
def ty154:Ty:=⟨false,1,8,[.nilm],(.n .e (some (.nilm)) .e),.map 161 162,false⟩
def ty155:Ty:=⟨false,1,8,[.nilm],(.n .e (some (.nilm)) .e),.map 161 3,false⟩
def ty156:Ty:=⟨true,12,176,[.int .i64 0,.int .i64 0,.int .i64 0,.nils,.nils,.nilm,.nilm,.nilm,.nils,.nils,.nils,.int .i64 0],(.n (.n (.n (.n .e (some (.nilm)) .e) (some (.nils)) (.n .e (some (.int .i64 0)) .e)) (some (.int .i64 0)) (.n (.n .e (some (.nils)) .e) (some (.nilm)) .e)) (some (.int .i64 0)) (.n (.n (.n .e (some (.nils)) .e) (some (.nils)) .e) (some (.int .i64 0)) (.n (.n .e (some (.nils)) .e) (some (.nilm)) .e))),.struct [(0,26),(3,44),(4,66),(5,137),(6,154),(7,155),(8,74)],false⟩
def ty157:Ty:=⟨true,12,176,[.int .i64 0,.int .i64 0,.int .i64 0,.nils,.nils,.nilm,.nilm,.nilm,.nils,.nils,.nils,.int .i64 0],(.n (.n (.n (.n .e (some (.nilm)) .e) (some (.nils)) (.n .e (some (.int .i64 0)) .e)) (some (.int .i64 0)) (.n (.n .e (some (.nils)) .e) (some (.nilm)) .e)) (some (.int .i64 0)) (.n (.n (.n .e (some (.nils)) .e) (some (.nils)) .e) (some (.int .i64 0)) (.n (.n .e (some (.nils)) .e) (some (.nilm)) .e))),.struct [(0,26),(3,44),(4,66),(5,137),(6,154),(7,155),(8,74)],false⟩
def ty158:Ty:=⟨false,1,8,[.nilf],(.n .e (some (.nilf)) .e),.other,false⟩
def ty159:Ty:=⟨false,1,8,[.nilf],(.n .e (some (.nilf)) .e),.other,false⟩
def ty160:Ty:=⟨true,3,24,[.int .i64 0,.int .i64 0,.int .i64 0],(.n (.n .e (some (.int .i64 0)) .e) (some (.int .i64 0)) (.n .e (some (.int .i64 0)) .e)),.struct [(0,3),(1,3),(2,3)],true⟩
def ty161:Ty:=⟨true,3,24,[.int .i64 0,.int .i64 0,.int .i64 0],(.n (.n .e (some (.int .i64 0)) .e) (some (.int .i64 0)) (.n .e (some (.int .i64 0)) .e)),.struct [(0,3),(1,3),(2,3)],true⟩
def ty162:Ty:=⟨false,1,8,[.nilp],(.n .e (some (.nilp)) .e),.ptr 164,false⟩
def ty163:Ty:=⟨true,1,24,[.nils],(.n .e (some (.nils)) .e),.struct [(0,24)],false⟩
def ty164:Ty:=⟨true,1,24,[.nils],(.n .e (some (.nils)) .e),.struct [(0,24)],false⟩
def ty165:Ty:=⟨false,1,8,[.nilf],(.n .e (some (.nilf)) .e),.other,false⟩
def ty166:Ty:=⟨false,1,8,[.nilp],(.n .e (some (.nilp)) .e),.ptr 170,false⟩
def ty167:Ty:=⟨false,1,24,[.nils],(.n .e (some (.nils)) .e),.slice 174,false⟩
def ty168:Ty:=⟨false,1,24,[.nils],(.n .e (some (.nils)) .e),.slice 171,false⟩
def ty169:Ty:=⟨true,11,200,[.int .i64 0,.int .i64 0,.int .i64 0,.nils,.nils,.nils,.nils,.nils,.nils,.nils,.int .i64 0],(.n (.n (.n (.n .e (some (.nils)) .e) (some (.nils)) .e) (some (.int .i64 0)) (.n (.n .e (some (.nils)) .e) (some (.nils)) .e)) (some (.int .i64 0)) (.n (.n (.n .e (some (.nils)) .e) (some (.nils)) .e) (some (.int .i64 0)) (.n (.n .e (some (.int .i64 0)) .e) (some (.nils)) .e))),.struct [(0,23),(3,49),(4,65),(5,167),(6,168),(7,81)],false⟩
def ty170:Ty:=⟨true,11,200,[.int .i64 0,.int .i64 0,.int .i64 0,.nils,.nils,.nils,.nils,.nils,.nils,.nils,.int .i64 0],(.n (.n (.n (.n .e (some (.nils)) .e) (some (.nils)) .e) (some (.int .i64 0)) (.n (.n .e (some (.nils)) .e) (some (.nils)) .e)) (some (.int .i64 0)) (.n (.n (.n .e (some (.nils)) .e) (some (.nils)) .e) (some (.int .i64 0)) (.n (.n .e (some (.int .i64 0)) .e) (some (.nils)) .e))),.struct [(0,23),(3,49),(4,65),(5,167),(6,168),(7,81)],false⟩
def ty171:Ty:=⟨true,4,32,[.int .i64 0,.int .i64 0,.int .i64 0,.int .i64 0],(.n (.n (.n .e (some (.int .i64 0)) .e) (some (.int .i64 0)) .e) (some (.int .i64 0)) (.n .e (some (.int .i64 0)) .e)),.arr 4 3,true⟩
def ty172:Ty:=⟨false,1,8,[.nilf],(.n .e (some (.nilf)) .e),.other,false⟩
def ty173:Ty:=⟨true,2,48,[.nils,.nils],(.n (.n .e (some (.nils)) .e) (some (.nils)) .e),.arr 2 24,false⟩
def ty174:Ty:=⟨true,10,240,[.nils,.nils,.nils,.nils,.nils,.nils,.nils,.nils,.nils,.nils],(.n (.n (.n (.n .e (some (.nils)) .e) (some (.nils)) .e) (some (.nils)) (.n (.n .e (some (.nils)) .e) (some (.nils)) .e)) (some (.nils)) (.n (.n (.n .e (some (.nils)) .e) (some (.nils)) .e) (some (.nils)) (.n .e (some (.nils)) .e))),.arr 5 173,false⟩
def ty175:Ty:=⟨true,3,24,[.int .i64 0,.int .i64 0,.int .i64 0],(.n (.n .e (some (.int .i64 0)) .e) (some (.int .i64 0)) (.n .e (some (.int .i64 0)) .e)),.struct [(0,3),(1,3),(2,3)],true⟩
def ty176:Ty:=⟨true,4,32,[.int .i64 0,.int .i64 0,.int .i64 0,.int .i64 0],(.n (.n (.n .e (some (.int .i64 0)) .e) (some (.int .i64 0)) .e) (some (.int .i64 0)) (.n .e (some (.int .i64 0)) .e)),.struct [(0,3),(1,3),(2,3),(3,3)],true⟩
def ty177:Ty:=⟨false,1,8,[.nilf],(.n .e (some (.nilf)) .e),.other,false⟩
def ty178:Ty:=⟨false,1,8,[.nilf],(.n .e (some (.nilf)) .e),.other,false⟩
def ty179:Ty:=⟨false,1,8,[.nilf],(.n .e (some (.nilf)) .e),.other,false⟩
def ty181:Ty:=⟨false,1,8,[.nilf],(.n .e (some (.nilf)) .e),.other,false⟩
def ty182:Ty:=⟨false,1,8,[.nilf],(.n .e (some (.nilf)) .e),.other,false⟩
def ty183:Ty:=⟨false,1,8,[.nilf],(.n .e (some (.nilf)) .e),.other,false⟩
def ty184:Ty:=⟨false,1,8,[.nilf],(.n .e (some (.nilf)) .e),.other,false⟩
def ty185:Ty:=⟨false,1,8,[.nilf],(.n .e (some (.nilf)) .e),.other,false⟩
def ty186:Ty:=⟨false,1,8,[.int .u64 0],(.n .e (some (.int .u64 0)) .e),.int .u64,false⟩
def ty187:Ty:=⟨false,1,8,[.nilf],(.n .e (some (.nilf)) .e),.other,false⟩
def ty189:Ty:=⟨false,1,8,[.nilf],(.n .e (some (.nilf)) .e),.other,false⟩
def ty190:Ty:=⟨false,1,8,[.nilf],(.n .e (some (.nilf)) .e),.other,false⟩
def ty191:Ty:=⟨false,1,8,[.nilf],(.n .e (some (.nilf)) .e),.other,false⟩
def ty192:Ty:=⟨false,1,8,[.nilf],(.n .e (some (.nilf)) .e),.other,false⟩
def ty193:Ty:=⟨false,1,8,[.nilp],(.n .e (some (.nilp)) .e),.ptr 3,false⟩
def ty194:Ty:=⟨false,1,8,[.nilf],(.n .e (some (.nilf)) .e),.other,false⟩
def ty195:Ty:=⟨false,1,8,[.nilf],(.n .e (some (.nilf)) .e),.other,false⟩
def ty196:Ty:=⟨false,1,8,[.int .i64 0],(.n .e (some (.int .i64 0)) .e),.int .i64,false⟩
def ty198:Ty:=⟨false,1,8,[.nilf],(.n .e (some (.nilf)) .e),.other,false⟩
def ty199:Ty:=⟨false,1,8,[.nilf],(.n .e (some (.nilf)) .e),.other,false⟩
def ty200:Ty:=⟨false,1,8,[.nilf],(.n .e (some (.nilf)) .e),.other,false⟩
def ty201:Ty:=⟨false,1,8,[.nilf],(.n .e (some (.nilf)) .e),.other,false⟩
def ty202:Ty:=⟨false,1,8,[.nilf],(.n .e (some (.nilf)) .e),.other,false⟩
def ty203:Ty:=⟨false,1,4,[.int .u32 0],(.n .e (some (.int .u32 0)) .e),.int .u32,false⟩
def ty204:Ty:=⟨false,1,8,[.nilf],(.n .e (some (.nilf)) .e),.other,false⟩
def ty205:Ty:=⟨false,1,8,[.int .u64 0],(.n .e (some (.int .u64 0)) .e),.int .u64,false⟩
def ty206:Ty:=⟨false,1,8,[.nilp],(.n .e (some (.nilp)) .e),.ptr 24,false⟩
def ty207:Ty:=⟨false,1,8,[.int .u64 0],(.n .e (some (.int .u64 0)) .e),.int .u64,false⟩
def ty208:Ty:=⟨false,1,8,[.nilf],(.n .e (some (.nilf)) .e),.other,false⟩
def ty209:Ty:=⟨false,1,8,[.nilf],(.n .e (some (.nilf)) .e),.other,false⟩
def ty210:Ty:=⟨false,1,8,[.nilf],(.n .e (some (.nilf)) .e),.other,false⟩
def ty211:Ty:=⟨false,1,8,[.nilf],(.n .e (some (.nilf)) .e),.other,false⟩
def ty212:Ty:=⟨false,1,8,[.nilp],(.n .e (some (.nilp)) .e),.ptr 207,false⟩
def ty214:Ty:=⟨false,1,8,[.nilf],(.n .e (some (.nilf)) .e),.other,false⟩
def ty215:Ty:=⟨false,1,8,[.nilf],(.n .e (some (.nilf)) .e),.other,false⟩
def ty216:Ty:=⟨true,4,40,[.nilp,.nilp,.nilp,.str []],(.n (.n (.n .e (some (.str [])) .e) (some (.nilp)) .e) (some (.nilp)) (.n .e (some (.nilp)) .e)),.struct [(0,17),(1,17),(2,17),(3,9)],false⟩
def ty217:Ty:=⟨true,4,40,[.nilp,.nilp,.nilp,.str []],(.n (.n (.n .e (some (.str [])) .e) (some (.nilp)) .e) (some (.nilp)) (.n .e (some (.nilp)) .e)),.struct [(0,17),(1,17),(2,17),(3,9)],false⟩
def ty218:Ty:=⟨true,0,0,[],.e,.arr 0 16,false⟩
def ty219:Ty:=⟨true,0,0,[],.e,.struct [(0,218)],false⟩
def ty220:Ty:=⟨true,0,0,[],.e,.struct [(0,218)],false⟩
def ty221:Ty:=⟨false,1,1,[.int .u8 0],(.n .e (some (.int .u8 0)) .e),.int .u8,false⟩
def ty222:Ty:=⟨false,1,1,[.int .u8 0],(.n .e (some (.int .u8 0)) .e),.int .u8,false⟩
def ty223:Ty:=⟨false,1,8,[.nilf],(.n .e (some (.nilf)) .e),.other,false⟩
def ty224:Ty:=⟨false,1,8,[.nilp],(.n .e (some (.nilp)) .e),.ptr 5,false⟩
def ty225:Ty:=⟨false,1,4,[.int .i32 0],(.n .e (some (.int .i32 0)) .e),.int .i32,false⟩
def ty226:Ty:=⟨false,1,4,[.int .i32 0],(.n .e (some (.int .i32 0)) .e),.int .i32,false⟩
def ty227:Ty:=⟨true,11,48,[.int .u64 0,.int .u64 0,.int .u32 0,.int .u8 0,.int .u8 0,.int .u8 0,.int .u8 0,.nilf,.nilp,.int .i32 0,.int .i32 0],(.n (.n (.n (.n .e (some (.nilf)) .e) (some (.int .u8 0)) .e) (some (.int .u64 0)) (.n (.n .e (some (.int .i32 0)) .e) (some (.int .u8 0)) .e)) (some (.int .u64 0)) (.n (.n (.n .e (some (.nilp)) .e) (some (.int .u8 0)) .e) (some (.int .u32 0)) (.n (.n .e (some (.int .i32 0)) .e) (some (.int .u8 0)) .e))),.struct [(0,12),(1,12),(2,203),(3,221),(4,5),(5,5),(6,222),(7,223),(8,224),(9,225),(10,226)],false⟩
def ty228:Ty:=⟨true,11,48,[.int .u64 0,.int .u64 0,.int .u32 0,.int .u8 0,.int .u8 0,.int .u8 0,.int .u8 0,.nilf,.nilp,.int .i32 0,.int .i32 0],(.n (.n (.n (.n .e (some (.nilf)) .e) (some (.int .u8 0)) .e) (some (.int .u64 0)) (.n (.n .e (some (.int .i32 0)) .e) (some (.int .u8 0)) .e)) (some (.int .u64 0)) (.n (.n (.n .e (some (.nilp)) .e) (some (.int .u8 0)) .e) (some (.int .u32 0)) (.n (.n .e (some (.int .i32 0)) .e) (some (.int .u8 0)) .e))),.struct [(0,12),(1,12),(2,203),(3,221),(4,5),(5,5),(6,222),(7,223),(8,224),(9,225),(10,226)],false⟩
def ty229:Ty:=⟨false,1,8,[.nilp],(.n .e (some (.nilp)) .e),.other,false⟩
def tyT:T Ty:=(.n (.n (.n (.n (.n (.n (.n (.n .e (some ty127) .e) (some ty63) (.n .e (some ty191) .e)) (some ty31) (.n (.n .e (some ty159) .e) (some ty95) (.n .e (some ty223) .e))) (some ty15) (.n (.n (.n .e (some ty143) .e) (some ty79) (.n .e (some ty207) .e)) (some ty47) (.n (.n .e (some ty175) .e) none .e))) (some ty7) (.n (.n (.n (.n .e (some ty135) .e) (some ty71) (.n .e (some ty199) .e)) (some ty39) (.n (.n .e (some ty167) .e) (some ty103) .e)) (some ty23) (.n (.n (.n .e (some ty151) .e) (some ty87) (.n .e (some ty215) .e)) (some ty55) (.n (.n .e (some ty183) .e) (some ty119) .e)))) (some ty3) (.n (.n (.n (.n (.n .e (some ty131) .e) (some ty67) (.n .e (some ty195) .e)) (some ty35) (.n (.n .e (some ty163) .e) (some ty99) (.n .e (some ty227) .e))) (some ty19) (.n (.n (.n .e (some ty147) .e) (some ty83) (.n .e (some ty211) .e)) (some ty51) (.n (.n .e (some ty179) .e) (some ty115) .e))) (some ty11) (.n (.n (.n (.n .e (some ty139) .e) none (.n .e (some ty203) .e)) (some ty43) (.n (.n .e (some ty171) .e) (some ty107) .e)) (some ty27) (.n (.n (.n .e (some ty155) .e) (some ty91) (.n .e (some ty219) .e)) none (.n (.n .e (some ty187) .e) (some ty123) .e))))) (some ty1) (.n (.n (.n (.n (.n (.n .e (some ty129) .e) (some ty65) (.n .e (some ty193) .e)) (some ty33) (.n (.n .e (some ty161) .e) (some ty97) (.n .e (some ty225) .e))) (some ty17) (.n (.n (.n .e (some ty145) .e) (some ty81) (.n .e (some ty209) .e)) (some ty49) (.n (.n .e (some ty177) .e) (some ty113) .e))) (some ty9) (.n (.n (.n (.n .e (some ty137) .e) (some ty73) (.n .e (some ty201) .e)) (some ty41) (.n (.n .e (some ty169) .e) (some ty105) .e)) (some ty25) (.n (.n (.n .e (some ty153) .e) (some ty89) (.n .e (some ty217) .e)) (some ty57) (.n (.n .e (some ty185) .e) (some ty121) .e)))) (some ty5) (.n (.n (.n (.n (.n .e (some ty133) .e) (some ty69) .e) (some ty37) (.n (.n .e (some ty165) .e) (some ty101) (.n .e (some ty229) .e))) (some ty21) (.n (.n .e (some ty85) .e) (some ty53) (.n (.n .e (some ty181) .e) (some ty117) .e))) (some ty13) (.n (.n (.n (.n .e (some ty141) .e) (some ty77) (.n .e (some ty205) .e)) none (.n (.n .e (some ty173) .e) (some ty109) .e)) none (.n (.n (.n .e (some ty157) .e) (some ty93) (.n .e (some ty221) .e)) none (.n (.n .e (some ty189) .e) (some ty125) .e)))))) none (.n (.n (.n (.n (.n (.n (.n .e (some ty128) .e) (some ty64) (.n .e (some ty192) .e)) (some ty32) (.n (.n .e (some ty160) .e) (some ty96) (.n .e (some ty224) .e))) (some ty16) (.n (.n (.n .e (some ty144) .e) (some ty80) (.n .e (some ty208) .e)) (some ty48) (.n (.n .e (some ty176) .e) (some ty112) .e))) (some ty8) (.n (.n (.n (.n .e (some ty136) .e) (some ty72) (.n .e (some ty200) .e)) (some ty40) (.n (.n .e (some ty168) .e) (some ty104) .e)) (some ty24) (.n (.n (.n .e (some ty152) .e) (some ty88) (.n .e (some ty216) .e)) none (.n (.n .e (some ty184) .e) (some ty120) .e)))) (some ty4) (.n (.n (.n (.n (.n .e (some ty132) .e) (some ty68) (.n .e (some ty196) .e)) (some ty36) (.n (.n .e (some ty164) .e) none (.n .e (some ty228) .e))) (some ty20) (.n (.n (.n .e (some ty148) .e) (some ty84) (.n .e (some ty212) .e)) (some ty52) (.n .e (some ty116) .e))) (some ty12) (.n (.n (.n (.n .e (some ty140) .e) (some ty76) (.n .e (some ty204) .e)) (some ty44) (.n (.n .e (some ty172) .e) (some ty108) .e)) (some ty28) (.n (.n (.n .e (some ty156) .e) (some ty92) (.n .e (some ty220) .e)) (some ty60) (.n .e (some ty124) .e))))) (some ty2) (.n (.n (.n (.n (.n (.n .e (some ty130) .e) (some ty66) (.n .e (some ty194) .e)) none (.n (.n .e (some ty162) .e) (some ty98) (.n .e (some ty226) .e))) (some ty18) (.n (.n .e none (.n .e (some ty210) .e)) none (.n (.n .e (some ty178) .e) (some ty114) .e))) (some ty10) (.n (.n (.n (.n .e (some ty138) .e) (some ty74) (.n .e (some ty202) .e)) (some ty42) (.n (.n .e (some ty170) .e) (some ty106) .e)) (some ty26) (.n (.n (.n .e (some ty154) .e) (some ty90) (.n .e (some ty218) .e)) (some ty58) (.n (.n .e (some ty186) .e) (some ty122) .e)))) (some ty6) (.n (.n (.n (.n (.n .e (some ty134) .e) (some ty70) (.n .e (some ty198) .e)) (some ty38) (.n (.n .e (some ty166) .e) (some ty102) .e)) (some ty22) (.n (.n (.n .e (some ty150) .e) (some ty86) (.n .e (some ty214) .e)) (some ty54) (.n (.n .e (some ty182) .e) (some ty118) .e))) (some ty14) (.n (.n (.n (.n .e (some ty142) .e) (some ty78) (.n .e (some ty206) .e)) (some ty46) (.n (.n .e (some ty174) .e) (some ty110) .e)) (some ty30) (.n (.n (.n .e (some ty158) .e) (some ty94) (.n .e (some ty222) .e)) (some ty62) (.n (.n .e (some ty190) .e) (some ty126) .e)))))))
def fnT:T Func:=(.n (.n (.n (.n (.n (.n (.n .e (some Try.f63) .e) (some Try.f31) (.n .e (some Try.f95) .e)) (some Try.f15) (.n (.n .e (some Try.f79) .e) (some Try.f47) (.n .e (some Try.f111) .e))) (some Try.f7) (.n (.n (.n .e (some Try.f71) .e) (some Try.f39) (.n .e (some Try.f103) .e)) (some Try.f23) (.n (.n .e (some Try.f87) .e) (some Try.f55) (.n .e (some Try.f119) .e)))) (some Try.f3) (.n (.n (.n (.n .e (some Try.f67) .e) (some Try.f35) (.n .e (some Try.f99) .e)) (some Try.f19) (.n (.n .e (some Try.f83) .e) (some Try.f51) (.n .e (some Try.f115) .e))) (some Try.f11) (.n (.n (.n .e (some Try.f75) .e) (some Try.f43) (.n .e (some Try.f107) .e)) (some Try.f27) (.n (.n .e (some Try.f91) .e) (some Try.f59) .e)))) none (.n (.n (.n (.n (.n .e (some Try.f65) .e) (some Try.f33) (.n .e (some Try.f97) .e)) (some Try.f17) (.n (.n .e (some Try.f81) .e) (some Try.f49) (.n .e (some Try.f113) .e))) (some Try.f9) (.n (.n (.n .e (some Try.f73) .e) (some Try.f41) (.n .e (some Try.f105) .e)) (some Try.f25) (.n (.n .e (some Try.f89) .e) (some Try.f57) (.n .e (some Try.f121) .e)))) (some Try.f5) (.n (.n (.n (.n .e (some Try.f69) .e) (some Try.f37) (.n .e (some Try.f101) .e)) (some Try.f21) (.n (.n .e (some Try.f85) .e) (some Try.f53) (.n .e (some Try.f117) .e))) (some Try.f13) (.n (.n (.n .e (some Try.f77) .e) (some Try.f45) (.n .e (some Try.f109) .e)) (some Try.f29) (.n (.n .e (some Try.f93) .e) (some Try.f61) .e))))) none (.n (.n (.n (.n (.n (.n .e (some Try.f64) .e) (some Try.f32) (.n .e (some Try.f96) .e)) (some Try.f16) (.n (.n .e (some Try.f80) .e) (some Try.f48) (.n .e (some Try.f112) .e))) (some Try.f8) (.n (.n (.n .e (some Try.f72) .e) (some Try.f40) (.n .e (some Try.f104) .e)) (some Try.f24) (.n (.n .e (some Try.f88) .e) (some Try.f56) (.n .e (some Try.f120) .e)))) (some Try.f4) (.n (.n (.n (.n .e (some Try.f68) .e) (some Try.f36) (.n .e (some Try.f100) .e)) (some Try.f20) (.n (.n .e (some Try.f84) .e) (some Try.f52) (.n .e (some Try.f116) .e))) (some Try.f12) (.n (.n (.n .e (some Try.f76) .e) (some Try.f44) (.n .e (some Try.f108) .e)) (some Try.f28) (.n (.n .e (some Try.f92) .e) (some Try.f60) .e)))) (some Try.f2) (.n (.n (.n (.n (.n .e (some Try.f66) .e) (some Try.f34) (.n .e (some Try.f98) .e)) (some Try.f18) (.n (.n .e (some Try.f82) .e) (some Try.f50) (.n .e (some Try.f114) .e))) (some Try.f10) (.n (.n (.n .e (some Try.f74) .e) (some Try.f42) (.n .e (some Try.f106) .e)) (some Try.f26) (.n (.n .e (some Try.f90) .e) (some Try.f58) .e))) (some Try.f6) (.n (.n (.n (.n .e (some Try.f70) .e) (some Try.f38) (.n .e (some Try.f102) .e)) (some Try.f22) (.n (.n .e (some Try.f86) .e) (some Try.f54) (.n .e (some Try.f118) .e))) (some Try.f14) (.n (.n (.n .e (some Try.f78) .e) (some Try.f46) (.n .e (some Try.f110) .e)) (some Try.f30) (.n (.n .e (some Try.f94) .e) (some Try.f62) .e))))))
def env:Env:=⟨fun t=>match Nat.blt t 230 with |true=>tyT.get t |false=>none,fun f=>fnT.get f,fun _=>none,fun _=>none⟩
end CX

namespace CX
open Go
noncomputable section
def zOk:V->Value->Bool
 |.int k n,.int k' n'=>kindEq k k' && ieq n n'
 |.bool false,.bool false=>true
 |.str [],.string s=>Nat.beq s.size 0
 |.nils,.slice none 0 0=>true
 |.nilp,.pointer none=>true
 |.nilf,.nilFunc=>true
 |.nili,.nilIface=>true
 |.nilm,.map none=>true
 |_,_=>false
def zOks:List V->List Value->Bool
 |[],[]=>true
 |k :: ks,v :: vs=>zOk k v && zOks ks vs
 |_,_=>false
def sameZ:V->V->Bool
 |.int k n,.int k' n'=>kindEq k k' && ieq n n'
 |.bool false,.bool false=>true
 |.str [],.str []=>true
 |.nils,.nils=>true
 |.nilp,.nilp=>true
 |.nilf,.nilf=>true
 |.nili,.nili=>true
 |.nilm,.nilm=>true
 |_,_=>false
def ztOk (t:T V):Nat->List V->Bool
 |_,[]=>true
 |i,v :: l=>(match t.get i with |some u=>sameZ u v |none=>false) && ztOk t (Nat.succ i) l
def fsEq:List Field->List (Nat×Nat)->Bool
 |[],[]=>true
 |f :: r,(o,t) :: s=>Nat.beq f.offset o && Nat.beq f.type t && fsEq r s
 |_,_=>false
def kdChk (P:Program) (kd:TK) (d:TypeDesc):Bool:=
 match kd with
 |.other=>match d with
  |.interface _=>false
  |_=>true
 |.int k=>match d with
  |.int k'=>kindEq k k'
  |_=>false
 |.bool=>match d with
  |.bool=>true
  |_=>false
 |.str=>match d with
  |.string=>true
  |_=>false
 |.struct fs=>match d with
  |.struct fields=>fsEq fields.toList fs && fields.toList.all fun f=>(P.info? f.type).isSome
  |_=>false
 |.arr n e=>match d with
  |.array n' e'=>Nat.beq n n' && Nat.beq e e'
  |_=>false
 |.slice e=>match d with
  |.slice e'=>Nat.beq e e'
  |_=>false
 |.map k e=>match d with
  |.map k' e'=>Nat.beq k k' && Nat.beq e e'
  |_=>false
 |.ptr e=>match d with
  |.pointer e'=>Nat.beq e e'
  |_=>false
 |.iface=>true
def sKind (P:Program) (z:V) (t:Nat):Bool:=
 match z with
 |.int _ _=>match P.underlying t with
  |some (.int _)=>true
  |_=>false
 |.bool _=>match P.underlying t with
  |some .bool=>true
  |_=>false
 |.str _=>match P.underlying t with
  |some .string=>true
  |_=>false
 |_=>false
def chkF (P:Program):List Field->List V->Nat->Bool
 |[],[],_=>true
 |f :: fs,z :: zs,i=>(f.name != "_") && Nat.beq f.offset i && sKind P z f.type && chkF P fs zs (Nat.succ i)
 |_,_,_=>false
def chkF1 (P:Program):List Field->List V->Nat->Bool
 |[],zs,_=>zs.isEmpty
 |f :: fs,zs,i=>match zs with
  |[]=>false
  |z :: zs'=>match (f.name != "_") && Nat.beq f.offset i with
   |false=>false
   |true=>match sKind P z f.type with
    |true=>chkF1 P fs zs' (Nat.succ i)
    |false=>match P.underlying f.type,P.info? f.type with
     |some (.struct fields'),some inf=>!P.stoodInHeld f.type && Nat.ble inf.size (len (z :: zs')) && chkF P fields'.toList ((z :: zs').take inf.size) 0 && chkF1 P fs ((z :: zs').drop inf.size) (Nat.add i inf.size)
     |_,_=>false
def eqChk (P:Program) (t:Nat) (ty:Ty) (d:TypeDesc):Bool:=
 match ty.eqp with
 |false=>true
 |true=>!P.eqGuardType P.depth t && (match d with
  |.struct fields=>!P.stoodInHeld t && chkF1 P fields.toList ty.zero 0
  |.array n e=>(P.info? e).isSome && Nat.beq (P.cellsOf e) 1 && Nat.beq (len ty.zero) n && ty.zero.all fun z=>sKind P z e
  |_=>false)
def tyChk (P:Program) (t:Nat) (ty:Ty):Bool:=
 match P.info? t,P.underlying t with
 |some i,some d=>
  Nat.beq i.size ty.size && Nat.beq i.bytes ty.bytes &&
   (match i.zero with
    |some z=>zOks ty.zero z.cells.toList && (match z with |.agg _=>ty.agg |_=>!ty.agg)
    |none=>false) &&
   Nat.beq (len ty.zero) ty.size && ztOk ty.zt 0 ty.zero && (isAggD d == ty.agg) && kdChk P ty.kd d && eqChk P t ty d
 |_,_=>false
end
theorem zOk_ok {v:V} {u:Value} (h:zOk v u=true):one1 v=true/\∀Z n,Rv Z n v u:=by
 unfold zOk at h
 split at h
 ·simp only [zC] at h
  have h1:=kindEq_ok h.1
  have h2:=h.2
  rw [ieq_eq,qE] at h2
  subst h1 h2
  exact ⟨rfl,fun Z n=>by simp [Rv]⟩
 ·exact ⟨rfl,fun Z n=>by simp [Rv]⟩
 next s=>
  have:s.size=0:=by simpa using h
  have hs:s=ByteArray.empty:=ByteArray.ext (Array.eq_empty_of_size_eq_zero this)
  exact ⟨rfl,fun Z n=>by simp only [Rv];exact ⟨by simp,by rw [hs];rfl⟩⟩
 all_goals first |(cases h;done) |exact ⟨rfl,fun Z n=>by simp [Rv]⟩
theorem zOks_ok:∀(l:List V) (us:List Value),zOks l us=true->(∀v∈l,one1 v=true)/\∀Z n,RvL Z n l us
 |[],[],_=>⟨by simp,fun _ _=>by simp [RvL]⟩
 |v :: l,u :: us,h=>by
  simp only [zOks,zC] at h
  obtain ⟨h1,h2⟩:=zOk_ok h.1
  obtain ⟨h3,h4⟩:=zOks_ok l us h.2
  refine ⟨fun x hx=>?_,fun Z n=>by simp only [RvL];exact ⟨h2 Z n,h4 Z n⟩⟩
  rcases zL.1 hx with rfl |hx
  ·exact h1
  exact h3 x hx
 |[],_ :: _,h=>by simp [zOks] at h
 |_ :: _,[],h=>by simp [zOks] at h
theorem sameZ_ok {a b:V} (h:sameZ a b=true):a=b:=by
 unfold sameZ at h
 split at h
 ·simp only [zC] at h
  have h1:=kindEq_ok h.1
  have h2:=h.2
  rw [ieq_eq,qE] at h2
  subst h1 h2;rfl
 all_goals first |rfl |cases h
theorem ztOk_ok {t:T V}:∀(l:List V) (i:Nat),ztOk t i l=true->∀j,j < l.length->t.get (i+j)=l[j]?
 |[],_,_,j,hj=>by simp at hj
 |v :: l,i,h,j,hj=>by
  simp only [ztOk,zC] at h
  cases j with
  |zero=>
   have h1:=h.1
   split at h1
   next u hu=>
    rw [kF,hu,sameZ_ok h1];rfl
   cases h1
  |succ j=>
   have:=ztOk_ok l (Nat.succ i) h.2 j (by simpa using hj)
   rw [show i+(j+1)=Nat.succ i+j by omega,this];rfl
theorem fsEq_ok:∀(l:List Field) (fs:List (Nat×Nat)),fsEq l fs=true->l.map (fun f=>(f.offset,f.type))=fs
 |[],[],_=>rfl
 |f :: r,(o,t) :: s,h=>by
  simp only [fsEq,zC,kG] at h
  rw [kD,fsEq_ok r s h.2,h.1.1,h.1.2]
 |[],_ :: _,h=>by simp [fsEq] at h
 |_ :: _,[],h=>by simp [fsEq] at h
theorem kdChk_ok {P:Program} {kd:TK} {d:TypeDesc} (h:kdChk P kd d=true):KdOk P kd d:=by
 cases kd with
 |other=>
  intro ms e
  subst e
  simp [kdChk] at h
 |int k=>
  simp only [kdChk] at h
  split at h
  ·rw [kindEq_ok h];rfl
  cases h
 |bool=>simp only [kdChk] at h;split at h;rfl;cases h
 |str=>simp only [kdChk] at h;split at h;rfl;cases h
 |struct fs=>
  simp only [kdChk] at h
  split at h
  next fields=>
   simp only [zC] at h
   refine ⟨fields,rfl,fsEq_ok _ _ h.1,fun f hf=>?_⟩
   have:=kT.1 h.2 f (by simpa using hf)
   exact Option.isSome_iff_exists.1 this
  cases h
 |arr n e=>
  simp only [kdChk] at h
  split at h
  ·simp only [zC,kG] at h
   simp only [KdOk,h.1,h.2]
  cases h
 |slice e=>
  simp only [kdChk] at h
  split at h
  ·simp only [kG] at h
   simp only [KdOk,h]
  cases h
 |map k e=>
  simp only [kdChk] at h
  split at h
  ·simp only [zC,kG] at h
   simp only [KdOk,h.1,h.2]
  cases h
 |ptr e=>
  simp only [kdChk] at h
  split at h
  ·simp only [kG] at h
   simp only [KdOk,h]
  cases h
 |iface=>trivial
section
variable {P:Program} {Z:Nm} {n:Nat}
theorem cell_eq {D:Nat} {z a b:V} {x y:Value} {t:Nat} {r:Bool} {w:World} (hz:sKind P z t=true) (ha:Rv Z n a x) (hb:Rv Z n b y)
  (h:eqK z a b=some r):(Op.equalIn (D+1) t x y).run P w=.ok r w/\∀cs:Array Value,∀off,cs[off]?=some x->(Go.part t cs off).run P w=.ok x w:=by
 have pt:∀d,P.underlying t=some d->isAggD d=false->∀cs:Array Value,∀off,cs[off]?=some x->(Go.part t cs off).run P w=.ok x w:=by
  intro d hd hag cs off hc
  simp only [Go.part,zN,run_isAgg' hd,zG]
  cases d<;>simp_all [isAggD]
 cases z with
 |int k0 n0=>
  simp only [eqK] at h
  obtain ⟨k',hu⟩:∃k',P.underlying t=some (.int k'):=by
   simp only [sKind] at hz
   split at hz
   ·exact ⟨_,by assumption⟩
   cases hz
  cases a with
  |int k1 a1=>
   simp only [Rv] at ha
   subst ha
   cases b with
   |int k2 b1=>
    simp only [Rv] at hb
    subst hb
    simp only [eq1] at h
    split at h
    next hk=>
     have:=kindEq_ok hk
     subst this
     simp only [zA] at h
     subst h
     exact ⟨by rw [run_equalIn_int w D t k1 k' _ _ hu,ieq_eq],pt _ hu rfl⟩
    cases h
   |_=>simp [eq1] at h
  |_=>simp at h
 |bool b0=>
  simp only [eqK] at h
  have hu:P.underlying t=some .bool:=by
   simp only [sKind] at hz
   split at hz
   ·assumption
   cases hz
  cases a with
  |bool a1=>
   simp only [Rv] at ha
   subst ha
   cases b with
   |bool b1=>
    simp only [Rv] at hb
    subst hb
    refine ⟨?_,pt _ hu rfl⟩
    rw [run_equalIn_bool' w D t _ _ hu]
    cases a1<;>cases b1<;>simp_all [eq1]
   |_=>simp [eq1] at h
  |_=>simp at h
 |str s0=>
  simp only [eqK] at h
  have hu:P.underlying t=some .string:=by
   simp only [sKind] at hz
   split at hz
   ·assumption
   cases hz
  cases a with
  |str a1=>
   simp only [Rv] at ha
   obtain ⟨ha1,rfl⟩:=ha
   cases b with
   |str b1=>
    simp only [Rv] at hb
    obtain ⟨hb1,rfl⟩:=hb
    simp only [eq1,zA] at h
    subst h
    refine ⟨?_,pt _ hu rfl⟩
    rw [run_equalIn_string w D t _ _ hu,beq_bytes ha1 hb1]
   |_=>simp [eq1] at h
  |_=>simp at h
 |_=>simp [eqK] at h
theorem sKind_und {z:V} {t:Nat} (hz:sKind P z t=true):∃d,P.underlying t=some d/\isAggD d=false:=by
 cases z<;>simp only [sKind] at hz<;>first |(cases hz;done) |(split at hz<;>first |(cases hz;done) |exact ⟨_,by assumption,rfl⟩)
theorem lists_get {xs:Array Value} {i:Nat} {u:Value} {us:List Value} (h:xs.toList.drop i=u :: us):xs[i]?=some u/\xs.toList.drop (i+1)=us:=by
 have h1:(xs.toList.drop i)[0]?=some u:=by rw [h];rfl
 rw [xR] at h1
 refine ⟨by simpa using h1,?_⟩
 rw [show i+1=i+1 from rfl,<-List.drop_drop,h];rfl
theorem eqFields_ok {D:Nat} {w:World} {xs ys:Array Value}:∀(fs:List Field) (zs:List V) (i:Nat) (a b:List V) {r:Bool},chkF P fs zs i=true->RvL Z n a (xs.toList.drop i)->RvL Z n b (ys.toList.drop i)->eqZ zs a b=some r->
  (Op.eqFields (D+1) xs ys fs).run P w=.ok r w
 |[],[],i,[],[],r,_,_,_,h=>by
  simp only [eqZ,zA] at h
  subst h
  simp [Op.eqFields]
 |f :: fs,z :: zs,i,a :: as0,b :: bs,r,hc,ha,hb,h=>by
  simp only [chkF,zC,kG,bne_iff_ne] at hc
  obtain ⟨⟨⟨h1,h2⟩,h3⟩,h4⟩:=hc
  cases hx:xs.toList.drop i with
  |nil=>rw [hx] at ha;simp [RvL] at ha
  |cons x xr=>
   cases hy:ys.toList.drop i with
   |nil=>rw [hy] at hb;simp [RvL] at hb
   |cons y yr=>
    rw [hx] at ha
    rw [hy] at hb
    simp only [RvL] at ha hb
    obtain ⟨gx,ex⟩:=lists_get hx
    obtain ⟨gy,ey⟩:=lists_get hy
    simp only [eqZ] at h
    have step:∀c,eqK z a b=some c->(Op.eqFields (D+1) xs ys (f :: fs)).run P w=if c then (Op.eqFields (D+1) xs ys fs).run P w else .ok false w:=by
     intro c hcc
     obtain ⟨k1,k2⟩:=cell_eq (w:=w) h3 ha.1 hb.1 hcc
     have k3:(Go.part f.type ys f.offset).run P w=.ok y w:=by
      obtain ⟨d,hd,hag⟩:=sKind_und h3
      simp only [Go.part,zN,run_isAgg' hd,zG,h2,gy]
      cases d<;>simp_all [isAggD]
     rw [h2] at k3
     simp only [Op.eqFields,if_pos h1,zN]
     rw [h2,k2 xs i gx,zG,k3,zG,k1,zG]
     cases c<;>simp
    split at h
    next hcc=>
     rw [step true hcc,if_pos rfl]
     exact eqFields_ok fs zs (Nat.succ i) as0 bs h4 (by rw [Nat.succ_eq_add_one,ex];exact ha.2) (by rw [Nat.succ_eq_add_one,ey];exact hb.2) h
    next hcc=>
     simp only [zA] at h
     subst h
     rw [step false hcc];rfl
    cases h
 |[],[],_,_ :: _,_,_,_,_,_,h=>by simp [eqZ] at h
 |[],[],_,[],_ :: _,_,_,_,_,h=>by simp [eqZ] at h
 |[],_ :: _,_,_,_,_,h,_,_,_=>by simp [chkF] at h
 |_ :: _,[],_,_,_,_,h,_,_,_=>by simp [chkF] at h
 |_ :: _,_ :: _,_,[],_,_,_,_,_,h=>by simp [eqZ] at h
 |_ :: _,_ :: _,_,_ :: _,[],_,_,_,_,h=>by simp [eqZ] at h
theorem eqZ_split:∀(s:Nat) (zs a b:List V) {r:Bool},s<=zs.length->eqZ zs a b=some r->
  ∃c,eqZ (zs.take s) (a.take s) (b.take s)=some c/\(c=false->r=false)/\(c=true->eqZ (zs.drop s) (a.drop s) (b.drop s)=some r)
 |0,zs,a,b,r,_,h=>⟨true,by simp [eqZ],fun e=>(by cases e),fun _=>by simpa using h⟩
 |s+1,z :: zs,a :: as0,b :: bs,r,hs,h=>by
  simp only [eqZ] at h
  split at h
  next hc=>
   obtain ⟨c,h1,h2,h3⟩:=eqZ_split s zs as0 bs (by simpa using hs) h
   exact ⟨c,by simp only [qH,eqZ,hc];exact h1,h2,h3⟩
  next hc=>
   simp only [zA] at h
   subst h
   exact ⟨false,by simp only [qH,eqZ,hc],fun _=>rfl,fun e=>by cases e⟩
  cases h
 |s+1,[],_,_,_,hs,_=>by simp at hs
 |s+1,_ :: _,[],_,_,_,h=>by simp [eqZ] at h
 |s+1,_ :: _,_ :: _,[],_,_,h=>by simp [eqZ] at h
theorem eqFields1_ok {D:Nat} {w:World} {xs ys:Array Value}:∀(fs:List Field) (zs:List V) (i:Nat) (a b:List V) {r:Bool},chkF1 P fs zs i=true->RvL Z n a (xs.toList.drop i)->RvL Z n b (ys.toList.drop i)->eqZ zs a b=some r->
  (Op.eqFields (D+2) xs ys fs).run P w=.ok r w
 |[],zs,i,a,b,r,hc,_,_,h=>by
  cases zs with
  |nil=>
   cases a<;>cases b<;>simp only [eqZ,zA] at h<;>first |(cases h;done) |skip
   subst h
   simp [Op.eqFields]
  |cons _ _=>simp [chkF1] at hc
 |f :: fs,[],i,a,b,r,hc,_,_,h=>by simp [chkF1] at hc
 |f :: fs,z :: zs,i,a,b,r,hc,ha,hb,h=>by
  cases h12:((f.name != "_") && Nat.beq f.offset i) with
  |false=>simp only [chkF1,h12] at hc;cases hc
  |true=>
   simp only [chkF1,h12] at hc
   simp only [zC,kG,bne_iff_ne] at h12
   obtain ⟨h1,h2⟩:=h12
   split at hc
   next h3=>
    cases a with
    |nil=>simp [eqZ] at h
    |cons a as0=>
    cases b with
    |nil=>simp [eqZ] at h
    |cons b bs=>
    cases hx:xs.toList.drop i with
    |nil=>rw [hx] at ha;simp [RvL] at ha
    |cons x xr=>
     cases hy:ys.toList.drop i with
     |nil=>rw [hy] at hb;simp [RvL] at hb
     |cons y yr=>
      rw [hx] at ha
      rw [hy] at hb
      simp only [RvL] at ha hb
      obtain ⟨gx,ex⟩:=lists_get hx
      obtain ⟨gy,ey⟩:=lists_get hy
      simp only [eqZ] at h
      have step:∀c,eqK z a b=some c->(Op.eqFields (D+2) xs ys (f :: fs)).run P w=if c then (Op.eqFields (D+2) xs ys fs).run P w else .ok false w:=by
       intro c hcc
       obtain ⟨k1,k2⟩:=cell_eq (D:=D+1) (w:=w) h3 ha.1 hb.1 hcc
       have k3:(Go.part f.type ys f.offset).run P w=.ok y w:=by
        obtain ⟨d,hd,hag⟩:=sKind_und h3
        simp only [Go.part,zN,run_isAgg' hd,zG,h2,gy]
        cases d<;>simp_all [isAggD]
       rw [h2] at k3
       simp only [Op.eqFields,if_pos h1,zN]
       rw [h2,k2 xs i gx,zG,k3,zG,k1,zG]
       cases c<;>simp
      split at h
      next hcc=>
       rw [step true hcc,if_pos rfl]
       exact eqFields1_ok fs zs (Nat.succ i) as0 bs hc (by rw [Nat.succ_eq_add_one,ex];exact ha.2) (by rw [Nat.succ_eq_add_one,ey];exact hb.2) h
      next hcc=>
       simp only [zA] at h
       subst h
       rw [step false hcc];rfl
      cases h
   split at hc
   rotate_left
   ·cases hc
   rename_i fields' inf hu hinf
   simp only [zC,kR] at hc
   obtain ⟨⟨⟨c1,c2⟩,c3⟩,c4⟩:=hc
   have c2:inf.size<=(z :: zs).length:=by rw [len_eq] at c2;simpa using c2
   obtain ⟨c,e1,e2,e3⟩:=eqZ_split inf.size (z :: zs) a b c2 h
   have hp:∀us:Array Value,(Go.part f.type us i).run P w=.ok (.agg (us.extract i (i+inf.size))) w:=fun us=>by
    simp only [Go.part,zN,run_isAgg' hu,zG]
    simp [isAggD,run_sizeOf' hinf]
   have hto:∀us:Array Value,(us.extract i (i+inf.size)).toList.drop 0=(us.toList.drop i).take inf.size:=fun us=>by
    simp [Array.toList_extract,List.extract_eq_take_drop]
   have hfo:P.fieldsOf f.type=fields':=by simp [Program.fieldsOf,hu]
   have hrun:(Op.equalIn (D+1+1) f.type (.agg (xs.extract i (i+inf.size))) (.agg (ys.extract i (i+inf.size)))).run P w=.ok c w:=by
    rw [run_equalIn_struct w (D+1) f.type _ _ (by rw [hfo];exact hu) c1,hfo]
    exact eqFields_ok fields'.toList _ 0 _ _ c3 (by rw [hto];exact RvL.take inf.size ha) (by rw [hto];exact RvL.take inf.size hb) e1
   have step:(Op.eqFields (D+2) xs ys (f :: fs)).run P w=if c then (Op.eqFields (D+2) xs ys fs).run P w else .ok false w:=by
    simp only [Op.eqFields,if_pos h1,zN]
    rw [h2,hp xs,zG,hp ys,zG,hrun,zG]
    cases c<;>simp
   rw [step]
   cases c with
   |true=>
    rw [if_pos rfl]
    refine eqFields1_ok fs _ (Nat.add i inf.size) (a.drop inf.size) (b.drop inf.size) c4 ?_ ?_ (e3 rfl)
    ·have:=RvL.drop inf.size ha
     rw [List.drop_drop] at this
     exact this
    have:=RvL.drop inf.size hb
    rw [List.drop_drop] at this
    exact this
   |false=>rw [e2 rfl];rfl
theorem eqItems_ok {D:Nat} {w:World} {xs ys:Array Value} {e:Nat}:∀(m i:Nat) (zs:List V) (a b:List V) {r:Bool},zs.length=m->(∀z∈zs,sKind P z e=true)->RvL Z n a (xs.toList.drop i)->RvL Z n b (ys.toList.drop i)->eqZ zs a b=some r->
  (Op.eqItems (D+1) e 1 xs ys (List.range' i m)).run P w=.ok r w
 |0,i,[],[],[],r,_,_,_,_,h=>by
  simp only [eqZ,zA] at h
  subst h
  simp [Op.eqItems]
 |m+1,i,z :: zs,a :: as0,b :: bs,r,hm,hc,ha,hb,h=>by
  have h3:=hc z (by simp)
  cases hx:xs.toList.drop i with
  |nil=>rw [hx] at ha;simp [RvL] at ha
  |cons x xr=>
   cases hy:ys.toList.drop i with
   |nil=>rw [hy] at hb;simp [RvL] at hb
   |cons y yr=>
    rw [hx] at ha
    rw [hy] at hb
    simp only [RvL] at ha hb
    obtain ⟨gx,ex⟩:=lists_get hx
    obtain ⟨gy,ey⟩:=lists_get hy
    simp only [eqZ] at h
    have step:∀c,eqK z a b=some c->(Op.eqItems (D+1) e 1 xs ys (List.range' i (m+1))).run P w=if c then (Op.eqItems (D+1) e 1 xs ys (List.range' (i+1) m)).run P w else .ok false w:=by
     intro c hcc
     obtain ⟨k1,k2⟩:=cell_eq (w:=w) h3 ha.1 hb.1 hcc
     have k3:(Go.part e ys i).run P w=.ok y w:=by
      obtain ⟨d,hd,hag⟩:=sKind_und h3
      simp only [Go.part,zN,run_isAgg' hd,zG,gy]
      cases d<;>simp_all [isAggD]
     simp only [List.range'_succ,Op.eqItems,Nat.mul_one,zN]
     rw [k2 xs i gx,zG,k3,zG,k1,zG]
     cases c<;>simp
    split at h
    next hcc=>
     rw [step true hcc,if_pos rfl]
     exact eqItems_ok m (i+1) zs as0 bs (by simpa using hm) (fun z hz=>hc z (by simp [hz])) (by rw [ex];exact ha.2) (by rw [ey];exact hb.2) h
    next hcc=>
     simp only [zA] at h
     subst h
     rw [step false hcc];rfl
    cases h
 |0,_,_ :: _,_,_,_,hm,_,_,_,_=>by simp at hm
 |_+1,_,[],_,_,_,hm,_,_,_,_=>by simp at hm
 |0,_,[],_ :: _,_,_,_,_,_,_,h=>by simp [eqZ] at h
 |0,_,[],[],_ :: _,_,_,_,_,_,h=>by simp [eqZ] at h
 |_+1,_,_ :: _,[],_,_,_,_,_,_,h=>by simp [eqZ] at h
 |_+1,_,_ :: _,_ :: _,[],_,_,_,_,_,h=>by simp [eqZ] at h
end
theorem tyChk_ok {P:Program} {t:Nat} {ty:Ty} (h:tyChk P t ty=true):TyOk P t ty:=by
 unfold tyChk at h
 split at h
 rotate_left
 ·cases h
 rename_i i d hi hd
 simp only [zC,kG] at h
 obtain ⟨⟨⟨⟨⟨⟨⟨h1,h2⟩,h3⟩,h4⟩,h5⟩,h6⟩,h7⟩,h8⟩:=h
 rw [len_eq] at h4
 split at h3
 rotate_left
 ·cases h3
 rename_i z hz
 simp only [zC] at h3
 obtain ⟨hz1,hz2⟩:=zOks_ok _ _ h3.1
 have h3b:=h3.2
 replace h6:isAggD d=ty.agg:=eq_of_beq h6
 refine ⟨⟨i,z,hi,h1,h2,hz,hz2,fun ha=>?_,fun ha=>?_⟩,h4,hz1,fun j hj=>?_,⟨d,hd,h6,kdChk_ok h7⟩,fun he=>?_⟩
 ·split at h3b
  ·rfl
  rw [ha] at h3b;cases h3b
 ·split at h3b
  ·rw [ha] at h3b;cases h3b
  rename_i hne
  cases z<;>first |rfl |exact (hne _ rfl).elim
 ·have:=ztOk_ok _ 0 h5 j (by omega)
  simpa using this
 unfold eqChk at h8
 rw [he] at h8
 simp only [zC,kR] at h8
 obtain ⟨g1,g2⟩:=h8
 refine ⟨g1,fun Z n a b xs ys r w ha hb hr=>?_⟩
 split at g2
 next fields=>
  simp only [zC,kR] at g2
  have hfo:P.fieldsOf t=fields:=by simp [Program.fieldsOf,hd]
  rw [run_equalIn_struct w 9999 t _ _ (by rw [hfo];exact hd) g2.1,hfo]
  exact eqFields1_ok (D:=9997) fields.toList ty.zero 0 a b g2.2 (by simpa using ha) (by simpa using hb) hr
 next m e=>
  simp only [zC,kG] at g2
  obtain ⟨⟨⟨q1,q2⟩,q3⟩,q4⟩:=g2
  obtain ⟨ie,hie⟩:=Option.isSome_iff_exists.1 q1
  rw [run_equalIn_array w 9999 _ _ hd hie,q2,List.range_eq_range']
  rw [len_eq] at q3
  exact eqItems_ok (D:=9998) m 0 ty.zero a b q3 (fun z hz=>kT.1 q4 z hz) (by simpa using ha) (by simpa using hb) hr
 cases g2
def T.All {α:Type} (p:Nat->α->Prop):T α->(Nat->Nat)->Prop
 |.e,_=>True
 |.n l v r,φ=>T.All p l (fun i=>φ (2 * i+1))/\(match v with |some x=>p (φ 0) x |none=>True)/\T.All p r (fun i=>φ (2 * i+2))
theorem T.All.get {α:Type} {p:Nat->α->Prop}:∀(t:T α) (φ:Nat->Nat),T.All p t φ->∀i x,t.get i=some x->p (φ i) x
 |.e,_,_,i,x,h=>by simp [T.get] at h
 |.n l v r,φ,ha,0,x,h=>by
  have h1:=ha.2.1
  have h2:v=some x:=h
  rw [h2] at h1
  exact h1
 |.n l v r,φ,ha,j+1,x,h=>by
  have hj:(T.n l v r).get (j+1)=if j % 2=0 then l.get (j / 2) else r.get (j / 2):=T.get_succ l v r j
  rw [hj] at h
  split at h
  ·have:=T.All.get l _ ha.1 (j / 2) x h
   rw [show 2 * (j / 2)+1=j+1 by omega] at this
   exact this
  have:=T.All.get r _ ha.2.2 (j / 2) x h
  rw [show 2 * (j / 2)+2=j+1 by omega] at this
  exact this
def T.allB {α:Type} (p:α->Bool):T α->Bool
 |.e=>true
 |.n l v r=>T.allB p l && (match v with |some x=>p x |none=>true) && T.allB p r
theorem T.allB_ok {α:Type} {p:α->Bool}:∀(t:T α) (φ:Nat->Nat),T.allB p t=true->T.All (fun _ x=>p x=true) t φ
 |.e,_,_=>trivial
 |.n l v r,φ,h=>by
  simp only [T.allB,zC] at h
  refine ⟨T.allB_ok l _ h.1.1,?_,T.allB_ok r _ h.2⟩
  cases v with
  |none=>trivial
  |some x=>exact h.1.2
def tabChk (P:Program) (T:Nat->Option Ty):Nat->Bool
 |0=>true
 |n+1=>(match T n with
  |some ty=>tyChk P n ty
  |none=>true) && tabChk P T n
theorem tabChk_ok {P:Program} {T:Nat->Option Ty}:∀n,tabChk P T n=true->∀t ty,t < n->T t=some ty->TyOk P t ty
 |0,_,t,_,h,_=>by omega
 |n+1,hc,t,ty,ht,h=>by
  simp only [tabChk,zC] at hc
  by_cases e:t=n
  ·subst e
   rw [h] at hc
   exact tyChk_ok hc.1
  exact tabChk_ok n hc.2 t ty (by omega) h
end CX

namespace CX
open Go Go.Proofs
theorem fnT_ok:T.All (fun f fn=>Try.prog.funcs[f]?=some fn) fnT id:=(And.intro (And.intro (And.intro (And.intro (And.intro (And.intro (And.intro trivial (And.intro Try.func63 trivial)) (And.intro Try.func31 (And.intro trivial (And.intro Try.func95 trivial)))) (And.intro Try.func15 (And.intro (And.intro trivial (And.intro Try.func79 trivial)) (And.intro Try.func47 (And.intro trivial (And.intro Try.func111 trivial)))))) (And.intro Try.func7 (And.intro (And.intro (And.intro trivial (And.intro Try.func71 trivial)) (And.intro Try.func39 (And.intro trivial (And.intro Try.func103 trivial)))) (And.intro Try.func23 (And.intro (And.intro trivial (And.intro Try.func87 trivial)) (And.intro Try.func55 (And.intro trivial (And.intro Try.func119 trivial)))))))) (And.intro Try.func3 (And.intro (And.intro (And.intro (And.intro trivial (And.intro Try.func67 trivial)) (And.intro Try.func35 (And.intro trivial (And.intro Try.func99 trivial)))) (And.intro Try.func19 (And.intro (And.intro trivial (And.intro Try.func83 trivial)) (And.intro Try.func51 (And.intro trivial (And.intro Try.func115 trivial)))))) (And.intro Try.func11 (And.intro (And.intro (And.intro trivial (And.intro Try.func75 trivial)) (And.intro Try.func43 (And.intro trivial (And.intro Try.func107 trivial)))) (And.intro Try.func27 (And.intro (And.intro trivial (And.intro Try.func91 trivial)) (And.intro Try.func59 trivial)))))))) (And.intro trivial (And.intro (And.intro (And.intro (And.intro (And.intro trivial (And.intro Try.func65 trivial)) (And.intro Try.func33 (And.intro trivial (And.intro Try.func97 trivial)))) (And.intro Try.func17 (And.intro (And.intro trivial (And.intro Try.func81 trivial)) (And.intro Try.func49 (And.intro trivial (And.intro Try.func113 trivial)))))) (And.intro Try.func9 (And.intro (And.intro (And.intro trivial (And.intro Try.func73 trivial)) (And.intro Try.func41 (And.intro trivial (And.intro Try.func105 trivial)))) (And.intro Try.func25 (And.intro (And.intro trivial (And.intro Try.func89 trivial)) (And.intro Try.func57 (And.intro trivial (And.intro Try.func121 trivial)))))))) (And.intro Try.func5 (And.intro (And.intro (And.intro (And.intro trivial (And.intro Try.func69 trivial)) (And.intro Try.func37 (And.intro trivial (And.intro Try.func101 trivial)))) (And.intro Try.func21 (And.intro (And.intro trivial (And.intro Try.func85 trivial)) (And.intro Try.func53 (And.intro trivial (And.intro Try.func117 trivial)))))) (And.intro Try.func13 (And.intro (And.intro (And.intro trivial (And.intro Try.func77 trivial)) (And.intro Try.func45 (And.intro trivial (And.intro Try.func109 trivial)))) (And.intro Try.func29 (And.intro (And.intro trivial (And.intro Try.func93 trivial)) (And.intro Try.func61 trivial)))))))))) (And.intro trivial (And.intro (And.intro (And.intro (And.intro (And.intro (And.intro trivial (And.intro Try.func64 trivial)) (And.intro Try.func32 (And.intro trivial (And.intro Try.func96 trivial)))) (And.intro Try.func16 (And.intro (And.intro trivial (And.intro Try.func80 trivial)) (And.intro Try.func48 (And.intro trivial (And.intro Try.func112 trivial)))))) (And.intro Try.func8 (And.intro (And.intro (And.intro trivial (And.intro Try.func72 trivial)) (And.intro Try.func40 (And.intro trivial (And.intro Try.func104 trivial)))) (And.intro Try.func24 (And.intro (And.intro trivial (And.intro Try.func88 trivial)) (And.intro Try.func56 (And.intro trivial (And.intro Try.func120 trivial)))))))) (And.intro Try.func4 (And.intro (And.intro (And.intro (And.intro trivial (And.intro Try.func68 trivial)) (And.intro Try.func36 (And.intro trivial (And.intro Try.func100 trivial)))) (And.intro Try.func20 (And.intro (And.intro trivial (And.intro Try.func84 trivial)) (And.intro Try.func52 (And.intro trivial (And.intro Try.func116 trivial)))))) (And.intro Try.func12 (And.intro (And.intro (And.intro trivial (And.intro Try.func76 trivial)) (And.intro Try.func44 (And.intro trivial (And.intro Try.func108 trivial)))) (And.intro Try.func28 (And.intro (And.intro trivial (And.intro Try.func92 trivial)) (And.intro Try.func60 trivial)))))))) (And.intro Try.func2 (And.intro (And.intro (And.intro (And.intro (And.intro trivial (And.intro Try.func66 trivial)) (And.intro Try.func34 (And.intro trivial (And.intro Try.func98 trivial)))) (And.intro Try.func18 (And.intro (And.intro trivial (And.intro Try.func82 trivial)) (And.intro Try.func50 (And.intro trivial (And.intro Try.func114 trivial)))))) (And.intro Try.func10 (And.intro (And.intro (And.intro trivial (And.intro Try.func74 trivial)) (And.intro Try.func42 (And.intro trivial (And.intro Try.func106 trivial)))) (And.intro Try.func26 (And.intro (And.intro trivial (And.intro Try.func90 trivial)) (And.intro Try.func58 trivial)))))) (And.intro Try.func6 (And.intro (And.intro (And.intro (And.intro trivial (And.intro Try.func70 trivial)) (And.intro Try.func38 (And.intro trivial (And.intro Try.func102 trivial)))) (And.intro Try.func22 (And.intro (And.intro trivial (And.intro Try.func86 trivial)) (And.intro Try.func54 (And.intro trivial (And.intro Try.func118 trivial)))))) (And.intro Try.func14 (And.intro (And.intro (And.intro trivial (And.intro Try.func78 trivial)) (And.intro Try.func46 (And.intro trivial (And.intro Try.func110 trivial)))) (And.intro Try.func30 (And.intro (And.intro trivial (And.intro Try.func94 trivial)) (And.intro Try.func62 trivial))))))))))))
end CX

namespace CX
open Go
noncomputable section
def Known (E:Env) (P:Program) (rd:Option Nat) (c:Code) (S:St) (e:Ex) (S':St):Prop:=
 ∀Z a w,Sat E Z S a w->RdOk Z S.nx rd->c.wpIn (Fw (rdB Z rd)) 0 P (CPost E Z S w e S') a w
def KnownR (E:Env) (P:Program) (rd:Option Nat) (m:Nat) (c:Code) (S:St) (e:Ex) (S':St):Prop:=
 ∀Z a w,Sat E Z S a w->RdOk Z S.nx rd->Code.roundsIn (Fw (rdB Z rd)) 0 P c (CPost E Z S w e S') m a w
variable {E:Env} {P:Program} {rd:Option Nat}
theorem CPost.from {Z:Nm} {S S0:St} (h:Wk S S0) {w:World} {e:Ex} {S':St} {x:Exit} {a':Act} {w':World} (hp:CPost E Z S0 w e S' x a' w'):CPost E Z S w e S' x a' w':=by
 obtain ⟨rfl,Z',hL⟩:=hp
 exact ⟨rfl,Z',hL.sat,by rw [<-h.nx];exact hL.ag,by rw [<-h.nx];exact hL.le,hL.nt.trans h.nt,hL.bar.trans h.bar,
  hL.fr.os,hL.fr.tape,hL.fr.output,hL.fr.size,fun b hb ho=>hL.fr.keep b hb fun hn=>ho (Own.wk h hn),fun b hb=>(hL.fr.own b hb).imp (Own.wk h) id⟩
theorem CPost.to {Z:Nm} {S S' S'':St} (h:Wk S' S'') {w:World} {e:Ex} {x:Exit} {a':Act} {w':World} (hp:CPost E Z S w e S' x a' w'):CPost E Z S w e S'' x a' w':=by
 obtain ⟨rfl,Z',hL⟩:=hp
 exact ⟨rfl,Z',hL.wk h⟩
theorem Known.from {c:Code} {S S0:St} {e:Ex} {S':St} (h:Wk S S0) (k:Known E P rd c S0 e S'):Known E P rd c S e S':=fun Z a w hS hrd=>by
 have:=k Z a w (hS.wk h) (by rw [h.nx];exact hrd)
 exact xM this fun x a' w' hp=>hp.from h
theorem KnownR.from {m:Nat} {c:Code} {S S0:St} {e:Ex} {S':St} (h:Wk S S0) (k:KnownR E P rd m c S0 e S'):KnownR E P rd m c S e S':=fun Z a w hS hrd=>by
 have:=k Z a w (hS.wk h) (by rw [h.nx];exact hrd)
 exact roundsIn_mono (fun x a' w' hp=>hp.from h) m a w this
theorem Known.to {c:Code} {S:St} {e:Ex} {S' S'':St} (h:Wk S' S'') (k:Known E P rd c S e S'):Known E P rd c S e S'':=fun Z a w hS hrd=>
 xM (k Z a w hS hrd) fun x a' w' hp=>hp.to h
theorem Known.cx (hE:EnvOk E P) {n:Nat} {c:Code} {S:St} {e:Ex} {S':St} (h:cx E n rd c S=some (e,S')):Known E P rd c S e S':=
 (cx_ok hE n).1 rd c S e S' h
theorem KnownR.cx (hE:EnvOk E P) {n:Nat} {c:Code} {S:St} {e:Ex} {S':St} (h:cx E n rd (.loop c) S=some (e,S')):KnownR E P rd n c S e S':=
 (cx_ok hE n).2 rd c S e S' h
theorem KnownR.step {m:Nat} {c:Code} {S S1:St} {e:Ex} {S':St} (k1:Known E P rd c S .normal S1) (k2:KnownR E P rd m c S1 e S'):KnownR E P rd (m+1) c S e S':=fun Z a w hS hrd=>by
 rw [roundsIn_succ]
 refine xM (k1 Z a w hS hrd) ?_
 rintro x a1 w1 ⟨rfl,Z1,hL⟩
 have:=k2 Z1 a1 w1 hL.sat (hrd.ag hL.ag hL.le)
 rw [rdB_ag hrd hL.ag] at this
 exact roundsIn_mono (fun x a2 w2 hp=>hp.after hL) m a1 w1 this
theorem KnownR.loop {m:Nat} {c:Code} {S:St} {e:Ex} {S':St} (k:KnownR E P rd m c S e S'):Known E P rd (.loop c) S e S':=fun Z a w hS hrd=>
 wpIn_loop_rounds m (k Z a w hS hrd)
def itn (E:Env) (n:Nat) (rd:Option Nat) (c:Code):Nat->St->Option St
 |0,S=>some S
 |k+1,S=>match cx E n rd c S with
  |some (.normal,S)=>itn E n rd c k S
  |_=>none
theorem KnownR.itn (hE:EnvOk E P) {n:Nat} {c:Code} {e:Ex} {S':St}:∀(k:Nat) {S S1:St} {m:Nat},itn E n rd c k S=some S1->KnownR E P rd m c S1 e S'->KnownR E P rd (m+k) c S e S'
 |0,S,S1,m,h,k2=>by
  simp only [CX.itn,zA] at h
  subst h
  exact k2
 |k+1,S,S1,m,h,k2=>by
  simp only [CX.itn] at h
  split at h
  next S2 h2=>
   exact KnownR.step (Known.cx hE h2) (KnownR.itn hE k h k2)
  cases h
def isS (S:St):Option St->Bool
 |some S'=>leS S S'
 |none=>false
theorem KnownR.chunk (hE:EnvOk E P) {n k:Nat} {c:Code} {e:Ex} {S' S S1:St} {m:Nat} (h:isS S1 (CX.itn E n rd c k S)=true) (k2:KnownR E P rd m c S1 e S'):KnownR E P rd (m+k) c S e S':=by
 cases hi:CX.itn E n rd c k S with
 |none=>rw [hi] at h;cases h
 |some S2=>
  rw [hi] at h
  exact KnownR.itn hE k hi (k2.from (leS_ok h))
def flatC:Code->List Code
 |.seq a b=>flatC a++flatC b
 |c=>[c]
def wpL (F:Fence) (P:Program) (Q:Exit->Act->World->Prop):List Code->Act->World->Prop
 |[]=>Q .normal
 |c :: r=>c.wpIn F 0 P (Exit.then (wpL F P Q r) Q)
theorem wpL_mono {F:Fence} {Q Q':Exit->Act->World->Prop} (h:∀e a w,Q e a w->Q' e a w):∀(l:List Code) (a:Act) (w:World),wpL F P Q l a w->wpL F P Q' l a w
 |[],a,w,hq=>h _ _ _ hq
 |c :: r,a,w,hq=>xM (show c.wpIn F 0 P (Exit.then (wpL F P Q r) Q) a w from hq) fun e a w he=>by
  cases e<;>first |exact wpL_mono h r _ _ he |exact h _ _ _ he
theorem wpL_app {F:Fence} {Q:Exit->Act->World->Prop}:∀(l l':List Code) (a:Act) (w:World),wpL F P Q (l++l') a w->wpL F P (Exit.then (wpL F P Q l') Q) l a w
 |[],l',a,w,h=>h
 |c :: r,l',a,w,h=>xM (show c.wpIn F 0 P (Exit.then (wpL F P Q (r++l')) Q) a w from h) fun e a w he=>by
  cases e<;>first |exact wpL_app r l' _ _ he |exact he
theorem wpL_one {F:Fence} {Q:Exit->Act->World->Prop} {c:Code} {a:Act} {w:World} (h:wpL F P Q [c] a w):c.wpIn F 0 P Q a w:=
 xM (show c.wpIn F 0 P (Exit.then (wpL F P Q []) Q) a w from h) fun e a w he=>by cases e<;>exact he
theorem wpL_flat {F:Fence} (c:Code):∀{Q:Exit->Act->World->Prop} (a:Act) (w:World),wpL F P Q (flatC c) a w->c.wpIn F 0 P Q a w:=by
 induction c with
 |seq c1 c2 i1 i2=>
  intro Q a w h
  refine wpIn_seq (i1 a w (wpL_mono (fun e a w he=>?_) _ a w (wpL_app _ _ a w h)))
  cases e<;>first |exact i2 _ _ he |exact he
 |_=>exact fun a w h=>wpL_one h
def KnownL (E:Env) (P:Program) (rd:Option Nat) (l:List Code) (S:St) (e:Ex) (S':St):Prop:=
 ∀Z a w,Sat E Z S a w->RdOk Z S.nx rd->wpL (Fw (rdB Z rd)) P (CPost E Z S w e S') l a w
theorem KnownL.code {c:Code} {S:St} {e:Ex} {S':St} (k:KnownL E P rd (flatC c) S e S'):Known E P rd c S e S':=fun Z a w hS hrd=>wpL_flat c a w (k Z a w hS hrd)
theorem KnownL.cons {c:Code} {l:List Code} {S S1:St} {e:Ex} {S':St} (k1:Known E P rd c S .normal S1) (k2:KnownL E P rd l S1 e S'):KnownL E P rd (c :: l) S e S':=fun Z a w hS hrd=>by
 refine xM (k1 Z a w hS hrd) ?_
 rintro x a1 w1 ⟨rfl,Z1,hL⟩
 have:=k2 Z1 a1 w1 hL.sat (hrd.ag hL.ag hL.le)
 rw [rdB_ag hrd hL.ag] at this
 exact wpL_mono (fun x a2 w2 hp=>hp.after hL) l a1 w1 this
theorem KnownL.from {l:List Code} {S S0:St} {e:Ex} {S':St} (h:Wk S S0) (k:KnownL E P rd l S0 e S'):KnownL E P rd l S e S':=fun Z a w hS hrd=>
 wpL_mono (fun x a' w' hp=>hp.from h) l a w (k Z a w (hS.wk h) (by rw [h.nx];exact hrd))
theorem KnownL.to {l:List Code} {S:St} {e:Ex} {S' S'':St} (h:Wk S' S'') (k:KnownL E P rd l S e S'):KnownL E P rd l S e S'':=fun Z a w hS hrd=>
 wpL_mono (fun x a' w' hp=>hp.to h) l a w (k Z a w hS hrd)
def runL (E:Env) (n:Nat) (rd:Option Nat):List Code->St->Option St
 |[],S=>some S
 |c :: r,S=>match cx E n rd c S with
  |some (.normal,S)=>runL E n rd r S
  |_=>none
theorem KnownL.run (hE:EnvOk E P) {n:Nat} {e:Ex} {S':St}:∀(l:List Code) {l':List Code} {S S1:St},runL E n rd l S=some S1->KnownL E P rd l' S1 e S'->KnownL E P rd (l++l') S e S'
 |[],l',S,S1,h,k=>by
  simp only [runL,zA] at h
  subst h
  exact k
 |c :: r,l',S,S1,h,k=>by
  simp only [runL] at h
  split at h
  next S2 h2=>
   exact KnownL.cons (Known.cx hE h2) (KnownL.run hE r h k)
  cases h
theorem KnownL.chunk (hE:EnvOk E P) {n:Nat} {e:Ex} {S':St} {l l':List Code} {S S1:St} (h:isS S1 (runL E n rd l S)=true) (k:KnownL E P rd l' S1 e S'):KnownL E P rd (l++l') S e S':=by
 cases hi:runL E n rd l S with
 |none=>rw [hi] at h;cases h
 |some S2=>
  rw [hi] at h
  exact KnownL.run hE l hi (k.from (leS_ok h))
def runE (E:Env) (n:Nat) (rd:Option Nat):List Code->St->Option (Ex×St)
 |[],S=>some (.normal,S)
 |c :: r,S=>match cx E n rd c S with
  |some (.normal,S)=>runE E n rd r S
  |some (e,S)=>some (e,S)
  |none=>none
theorem KnownL.ends (hE:EnvOk E P) {n:Nat} {e:Ex} {S':St}:∀(l:List Code) {S:St},runE E n rd l S=some (e,S')->KnownL E P rd l S e S'
 |[],S,h=>by
  simp only [runE,zA,zI] at h
  obtain ⟨rfl,rfl⟩:=h
  exact fun Z a w hS _=>⟨rfl,Z,hS.lands⟩
 |c :: r,S,h=>by
  simp only [runE] at h
  split at h
  next S2 h2=>
   exact KnownL.cons (Known.cx hE h2) (KnownL.ends hE r h)
  next e2 S2 hne h2=>
   simp only [zA,zI] at h
   obtain ⟨rfl,rfl⟩:=h
   intro Z a w hS hrd
   refine xM (Known.cx hE h2 Z a w hS hrd) ?_
   rintro x a1 w1 ⟨rfl,hp⟩
   cases e2 with
   |normal=>exact absurd rfl hne
   |ret=>exact ⟨rfl,hp⟩
   |exit id=>exact ⟨rfl,hp⟩
  cases h
def isE (e:Ex) (S:St):Option (Ex×St)->Bool
 |some (e',S')=>exSame e e' && leS S S'
 |none=>false
theorem KnownL.endC (hE:EnvOk E P) {n:Nat} {e:Ex} {S':St} {l:List Code} {S:St} (h:isE e S' (runE E n rd l S)=true):KnownL E P rd l S e S':=by
 cases hi:runE E n rd l S with
 |none=>rw [hi] at h;cases h
 |some x=>
  obtain ⟨e2,S2⟩:=x
  rw [hi] at h
  simp only [isE,zC] at h
  have:=exSame_ok h.1
  subst this
  exact (KnownL.ends hE l hi).to (leS_ok h.2)
theorem KnownR.endC (hE:EnvOk E P) {n:Nat} {c:Code} {e:Ex} {S S':St} (h:isE e S' (CX.cx E n rd (.loop c) S)=true):KnownR E P rd n c S e S':=by
 cases hi:CX.cx E n rd (.loop c) S with
 |none=>rw [hi] at h;cases h
 |some x=>
  obtain ⟨e2,S2⟩:=x
  rw [hi] at h
  simp only [isE,zC] at h
  have:=exSame_ok h.1
  subst this
  intro Z a w hS hrd
  exact roundsIn_mono (fun x a' w' hp=>hp.to (leS_ok h.2)) n a w (KnownR.cx hE hi Z a w hS hrd)
theorem Known.block {id:Nat} {c:Code} {S S':St} (k:Known E P rd c S (.exit id) S'):Known E P rd (.block id c) S .normal S':=fun Z a w hS hrd=>by
 refine wpIn_block (xM (k Z a w hS hrd) ?_)
 rintro x a1 w1 ⟨rfl,hp⟩
 simp only [exO,Exit.inBlock]
 exact ⟨rfl,hp⟩
def entered:List V->Nat->T V->T V
 |[],_,t=>t
 |v :: l,i,t=>entered l (Nat.succ i) (t.up i (some v))
theorem enterRegs_eq:∀(l:List V) (i:Nat) (t:T V) (k:T V->R),enterRegs l i t k=k (entered l i t)
 |[],_,_,_=>rfl
 |v :: l,i,t,k=>by
  simp only [enterRegs,entered]
  rw [T.set_eq]
  exact enterRegs_eq l _ _ k
theorem known_call (hE:EnvOk E P) (hro:∀a,E.ro a=none) {f:Nat} {fn:Func} {c:Code} (hf:E.fn f=some fn) (hx:E.ext f=none) (hb:fn.body=some c) {hin:T O} {nxin:Nat} {args:List V} {v:V} {e:Ex} {S':St}
  (ha:Nat.ble (len args) fn.ntmps=true) (k:Known E P none c ⟨fn.ntmps,0,entered args 0 .e,hin,nxin,[]⟩ e S') (he:e=.normal\/e=.ret) (hd:S'.df=[])
  (hr:resultsX E S'.regs S'.h fn.results.toList (fun l=>retV (one l) S'.h S'.nx)=retV v S'.h S'.nx) :
  ∀Z w xs,HSat Z hin.get nxin w->RvL Z nxin args xs->Calls P f xs.toArray w (CallPost Z hin.get nxin 0 w v S'.h.get S'.nx):=by
 intro Z w xs hS hxs
 let S0:St:=⟨fn.ntmps,0,entered args 0 .e,hin,nxin,[]⟩
 let ih:IH:=fun rd c' S1=>@ite _ (rd=none/\c'=c/\S1=S0) (Classical.propDecidable _) (some (e,S')) none
 have hI:IhOk E P ih:=by
  intro rd c' S1 e1 S2 h
  by_cases hc:rd=none/\c'=c/\S1=S0
  ·have h2:ih rd c' S1=some (e,S'):=if_pos hc
   rw [h2] at h
   cases h
   rw [hc.1,hc.2.1,hc.2.2]
   exact k
  have h2:ih rd c' S1=none:=if_neg hc
  rw [h2] at h
  cases h
 have hi:ih none c S0=some (e,S'):=by
  exact if_pos ⟨rfl,rfl,rfl⟩
 have hcall:callF E ih 0 hin nxin f args retV=retV v S'.h S'.nx:=by
  obtain ⟨nt',bar',regs',h',nx',df'⟩:=S'
  have hd:df'=[]:=hd
  subst hd
  have hr:resultsX E regs' h' fn.results.toList (fun l=>retV (one l) h' nx')=retV v h' nx':=hr
  unfold callF
  simp only [hf,hb,ha,hx,enterRegs_eq]
  have hi:ih none c ⟨fn.ntmps,0,entered args 0 .e,hin,nxin,[]⟩=some (e,⟨nt',bar',regs',h',nx',[]⟩):=hi
  rw [hi]
  rcases he with rfl |rfl<;>simp only [takeDf]<;>rw [hr]<;>rfl
 have hcall':callF E ih 0 hin nxin f args retV=some (.normal,⟨0,0,.n .e (some v) .e,S'.h,S'.nx,[]⟩):=hcall
 obtain ⟨v',g',n',fn',h1,_,_,h2⟩:=callF_ok hE hI (Z:=Z) (n:=nxin) (bar:=0) (g:=hin) (w:=w) (xs:=xs) ⟨fun a v h=>by (rw [hro] at h;cases h),fun a v h=>by (rw [hro] at h;cases h)⟩ hS hxs hcall'
 simp only [retV,zA,zI,St.mk.injEq,T.n.injEq,true_and,and_true] at h1
 obtain ⟨rfl,rfl,rfl⟩:=h1
 exact callsIn_wide.1 (h2 none)
end
end CX

namespace CX
open Go
noncomputable section
variable {E:Env} {P:Program} {rd:Option Nat}
def flatN:Nat->Code->List Code
 |0,c=>[c]
 |n+1,c=>match c with
  |.seq a b=>a :: flatN n b
  |c=>[c]
theorem wpL_flatN {F:Fence}:∀(n:Nat) (c:Code) {Q:Exit->Act->World->Prop} (a:Act) (w:World),wpL F P Q (flatN n c) a w->c.wpIn F 0 P Q a w
 |0,c,Q,a,w,h=>wpL_one h
 |n+1,c,Q,a,w,h=>by
  cases c with
  |seq c1 c2=>
   refine wpIn_seq (xM (show c1.wpIn F 0 P (Exit.then (wpL F P Q (flatN n c2)) Q) a w from h) fun e a w he=>?_)
   cases e<;>first |exact wpL_flatN n c2 _ _ he |exact he
  |_=>exact wpL_one h
theorem KnownL.codeN {n:Nat} {c:Code} {S:St} {e:Ex} {S':St} (k:KnownL E P rd (flatN n c) S e S'):Known E P rd c S e S':=fun Z a w hS hrd=>wpL_flatN n c a w (k Z a w hS hrd)
theorem KnownL.nil {S:St}:KnownL E P rd [] S .normal S:=fun Z a w hS _=>⟨rfl,Z,hS.lands⟩
def Env.and (E:Env) (f:Nat) (x:Ext):Env:=⟨E.T,E.fn,fun g=>match Nat.beq g f with |true=>some x |false=>E.ext g,E.ro⟩
theorem EnvOk.and (hE:EnvOk E P) {f:Nat} {hin:CX.T O} {nxin:Nat} {args:List V} {v:V} {hout:CX.T O} {nxout:Nat}
  (h:∀Z w xs,HSat Z hin.get nxin w->RvL Z nxin args xs->Calls P f xs.toArray w (CallPost Z hin.get nxin 0 w v hout.get nxout)):EnvOk (E.and f (.known hin nxin args v hout nxout)) P:=by
 refine ⟨hE.T,hE.fn,hE.mixed,fun g b hg=>?_,fun g hin' nxin' args' v' hout' nxout' hg=>?_,fun g hg=>?_,fun g c hg=>?_⟩
 ·simp only [Env.and] at hg
  split at hg
  ·cases hg
  exact hE.ext g b hg
 ·simp only [Env.and] at hg
  split at hg
  next hb=>
   simp only [zA,Ext.known.injEq] at hg
   obtain ⟨rfl,rfl,rfl,rfl,rfl,rfl⟩:=hg
   rw [zF hb]
   exact h
  exact hE.known g _ _ _ _ _ _ hg
 ·simp only [Env.and] at hg
  split at hg
  ·cases hg
  exact hE.guard g hg
 simp only [Env.and] at hg
 split at hg
 ·cases hg
 exact hE.sort g c hg
theorem known_closed (hE:EnvOk E P) (hro:∀a,E.ro a=none) {f:Nat} {fn:Func} {c:Code} (hf:E.fn f=some fn) (hx:E.ext f=none) (hb:fn.body=some c) {b:Bool} {e:Ex} {S':St}
  (k:Known E P none c ⟨fn.ntmps,0,.e,.e,0,[]⟩ e S') (he:e=.normal\/e=.ret) (hd:S'.df=[])
  (hr:resultsX E S'.regs S'.h fn.results.toList (fun l=>retV (one l) S'.h S'.nx)=retV (.bool b) S'.h S'.nx) (w:World) :
  Calls P f #[] w fun e w'=>e=.returned (.bool b)/\Kept w w':=by
 have h0:HSat (fun _=>none) (T.e:T O).get 0 w:=⟨fun id o h=>by simp [T.get] at h,fun id o id' o' h=>by simp [T.get] at h,fun _ _=>rfl,fun _ _ h=>by cases h⟩
 have:=known_call hE hro hf hx hb (args:=[]) (by rfl) k he hd hr (fun _=>none) w [] h0 (by simp [RvL])
 refine this.mono fun e w' he=>?_
 obtain ⟨u,Z',rfl,d1,_,_,_,d5⟩:=he
 simp only [Rv] at d1
 subst d1
 refine ⟨rfl,d5.os,d5.tape,d5.output,d5.size,fun b hb=>d5.keep b hb ?_⟩
 rintro ⟨id,o,L,_,h,_⟩
 simp [T.get] at h
end
end CX

namespace CX
open Go Go.Proofs
theorem names_ok:T.allB (fun fn:Func=>fn.name != "runtime.NumGoroutine") fnT=true:=by kernel_rfl
theorem types_ok:tabChk Try.prog env.T 230=true:=by kernel_rfl
theorem env_ok:EnvOk env Try.prog:=by
 refine ⟨fun t ty h=>?_,fun f fn h=>?_,by kernel_rfl,fun _ _ h=>(by cases h),fun _ _ _ _ _ _ _ h=>(by cases h),fun _ h=>(by cases h),fun _ _ h=>by cases h⟩
 ·refine tabChk_ok 230 types_ok t ty ?_ h
  simp only [env] at h
  split at h
  next hb=>simpa [kB] using hb
  cases h
 refine ⟨T.All.get fnT id fnT_ok f fn h,?_⟩
 have:=T.All.get fnT id (T.allB_ok fnT id names_ok) f fn h
 simpa using this
noncomputable section
def fb (f:Func):Code:=match f.body with |some c=>c |none=>.skip
def pcW:List Code:=flatC (fb Try.f13)
def pcR:List Code:=flatN 9 (fb Try.f33)
def lpR:Code:=match pcR[7]? with
 |some (Code.seq _ (Code.block _ (Code.loop b)))=>b
 |_=>.skip
def reR:Code:=match pcR[7]? with
 |some (Code.seq a _)=>a
 |_=>.skip
end
theorem runA:isS rA (runL env 1000 none (pcR.take 7++[reR]) rEn)=true:=by kernel_rfl
theorem runB:isS rB (itn env 1000 none lpR 5 rA)=true:=by kernel_rfl
theorem runC:isS rC (itn env 1000 none lpR 5 rB)=true:=by kernel_rfl
theorem runD:isS rD (itn env 1000 none lpR 5 rC)=true:=by kernel_rfl
theorem runE':isS rE (itn env 1000 none lpR 5 rD)=true:=by kernel_rfl
theorem runF:isE (.exit 2) rF (cx env 1000 none (.loop lpR) rE)=true:=by kernel_rfl
theorem runZ:isE .ret rZ (runE env 1000 none (pcR.drop 8) rF)=true:=by kernel_rfl
end CX

namespace CX
open Go Go.Proofs
section
variable {E:Env} {P:Program} {rd:Option Nat}
theorem wpL_seq {F:Fence} {a b:Code} {l2:List Code} {Q:Exit->Act->World->Prop}:∀(l1:List Code) (x:Act) (w:World),wpL F P Q (l1++a :: b :: l2) x w->wpL F P Q (l1++.seq a b :: l2) x w
 |[],x,w,h=>by
  refine wpIn_seq (xM (show a.wpIn F 0 P (Exit.then (wpL F P Q (b :: l2)) Q) x w from h) fun e x w he=>?_)
  cases e<;>exact he
 |c :: r,x,w,h=>xM (show c.wpIn F 0 P (Exit.then (wpL F P Q (r++a :: b :: l2)) Q) x w from h) fun e x w he=>by
  cases e<;>first |exact wpL_seq r _ _ he |exact he
theorem KnownL.seq {a b:Code} {l1 l2:List Code} {S S':St} {e:Ex} (k:KnownL E P rd (l1++a :: b :: l2) S e S'):KnownL E P rd (l1++.seq a b :: l2) S e S':=fun Z x w hS hrd=>wpL_seq l1 x w (k Z x w hS hrd)
end
noncomputable section
def gR (regs:T V) (t:Nat):V:=match regs.get t with |some v=>v |none=>.nili
def rArgs:List V:=[gR rEnR 0,gR rEnR 1,gR rEnR 2,gR rEnR 3]
def envR:Env:=env.and 33 (.known rEnH 386 rArgs (gR rVR 0) rZH 3300)
def wZ:St:=⟨194,0,.n .e (some (.bool true)) .e,.e,3408,[]⟩
end
theorem run_entry:leS rEn ⟨168,0,entered rArgs 0 .e,rEnH,386,[]⟩=true:=by kernel_rfl
theorem run_pcs:flatN 9 (fb Try.f33)=pcR.take 7++Code.seq reR (.block 2 (.loop lpR)) :: pcR.drop 8:=by kernel_rfl
theorem run_res:resultsX env rZ.regs rZ.h Try.f33.results.toList (fun l=>retV (one l) rZ.h rZ.nx)=retV (gR rVR 0) rZ.h rZ.nx:=by kernel_rfl
theorem run_fits:Nat.ble (len rArgs) Try.f33.ntmps=true:=by kernel_rfl
theorem known_run:Known env Try.prog none (fb Try.f33) rEn .ret rZ:=by
 refine KnownL.codeN (n:=9) ?_
 rw [run_pcs]
 refine KnownL.seq ?_
 rw [show pcR.take 7++reR :: Code.block 2 (.loop lpR) :: pcR.drop 8=(pcR.take 7++[reR])++(Code.block 2 (.loop lpR) :: pcR.drop 8) by rw [qM];rfl]
 have hl:KnownR env Try.prog none (1000+5+5+5+5) lpR rA (.exit 2) rF:=
  KnownR.chunk env_ok runB (KnownR.chunk env_ok runC (KnownR.chunk env_ok runD (KnownR.chunk env_ok runE' (KnownR.endC env_ok runF))))
 exact KnownL.chunk env_ok runA (KnownL.cons (Known.block hl.loop) (KnownL.endC env_ok runZ))
theorem f33_body:Try.f33.body=some (fb Try.f33):=by kernel_rfl
theorem f13_body:Try.f13.body=some (fb Try.f13):=by kernel_rfl
theorem f33_fn:env.fn 33=some Try.f33:=by kernel_rfl
theorem f13_fn:envR.fn 13=some Try.f13:=by kernel_rfl
theorem envR_ok:EnvOk envR Try.prog:=
 EnvOk.and env_ok (known_call env_ok (fun _=>rfl) f33_fn rfl f33_body run_fits (Known.from (leS_ok run_entry) known_run) (.inr rfl) rfl run_res)
theorem w_s10:isS s10 (runL envR 1000 none (pcW.take 10) ⟨194,0,.e,.e,0,[]⟩)=true:=by kernel_rfl
theorem w_end:isE .ret wZ (runE envR 1000 none (pcW.drop 10) s10)=true:=by kernel_rfl
theorem w_res:resultsX envR wZ.regs wZ.h Try.f13.results.toList (fun l=>retV (one l) wZ.h wZ.nx)=retV (.bool true) wZ.h wZ.nx:=by kernel_rfl
theorem works_known:Known envR Try.prog none (fb Try.f13) ⟨194,0,.e,.e,0,[]⟩ .ret wZ:=by
 refine KnownL.code ?_
 rw [show flatC (fb Try.f13)=pcW.take 10++pcW.drop 10 from (List.take_append_drop 10 pcW).symm]
 exact KnownL.chunk envR_ok w_s10 (KnownL.endC envR_ok w_end)
theorem works_ok (w:World):Calls Try.prog 13 #[] w fun e w'=>e=.returned (.bool true)/\Kept w w':=
 known_closed envR_ok (fun _=>rfl) f13_fn rfl f13_body works_known (.inr rfl) rfl w_res w
end CX

namespace HX
open Go Go.Proofs
def tyB:BT CX.Ty:=(.n (.n (.n (.n (.n (.n (.n (.n .e 1 CX.ty1 .e) 2 CX.ty2 (.n .e 3 CX.ty3 .e)) 4 CX.ty4 (.n (.n .e 5 CX.ty5 .e) 6 CX.ty6 .e)) 7 CX.ty7 (.n (.n (.n .e 8 CX.ty8 .e) 9 CX.ty9 (.n .e 10 CX.ty10 .e)) 11 CX.ty11 (.n (.n .e 12 CX.ty12 .e) 13 CX.ty13 .e))) 14 CX.ty14 (.n (.n (.n (.n .e 15 CX.ty15 .e) 16 CX.ty16 (.n .e 17 CX.ty17 .e)) 18 CX.ty18 (.n (.n .e 19 CX.ty19 .e) 20 CX.ty20 .e)) 21 CX.ty21 (.n (.n (.n .e 22 CX.ty22 .e) 23 CX.ty23 .e) 24 CX.ty24 (.n (.n .e 25 CX.ty25 .e) 26 CX.ty26 .e)))) 27 CX.ty27 (.n (.n (.n (.n (.n .e 28 CX.ty28 .e) 30 CX.ty30 (.n .e 31 CX.ty31 .e)) 32 CX.ty32 (.n (.n .e 33 CX.ty33 .e) 35 CX.ty35 .e)) 36 CX.ty36 (.n (.n (.n .e 37 CX.ty37 .e) 38 CX.ty38 (.n .e 39 CX.ty39 .e)) 40 CX.ty40 (.n (.n .e 41 CX.ty41 .e) 42 CX.ty42 .e))) 43 CX.ty43 (.n (.n (.n (.n .e 44 CX.ty44 .e) 46 CX.ty46 (.n .e 47 CX.ty47 .e)) 48 CX.ty48 (.n (.n .e 49 CX.ty49 .e) 51 CX.ty51 .e)) 52 CX.ty52 (.n (.n (.n .e 53 CX.ty53 .e) 54 CX.ty54 .e) 55 CX.ty55 (.n (.n .e 57 CX.ty57 .e) 58 CX.ty58 .e))))) 60 CX.ty60 (.n (.n (.n (.n (.n (.n .e 62 CX.ty62 .e) 63 CX.ty63 (.n .e 64 CX.ty64 .e)) 65 CX.ty65 (.n (.n .e 66 CX.ty66 .e) 67 CX.ty67 .e)) 68 CX.ty68 (.n (.n (.n .e 69 CX.ty69 .e) 70 CX.ty70 (.n .e 71 CX.ty71 .e)) 72 CX.ty72 (.n (.n .e 73 CX.ty73 .e) 74 CX.ty74 .e))) 76 CX.ty76 (.n (.n (.n (.n .e 77 CX.ty77 .e) 78 CX.ty78 (.n .e 79 CX.ty79 .e)) 80 CX.ty80 (.n (.n .e 81 CX.ty81 .e) 83 CX.ty83 .e)) 84 CX.ty84 (.n (.n (.n .e 85 CX.ty85 .e) 86 CX.ty86 .e) 87 CX.ty87 (.n (.n .e 88 CX.ty88 .e) 89 CX.ty89 .e)))) 90 CX.ty90 (.n (.n (.n (.n (.n .e 91 CX.ty91 .e) 92 CX.ty92 (.n .e 93 CX.ty93 .e)) 94 CX.ty94 (.n (.n .e 95 CX.ty95 .e) 96 CX.ty96 .e)) 97 CX.ty97 (.n (.n (.n .e 98 CX.ty98 .e) 99 CX.ty99 .e) 101 CX.ty101 (.n (.n .e 102 CX.ty102 .e) 103 CX.ty103 .e))) 104 CX.ty104 (.n (.n (.n (.n .e 105 CX.ty105 .e) 106 CX.ty106 (.n .e 107 CX.ty107 .e)) 108 CX.ty108 (.n (.n .e 109 CX.ty109 .e) 110 CX.ty110 .e)) 112 CX.ty112 (.n (.n (.n .e 113 CX.ty113 .e) 114 CX.ty114 .e) 115 CX.ty115 (.n (.n .e 116 CX.ty116 .e) 117 CX.ty117 .e)))))) 118 CX.ty118 (.n (.n (.n (.n (.n (.n (.n .e 119 CX.ty119 .e) 120 CX.ty120 (.n .e 121 CX.ty121 .e)) 122 CX.ty122 (.n (.n .e 123 CX.ty123 .e) 124 CX.ty124 .e)) 125 CX.ty125 (.n (.n (.n .e 126 CX.ty126 .e) 127 CX.ty127 (.n .e 128 CX.ty128 .e)) 129 CX.ty129 (.n (.n .e 130 CX.ty130 .e) 131 CX.ty131 .e))) 132 CX.ty132 (.n (.n (.n (.n .e 133 CX.ty133 .e) 134 CX.ty134 (.n .e 135 CX.ty135 .e)) 136 CX.ty136 (.n (.n .e 137 CX.ty137 .e) 138 CX.ty138 .e)) 139 CX.ty139 (.n (.n (.n .e 140 CX.ty140 .e) 141 CX.ty141 .e) 142 CX.ty142 (.n (.n .e 143 CX.ty143 .e) 144 CX.ty144 .e)))) 145 CX.ty145 (.n (.n (.n (.n (.n .e 147 CX.ty147 .e) 148 CX.ty148 (.n .e 150 CX.ty150 .e)) 151 CX.ty151 (.n (.n .e 152 CX.ty152 .e) 153 CX.ty153 .e)) 154 CX.ty154 (.n (.n (.n .e 155 CX.ty155 .e) 156 CX.ty156 .e) 157 CX.ty157 (.n (.n .e 158 CX.ty158 .e) 159 CX.ty159 .e))) 160 CX.ty160 (.n (.n (.n (.n .e 161 CX.ty161 .e) 162 CX.ty162 (.n .e 163 CX.ty163 .e)) 164 CX.ty164 (.n (.n .e 165 CX.ty165 .e) 166 CX.ty166 .e)) 167 CX.ty167 (.n (.n (.n .e 168 CX.ty168 .e) 169 CX.ty169 .e) 170 CX.ty170 (.n (.n .e 171 CX.ty171 .e) 172 CX.ty172 .e))))) 173 CX.ty173 (.n (.n (.n (.n (.n (.n .e 174 CX.ty174 .e) 175 CX.ty175 (.n .e 176 CX.ty176 .e)) 177 CX.ty177 (.n (.n .e 178 CX.ty178 .e) 179 CX.ty179 .e)) 181 CX.ty181 (.n (.n (.n .e 182 CX.ty182 .e) 183 CX.ty183 (.n .e 184 CX.ty184 .e)) 185 CX.ty185 (.n (.n .e 186 CX.ty186 .e) 187 CX.ty187 .e))) 189 CX.ty189 (.n (.n (.n (.n .e 190 CX.ty190 .e) 191 CX.ty191 (.n .e 192 CX.ty192 .e)) 193 CX.ty193 (.n (.n .e 194 CX.ty194 .e) 195 CX.ty195 .e)) 196 CX.ty196 (.n (.n (.n .e 198 CX.ty198 .e) 199 CX.ty199 .e) 200 CX.ty200 (.n (.n .e 201 CX.ty201 .e) 202 CX.ty202 .e)))) 203 CX.ty203 (.n (.n (.n (.n (.n .e 204 CX.ty204 .e) 205 CX.ty205 (.n .e 206 CX.ty206 .e)) 207 CX.ty207 (.n (.n .e 208 CX.ty208 .e) 209 CX.ty209 .e)) 210 CX.ty210 (.n (.n (.n .e 211 CX.ty211 .e) 212 CX.ty212 .e) 214 CX.ty214 (.n (.n .e 215 CX.ty215 .e) 216 CX.ty216 .e))) 217 CX.ty217 (.n (.n (.n (.n .e 218 CX.ty218 .e) 219 CX.ty219 (.n .e 220 CX.ty220 .e)) 221 CX.ty221 (.n (.n .e 222 CX.ty222 .e) 223 CX.ty223 .e)) 224 CX.ty224 (.n (.n (.n .e 225 CX.ty225 .e) 226 CX.ty226 .e) 227 CX.ty227 (.n (.n .e 228 CX.ty228 .e) 229 CX.ty229 .e)))))))
def ksB:BT (List Kd):=(.n (.n (.n (.n (.n (.n (.n .e 2 [.int .i64] .e) 3 [.int .i64] .e) 4 [.bool] (.n (.n .e 5 [.int .u8] .e) 6 [.int .u8] .e)) 7 [.int .i64,.int .i64,.bool,.int .u8] (.n (.n (.n .e 8 [.int .i64,.int .i64,.bool,.int .u8] .e) 9 [.str] .e) 10 [.str] (.n .e 11 [.str] .e))) 12 [.int .u64] (.n (.n (.n (.n .e 13 [.str,.int .u64] .e) 14 [.str,.int .u64] .e) 21 [.int .i32] (.n .e 22 [.int .i64,.int .i64,.int .i64] .e)) 23 [.int .i64,.int .i64,.int .i64] (.n (.n (.n .e 24 [.sl [.int .i64]] .e) 26 [.int .i64,.int .i64,.int .i64] .e) 28 [.int .i64] (.n .e 41 [.sl [.int .i64,.int .i64,.sl [.int .i64]]] .e)))) 42 [.int .i64,.int .i64,.sl [.int .i64]] (.n (.n (.n (.n (.n .e 43 [.int .i64,.int .i64,.sl [.int .i64]] .e) 44 [.sl [.sl [.int .i64,.int .i64,.int .i64]]] .e) 47 [.sl [.int .i64,.int .i64,.sl [.int .i64]]] (.n (.n .e 49 [.sl [.sl [.int .i64,.int .i64,.int .i64]]] .e) 53 [.sl [.int .i64,.int .i64,.int .i64]] .e)) 54 [.sl [.int .i64,.int .i64,.int .i64]] (.n (.n (.n .e 65 [.sl [.int .i64,.int .i64,.int .i64,.int .i64]] .e) 66 [.sl [.int .i64,.int .i64,.int .i64,.int .i64]] .e) 67 [.int .i64,.int .i64,.int .i64,.int .i64] (.n .e 68 [.int .i64,.int .i64,.int .i64,.int .i64] .e))) 69 [.int .i64,.int .i64,.int .i64,.int .i64] (.n (.n (.n (.n .e 70 [.sl [.int .i64,.int .i64,.int .i64]] .e) 71 [.sl [.int .i64,.int .i64,.int .i64,.int .i64]] .e) 72 [.sl [.int .i64,.int .i64]] (.n .e 73 [.sl [.int .i64,.int .i64,.int .i64],.sl [.int .i64,.int .i64,.int .i64,.int .i64],.sl [.int .i64,.int .i64],.int .i64] .e)) 74 [.sl [.int .i64,.int .i64,.int .i64],.sl [.int .i64,.int .i64,.int .i64,.int .i64],.sl [.int .i64,.int .i64],.int .i64] (.n (.n (.n .e 78 [.sl [.int .i64,.int .i64,.int .i64]] .e) 79 [.sl [.int .i64,.int .i64,.int .i64,.int .i64]] .e) 80 [.sl [.int .i64,.int .i64,.int .i64],.sl [.int .i64,.int .i64,.int .i64,.int .i64],.sl [.int .i64,.int .i64],.int .i64] (.n .e 81 [.sl [.int .i64,.int .i64,.int .i64],.sl [.int .i64,.int .i64,.int .i64,.int .i64],.sl [.int .i64,.int .i64],.int .i64] .e))))) 91 [.sl [.int .u8]] (.n (.n (.n (.n (.n (.n .e 93 [.sl [.bool]] .e) 97 [.sl [.sl [.int .u8]]] .e) 98 [.sl [.int .u8,.int .u8,.bool]] (.n (.n .e 104 [.int .i64,.int .i64,.int .i64] .e) 105 [.int .i64,.int .i64,.int .i64] .e)) 107 [.int .i64,.int .i64,.sl [.int .i64]] (.n (.n (.n .e 109 [.int .i64,.int .i64] .e) 110 [.int .i64,.int .i64,.int .i64] .e) 115 [.int .u8,.int .u8,.bool] (.n .e 116 [.int .u8,.int .u8,.bool] .e))) 117 [.int .i64,.int .i64,.int .i64,.int .i64] (.n (.n (.n (.n .e 118 [.int .i64,.int .i64,.int .i64,.int .i64] .e) 119 [.sl [.int .u16]] .e) 120 [.int .i64,.int .i64,.int .i64] (.n .e 121 [.int .i64,.int .i64,.int .i64] .e)) 122 [.int .u16] (.n (.n (.n .e 125 [.int .i64,.int .i64,.int .i64] .e) 127 [.int .i64,.int .i64] .e) 128 [.int .i64,.int .i64] (.n .e 160 [.int .i64,.int .i64,.int .i64] .e)))) 161 [.int .i64,.int .i64,.int .i64] (.n (.n (.n (.n (.n .e 163 [.sl [.int .i64]] .e) 164 [.sl [.int .i64]] .e) 167 [.sl [.sl [.int .i64],.sl [.int .i64],.sl [.int .i64],.sl [.int .i64],.sl [.int .i64],.sl [.int .i64],.sl [.int .i64],.sl [.int .i64],.sl [.int .i64],.sl [.int .i64]]] (.n (.n .e 168 [.sl [.int .i64,.int .i64,.int .i64,.int .i64]] .e) 169 [.int .i64,.int .i64,.int .i64,.sl [.sl [.int .i64,.int .i64,.int .i64]],.sl [.int .i64,.int .i64,.int .i64,.int .i64],.sl [.sl [.int .i64],.sl [.int .i64],.sl [.int .i64],.sl [.int .i64],.sl [.int .i64],.sl [.int .i64],.sl [.int .i64],.sl [.int .i64],.sl [.int .i64],.sl [.int .i64]],.sl [.int .i64,.int .i64,.int .i64,.int .i64],.sl [.int .i64,.int .i64,.int .i64],.sl [.int .i64,.int .i64,.int .i64,.int .i64],.sl [.int .i64,.int .i64],.int .i64] .e)) 170 [.int .i64,.int .i64,.int .i64,.sl [.sl [.int .i64,.int .i64,.int .i64]],.sl [.int .i64,.int .i64,.int .i64,.int .i64],.sl [.sl [.int .i64],.sl [.int .i64],.sl [.int .i64],.sl [.int .i64],.sl [.int .i64],.sl [.int .i64],.sl [.int .i64],.sl [.int .i64],.sl [.int .i64],.sl [.int .i64]],.sl [.int .i64,.int .i64,.int .i64,.int .i64],.sl [.int .i64,.int .i64,.int .i64],.sl [.int .i64,.int .i64,.int .i64,.int .i64],.sl [.int .i64,.int .i64],.int .i64] (.n (.n (.n .e 171 [.int .i64,.int .i64,.int .i64,.int .i64] .e) 173 [.sl [.int .i64],.sl [.int .i64]] .e) 174 [.sl [.int .i64],.sl [.int .i64],.sl [.int .i64],.sl [.int .i64],.sl [.int .i64],.sl [.int .i64],.sl [.int .i64],.sl [.int .i64],.sl [.int .i64],.sl [.int .i64]] (.n .e 175 [.int .i64,.int .i64,.int .i64] .e))) 176 [.int .i64,.int .i64,.int .i64,.int .i64] (.n (.n (.n (.n .e 186 [.int .u64] .e) 196 [.int .i64] .e) 203 [.int .u32] (.n .e 205 [.int .u64] .e)) 207 [.int .u64] (.n (.n (.n .e 221 [.int .u8] .e) 222 [.int .u8] .e) 225 [.int .i32] (.n .e 226 [.int .i32] .e))))))
end HX

namespace HX
open Go Go.Proofs CX
def tyF (t:Nat):Option CX.Ty:=tyB.get t
def ksF (t:Nat):Option (List Kd):=ksB.get t
def fnF (f:Nat):Option Func:=CX.env.fn f
def extS (s:Nat->Option Nat) (f:Nat):Option CX.Ext:=match beqN f 13 with
 |true=>some (.bool true)
 |false=>match s f with
  |some c=>some (.sort c)
  |none=>none
def cxS (s:Nat->Option Nat) (ro:Addr->Option V):CX.Env:=⟨tyF,fnF,extS s,ro⟩
structure Ctr where
 f:Nat
 sg:Sig
 pre:List (List D)->Prop
 res:List (List D)->Nat->Nat->D
def inlL (l:List (Nat×Func)) (f:Nat):Option Func:=look l f
def sigL (l:List (Nat×Sig)) (f:Nat):Option Sig:=look l f
def sigs (l:List Ctr):List (Nat×Sig):=l.map fun c=>(c.f,c.sg)
def ctrOf:List Ctr->Nat->Option Ctr
 |[],_=>none
 |c :: r,f=>if c.f=f then some c else ctrOf r f
def preOf (l:List Ctr) (f:Nat) (ds:List (List D)):Prop:=match ctrOf l f with
 |some c=>c.pre ds
 |none=>False
def resOf (l:List Ctr) (f:Nat) (ds:List (List D)):Nat->Nat->D:=match ctrOf l f with
 |some c=>c.res ds
 |none=>fun _ _=>.nil
end HX

namespace HX
open Go Go.Proofs CX
inductive Inls (E:CX.Env):List (Nat×Func)->Prop
 |nil:Inls E []
 |cons {f:Nat} {fn:Func} {l:List (Nat×Func)} (h:E.fn f=some fn) (h':E.ext f=none) (r:Inls E l):Inls E ((f,fn) :: l)
theorem Inls.ok {E:CX.Env}:∀{l:List (Nat×Func)},Inls E l->∀f fn,inlL l f=some fn->E.fn f=some fn/\E.ext f=none
 |[],_,f,fn,h=>by simp [inlL,look] at h
 |(g,gn) :: l,.cons h1 h2 r,f,fn,h=>by
  unfold inlL at h
  rw [look_cons] at h
  split at h
  next e=>
   simp only [zA] at h
   subst e h
   exact ⟨h1,h2⟩
  exact r.ok f fn h
def mxI (x y:Int):Int:=if x < y then y else x
def mnI (x y:Int):Int:=if y < x then y else x
theorem mxI_eq (x y:Int):mxI x y=max x y:=by unfold mxI;split<;>omega
theorem mnI_eq (x y:Int):mnI x y=min x y:=by unfold mnI;split<;>omega
theorem dt {p:Prop} [d:Decidable p] (h:decide p=true):p:=zV h
theorem df {p:Prop} [d:Decidable p] (h:decide p=false):¬p:=of_decide_eq_false h
theorem nt {b:Bool} (h:(!b)=true):b=false:=by simpa using h
theorem nf {b:Bool} (h:(!b)=false):b=true:=by simpa using h
end HX

namespace HX
open Go Go.Proofs CX
def srtF (_:Nat):Option Nat:=none
theorem srtF_ok:∀f c,srtF f=some c->CX.SortOk Try.prog f c/\∃fn b,CX.env.fn f=some fn/\fn.body=some b/\2<=fn.ntmps:=fun _ _ h=>by cases h
end HX

namespace HX
open Go Go.Proofs CX
def cxE (ro:Addr->Option V):CX.Env:=cxS srtF ro
end HX


namespace HX
open Go Go.Proofs CX
abbrev vZ8 (x:Int):=-9223372036854775808<=x/\x<=9223372036854775807
abbrev v8a (fn:Nat->List (List D)->Nat->Nat->D) (b1:Int) (b2:Int) (b3:Int) (d0:Int) (f0:Int):=(D.rows (fn 19 [[D.i b1,D.i b2,D.i b3],[D.i d0],[D.i f0]] 0 0))
abbrev v8b (fn:Nat->List (List D)->Nat->Nat->D) (b1:Int) (b2:Int) (b3:Int) (d0:Int) (f0:Int) (k2:Int):=(D.int (gt (v8a fn b1 b2 b3 d0 f0) k2.toNat 0))
abbrev v8c (fn:Nat->List (List D)->Nat->Nat->D) (b1:Int) (b2:Int) (b3:Int) (d0:Int) (f0:Int):=((D.int (fn 19 [[D.i b1,D.i b2,D.i b3],[D.i d0],[D.i f0]] 1 0))=0)
abbrev v8d (fn:Nat->List (List D)->Nat->Nat->D) (b1:Int) (b2:Int) (b3:Int) (d0:Int) (f0:Int) (k2:Int):=(D.int (fn 42 [[D.i ((v8b fn b1 b2 b3 d0 f0 k2) - (D.int (gt (v8a fn b1 b2 b3 d0 f0) (Int.toNat (k2 - 1)) 0)))]] 0 0))
abbrev v8e (fn:Nat->List (List D)->Nat->Nat->D) (b1:Int) (b2:Int) (b3:Int) (d0:Int) (e0:Rows):=(D.rows (fn 22 [[D.i b1,D.i b2,D.i b3],[D.i d0],[D.l e0]] 0 0))
abbrev v8f (fn:Nat->List (List D)->Nat->Nat->D) (b1:Int) (b2:Int) (b3:Int) (d0:Int) (f0:Int):=(((v8a fn b1 b2 b3 d0 f0)).length:Int)
abbrev v8g (k3:Rows) (fn:Nat->List (List D)->Nat->Nat->D) (b1:Int) (b2:Int) (b3:Int) (d0:Int) (f0:Int) (k2:Int):=(List.set k3 (Int.toNat (v8b fn b1 b2 b3 d0 f0 k2)) [D.b true])
abbrev v8h (fn:Nat->List (List D)->Nat->Nat->D) (b1:Int) (b2:Int) (b3:Int) (d0:Int) (f0:Int):=((D.int (gt (v8a fn b1 b2 b3 d0 f0) (Int.toNat 0) 0))=d0)
abbrev v8i (b0:Int):=(List.replicate b0.toNat [D.i 0])
structure V8r0 (a0:Int) (a1:Int) (I0:Int->Int->Int->Int->Prop):Prop where
 g7:vZ8 (((1+(Int.tmod a0 8)) * (1+(Int.tmod a1 8))))
 n8:I0 ((1+(Int.tmod a0 8)) * (1+(Int.tmod a1 8))) (1+(Int.tmod a0 8)) (1+(Int.tmod a1 8)) 1
structure V8r1 (a2:Int) (b0:Int) (I1:Int->Prop):Prop where
 g22:vZ8 (a2)
 g23:b0≠0
 n24:I1 (Int.tmod a2 b0)
structure V8r3 (a3:Rows) (b0:Int) (e2:Int) (I3:Int->Prop):Prop where
 g30:vZ8 ((D.int (gt a3 e2.toNat 0)))
 g31:b0≠0
 n32:I3 (Int.tmod (D.int (gt a3 e2.toNat 0)) b0)
structure V8r4 (pre:Nat->List (List D)->Prop) (fn:Nat->List (List D)->Nat->Nat->D) (b1:Int) (b2:Int) (b3:Int) (d0:Int) (f0:Int) (I4:Int->Int->Prop):Prop where
 g39:pre 15 [[D.i b1,D.i b2,D.i b3],[D.i d0],[D.i f0]]
 n40:I4 (D.int (fn 15 [[D.i b1,D.i b2,D.i b3],[D.i d0],[D.i f0]] 0 0)) (D.int (fn 15 [[D.i b1,D.i b2,D.i b3],[D.i d0],[D.i f0]] 1 0))
structure V8r6 (pre:Nat->List (List D)->Prop) (fn:Nat->List (List D)->Nat->Nat->D) (b1:Int) (b2:Int) (b3:Int) (d0:Int) (f0:Int) (k2:Int) (I6:Bool->Prop):Prop where
 g81:b1≠0
 g82:vZ8 ((Int.tdiv (v8b fn b1 b2 b3 d0 f0 k2) b1))
 g84:vZ8 ((Int.tdiv (D.int (gt (v8a fn b1 b2 b3 d0 f0) (Int.toNat (k2 - 1)) 0)) b1))
 g85:((Int.tdiv (v8b fn b1 b2 b3 d0 f0 k2) b1)=(Int.tdiv (D.int (gt (v8a fn b1 b2 b3 d0 f0) (Int.toNat (k2 - 1)) 0)) b1))->vZ8 (((v8b fn b1 b2 b3 d0 f0 k2) - (D.int (gt (v8a fn b1 b2 b3 d0 f0) (Int.toNat (k2 - 1)) 0))))
 g86:((Int.tdiv (v8b fn b1 b2 b3 d0 f0 k2) b1)=(Int.tdiv (D.int (gt (v8a fn b1 b2 b3 d0 f0) (Int.toNat (k2 - 1)) 0)) b1))->pre 42 [[D.i ((v8b fn b1 b2 b3 d0 f0 k2) - (D.int (gt (v8a fn b1 b2 b3 d0 f0) (Int.toNat (k2 - 1)) 0)))]]
 n87:((Int.tdiv (v8b fn b1 b2 b3 d0 f0 k2) b1)=(Int.tdiv (D.int (gt (v8a fn b1 b2 b3 d0 f0) (Int.toNat (k2 - 1)) 0)) b1))->I6 (decide ((v8d fn b1 b2 b3 d0 f0 k2)=1))
 n88:(¬(Int.tdiv (v8b fn b1 b2 b3 d0 f0 k2) b1)=(Int.tdiv (D.int (gt (v8a fn b1 b2 b3 d0 f0) (Int.toNat (k2 - 1)) 0)) b1))->I6 false
structure V8c6 (pre:Nat->List (List D)->Prop) (fn:Nat->List (List D)->Nat->Nat->D) (R:Nat->Nat->D) (b1:Int) (b2:Int) (b3:Int) (d0:Int) (f0:Int) (k0:Bool) (k1:Bool) (k2:Int) (k3:Rows) (o0:Bool) (I5:Bool->Bool->Int->Rows->Prop) (m5:Bool->Bool->Int->Rows->Nat):Prop where
 g89:(o0=false)->vZ8 (((v8b fn b1 b2 b3 d0 f0 k2) - (D.int (gt (v8a fn b1 b2 b3 d0 f0) (Int.toNat (k2 - 1)) 0))))
 g90:(o0=false)->pre 42 [[D.i ((v8b fn b1 b2 b3 d0 f0 k2) - (D.int (gt (v8a fn b1 b2 b3 d0 f0) (Int.toNat (k2 - 1)) 0)))]]
 g91:(o0=false)->(¬(v8d fn b1 b2 b3 d0 f0 k2)=b1)->R 0 0=D.b false
 g92:(o0=false)->((v8d fn b1 b2 b3 d0 f0 k2)=b1)->(o0=true)->(k1=true)->R 0 0=D.b false
 g93:(o0=false)->((v8d fn b1 b2 b3 d0 f0 k2)=b1)->(o0=true)->(k1=false)->(k1=true)->vZ8 ((k2+1))
 n94:(o0=false)->((v8d fn b1 b2 b3 d0 f0 k2)=b1)->(o0=true)->(k1=false)->(k1=true)->I5 k0 true (k2+1) (v8g k3 fn b1 b2 b3 d0 f0 k2)/\m5 k0 true (k2+1) (v8g k3 fn b1 b2 b3 d0 f0 k2) < m5 k0 k1 k2 k3
 g95:(o0=false)->((v8d fn b1 b2 b3 d0 f0 k2)=b1)->(o0=true)->(k1=false)->(k1=false)->vZ8 ((k2+1))
 n96:(o0=false)->((v8d fn b1 b2 b3 d0 f0 k2)=b1)->(o0=true)->(k1=false)->(k1=false)->I5 k0 (!o0) (k2+1) (v8g k3 fn b1 b2 b3 d0 f0 k2)/\m5 k0 (!o0) (k2+1) (v8g k3 fn b1 b2 b3 d0 f0 k2) < m5 k0 k1 k2 k3
 g97:(o0=false)->((v8d fn b1 b2 b3 d0 f0 k2)=b1)->(o0=false)->(k1=true)->vZ8 ((k2+1))
 n98:(o0=false)->((v8d fn b1 b2 b3 d0 f0 k2)=b1)->(o0=false)->(k1=true)->I5 k0 true (k2+1) (v8g k3 fn b1 b2 b3 d0 f0 k2)/\m5 k0 true (k2+1) (v8g k3 fn b1 b2 b3 d0 f0 k2) < m5 k0 k1 k2 k3
 g99:(o0=false)->((v8d fn b1 b2 b3 d0 f0 k2)=b1)->(o0=false)->(k1=false)->vZ8 ((k2+1))
 n100:(o0=false)->((v8d fn b1 b2 b3 d0 f0 k2)=b1)->(o0=false)->(k1=false)->I5 k0 (!o0) (k2+1) (v8g k3 fn b1 b2 b3 d0 f0 k2)/\m5 k0 (!o0) (k2+1) (v8g k3 fn b1 b2 b3 d0 f0 k2) < m5 k0 k1 k2 k3
 g101:(o0=true)->(o0=true)->(k1=true)->R 0 0=D.b false
 g102:(o0=true)->(o0=true)->(k1=false)->(k1=true)->vZ8 ((k2+1))
 n103:(o0=true)->(o0=true)->(k1=false)->(k1=true)->I5 k0 true (k2+1) (v8g k3 fn b1 b2 b3 d0 f0 k2)/\m5 k0 true (k2+1) (v8g k3 fn b1 b2 b3 d0 f0 k2) < m5 k0 k1 k2 k3
 g104:(o0=true)->(o0=true)->(k1=false)->(k1=false)->vZ8 ((k2+1))
 n105:(o0=true)->(o0=true)->(k1=false)->(k1=false)->I5 k0 (!o0) (k2+1) (v8g k3 fn b1 b2 b3 d0 f0 k2)/\m5 k0 (!o0) (k2+1) (v8g k3 fn b1 b2 b3 d0 f0 k2) < m5 k0 k1 k2 k3
 g106:(o0=true)->(o0=false)->(k1=true)->vZ8 ((k2+1))
 n107:(o0=true)->(o0=false)->(k1=true)->I5 k0 true (k2+1) (v8g k3 fn b1 b2 b3 d0 f0 k2)/\m5 k0 true (k2+1) (v8g k3 fn b1 b2 b3 d0 f0 k2) < m5 k0 k1 k2 k3
 g108:(o0=true)->(o0=false)->(k1=false)->vZ8 ((k2+1))
 n109:(o0=true)->(o0=false)->(k1=false)->I5 k0 (!o0) (k2+1) (v8g k3 fn b1 b2 b3 d0 f0 k2)/\m5 k0 (!o0) (k2+1) (v8g k3 fn b1 b2 b3 d0 f0 k2) < m5 k0 k1 k2 k3
abbrev V8j6 (pre:Nat->List (List D)->Prop) (fn:Nat->List (List D)->Nat->Nat->D) (R:Nat->Nat->D) (b1:Int) (b2:Int) (b3:Int) (d0:Int) (f0:Int) (k0:Bool) (k1:Bool) (k2:Int) (k3:Rows) (I5:Bool->Bool->Int->Rows->Prop) (m5:Bool->Bool->Int->Rows->Nat):Prop:=∃(I6:Bool->Prop),V8r6 pre fn b1 b2 b3 d0 f0 k2 I6/\∀o0,I6 o0->V8c6 pre fn R b1 b2 b3 d0 f0 k0 k1 k2 k3 o0 I5 m5
structure V8c5 (pre:Nat->List (List D)->Prop) (fn:Nat->List (List D)->Nat->Nat->D) (R:Nat->Nat->D) (b0:Int) (b1:Int) (b2:Int) (b3:Int) (d0:Int) (e0:Rows) (e1:Bool) (e2:Int) (e3:Rows) (e4:Rows) (f0:Int) (k0:Bool) (k1:Bool) (k2:Int) (k3:Rows) (I2:Rows->Bool->Int->Rows->Rows->Prop) (m2:Rows->Bool->Int->Rows->Rows->Nat) (I5:Bool->Bool->Int->Rows->Prop) (m5:Bool->Bool->Int->Rows->Nat):Prop where
 g66:(k2 < (v8f fn b1 b2 b3 d0 f0))->0<=k2
 g67:(k2 < (v8f fn b1 b2 b3 d0 f0))->k2 < (v8f fn b1 b2 b3 d0 f0)
 g68:(k2 < (v8f fn b1 b2 b3 d0 f0))->(((Int.toNat k2:Nat):Int)) < (v8f fn b1 b2 b3 d0 f0)
 g69:(k2 < (v8f fn b1 b2 b3 d0 f0))->((v8b fn b1 b2 b3 d0 f0 k2) < 0)->R 0 0=D.b false
 g70:(k2 < (v8f fn b1 b2 b3 d0 f0))->(¬(v8b fn b1 b2 b3 d0 f0 k2) < 0)->(b0<=(v8b fn b1 b2 b3 d0 f0 k2))->R 0 0=D.b false
 g71:(k2 < (v8f fn b1 b2 b3 d0 f0))->(¬(v8b fn b1 b2 b3 d0 f0 k2) < 0)->(¬b0<=(v8b fn b1 b2 b3 d0 f0 k2))->0<=(v8b fn b1 b2 b3 d0 f0 k2)
 g72:(k2 < (v8f fn b1 b2 b3 d0 f0))->(¬(v8b fn b1 b2 b3 d0 f0 k2) < 0)->(¬b0<=(v8b fn b1 b2 b3 d0 f0 k2))->(v8b fn b1 b2 b3 d0 f0 k2) < (k3.length:Int)
 g73:(k2 < (v8f fn b1 b2 b3 d0 f0))->(¬(v8b fn b1 b2 b3 d0 f0 k2) < 0)->(¬b0<=(v8b fn b1 b2 b3 d0 f0 k2))->(((Int.toNat (v8b fn b1 b2 b3 d0 f0 k2):Nat):Int)) < (k3.length:Int)
 g74:(k2 < (v8f fn b1 b2 b3 d0 f0))->(¬(v8b fn b1 b2 b3 d0 f0 k2) < 0)->(¬b0<=(v8b fn b1 b2 b3 d0 f0 k2))->(k2=0)->vZ8 ((k2+1))
 n75:(k2 < (v8f fn b1 b2 b3 d0 f0))->(¬(v8b fn b1 b2 b3 d0 f0 k2) < 0)->(¬b0<=(v8b fn b1 b2 b3 d0 f0 k2))->(k2=0)->I5 k0 k1 (k2+1) (v8g k3 fn b1 b2 b3 d0 f0 k2)/\m5 k0 k1 (k2+1) (v8g k3 fn b1 b2 b3 d0 f0 k2) < m5 k0 k1 k2 k3
 g76:(k2 < (v8f fn b1 b2 b3 d0 f0))->(¬(v8b fn b1 b2 b3 d0 f0 k2) < 0)->(¬b0<=(v8b fn b1 b2 b3 d0 f0 k2))->(¬k2=0)->vZ8 ((k2 - 1))
 g77:(k2 < (v8f fn b1 b2 b3 d0 f0))->(¬(v8b fn b1 b2 b3 d0 f0 k2) < 0)->(¬b0<=(v8b fn b1 b2 b3 d0 f0 k2))->(¬k2=0)->0<=(k2 - 1)
 g78:(k2 < (v8f fn b1 b2 b3 d0 f0))->(¬(v8b fn b1 b2 b3 d0 f0 k2) < 0)->(¬b0<=(v8b fn b1 b2 b3 d0 f0 k2))->(¬k2=0)->(k2 - 1) < (v8f fn b1 b2 b3 d0 f0)
 g79:(k2 < (v8f fn b1 b2 b3 d0 f0))->(¬(v8b fn b1 b2 b3 d0 f0 k2) < 0)->(¬b0<=(v8b fn b1 b2 b3 d0 f0 k2))->(¬k2=0)->(((Int.toNat (k2 - 1):Nat):Int)) < (v8f fn b1 b2 b3 d0 f0)
 g110:(¬k2 < (v8f fn b1 b2 b3 d0 f0))->vZ8 ((e2+1))
 n111:(¬k2 < (v8f fn b1 b2 b3 d0 f0))->I2 (e0++[[D.i f0]]) k0 (e2+1) (List.set e3 f0.toNat [D.i 1]) k3/\m2 (e0++[[D.i f0]]) k0 (e2+1) (List.set e3 f0.toNat [D.i 1]) k3 < m2 e0 e1 e2 e3 e4
 l6:(k2 < (v8f fn b1 b2 b3 d0 f0))->(¬(v8b fn b1 b2 b3 d0 f0 k2) < 0)->(¬b0<=(v8b fn b1 b2 b3 d0 f0 k2))->(¬k2=0)->V8j6 pre fn R b1 b2 b3 d0 f0 k0 k1 k2 k3 I5 m5
abbrev V8l5 (pre:Nat->List (List D)->Prop) (fn:Nat->List (List D)->Nat->Nat->D) (R:Nat->Nat->D) (b0:Int) (b1:Int) (b2:Int) (b3:Int) (d0:Int) (e0:Rows) (e1:Bool) (e2:Int) (e3:Rows) (e4:Rows) (f0:Int) (I2:Rows->Bool->Int->Rows->Rows->Prop) (m2:Rows->Bool->Int->Rows->Rows->Nat):Prop:=∃(I5:Bool->Bool->Int->Rows->Prop) (m5:Bool->Bool->Int->Rows->Nat),I5 e1 false 0 e4/\∀k0 k1 k2 k3,I5 k0 k1 k2 k3->V8c5 pre fn R b0 b1 b2 b3 d0 e0 e1 e2 e3 e4 f0 k0 k1 k2 k3 I2 m2 I5 m5
structure V8c4 (pre:Nat->List (List D)->Prop) (fn:Nat->List (List D)->Nat->Nat->D) (R:Nat->Nat->D) (b0:Int) (b1:Int) (b2:Int) (b3:Int) (d0:Int) (e0:Rows) (e1:Bool) (e2:Int) (e3:Rows) (e4:Rows) (f0:Int) (j0:Int) (j1:Int) (I2:Rows->Bool->Int->Rows->Rows->Prop) (m2:Rows->Bool->Int->Rows->Rows->Nat):Prop where
 g41:(¬(D.int (fn 19 [[D.i b1,D.i b2,D.i b3],[D.i d0],[D.i f0]] 1 0))=0)->R 0 0=D.b false
 g42:(v8c fn b1 b2 b3 d0 f0)->(¬j1=0)->R 0 0=D.b false
 g43:(v8c fn b1 b2 b3 d0 f0)->(j1=0)->vZ8 ((j0+1))
 g44:(v8c fn b1 b2 b3 d0 f0)->(j1=0)->(¬(v8f fn b1 b2 b3 d0 f0)=(j0+1))->R 0 0=D.b false
 g45:(v8c fn b1 b2 b3 d0 f0)->(j1=0)->((v8f fn b1 b2 b3 d0 f0)=(j0+1))->(0:Int)<=0
 g46:(v8c fn b1 b2 b3 d0 f0)->(j1=0)->((v8f fn b1 b2 b3 d0 f0)=(j0+1))->0 < (v8f fn b1 b2 b3 d0 f0)
 g47:(v8c fn b1 b2 b3 d0 f0)->(j1=0)->((v8f fn b1 b2 b3 d0 f0)=(j0+1))->(((Int.toNat 0:Nat):Int)) < (v8f fn b1 b2 b3 d0 f0)
 g48:(v8c fn b1 b2 b3 d0 f0)->(j1=0)->((v8f fn b1 b2 b3 d0 f0)=(j0+1))->(¬(D.int (gt (v8a fn b1 b2 b3 d0 f0) (Int.toNat 0) 0))=d0)->R 0 0=D.b false
 g49:(v8c fn b1 b2 b3 d0 f0)->(j1=0)->((v8f fn b1 b2 b3 d0 f0)=(j0+1))->(v8h fn b1 b2 b3 d0 f0)->0<=j0
 g50:(v8c fn b1 b2 b3 d0 f0)->(j1=0)->((v8f fn b1 b2 b3 d0 f0)=(j0+1))->(v8h fn b1 b2 b3 d0 f0)->j0 < (v8f fn b1 b2 b3 d0 f0)
 g51:(v8c fn b1 b2 b3 d0 f0)->(j1=0)->((v8f fn b1 b2 b3 d0 f0)=(j0+1))->(v8h fn b1 b2 b3 d0 f0)->(((Int.toNat j0:Nat):Int)) < (v8f fn b1 b2 b3 d0 f0)
 g52:(v8c fn b1 b2 b3 d0 f0)->(j1=0)->((v8f fn b1 b2 b3 d0 f0)=(j0+1))->(v8h fn b1 b2 b3 d0 f0)->(¬(D.int (gt (v8a fn b1 b2 b3 d0 f0) j0.toNat 0))=f0)->R 0 0=D.b false
 g53:(v8c fn b1 b2 b3 d0 f0)->(j1=0)->((v8f fn b1 b2 b3 d0 f0)=(j0+1))->(v8h fn b1 b2 b3 d0 f0)->((D.int (gt (v8a fn b1 b2 b3 d0 f0) j0.toNat 0))=f0)->b1≠0
 g55:(v8c fn b1 b2 b3 d0 f0)->(j1=0)->((v8f fn b1 b2 b3 d0 f0)=(j0+1))->(v8h fn b1 b2 b3 d0 f0)->((D.int (gt (v8a fn b1 b2 b3 d0 f0) j0.toNat 0))=f0)->vZ8 (((Int.tmod d0 b1) - (Int.tmod f0 b1)))
 g56:(v8c fn b1 b2 b3 d0 f0)->(j1=0)->((v8f fn b1 b2 b3 d0 f0)=(j0+1))->(v8h fn b1 b2 b3 d0 f0)->((D.int (gt (v8a fn b1 b2 b3 d0 f0) j0.toNat 0))=f0)->pre 42 [[D.i ((Int.tmod d0 b1) - (Int.tmod f0 b1))]]
 g58:(v8c fn b1 b2 b3 d0 f0)->(j1=0)->((v8f fn b1 b2 b3 d0 f0)=(j0+1))->(v8h fn b1 b2 b3 d0 f0)->((D.int (gt (v8a fn b1 b2 b3 d0 f0) j0.toNat 0))=f0)->vZ8 ((Int.tdiv d0 b1))
 g60:(v8c fn b1 b2 b3 d0 f0)->(j1=0)->((v8f fn b1 b2 b3 d0 f0)=(j0+1))->(v8h fn b1 b2 b3 d0 f0)->((D.int (gt (v8a fn b1 b2 b3 d0 f0) j0.toNat 0))=f0)->vZ8 ((Int.tdiv f0 b1))
 g61:(v8c fn b1 b2 b3 d0 f0)->(j1=0)->((v8f fn b1 b2 b3 d0 f0)=(j0+1))->(v8h fn b1 b2 b3 d0 f0)->((D.int (gt (v8a fn b1 b2 b3 d0 f0) j0.toNat 0))=f0)->vZ8 (((Int.tdiv d0 b1) - (Int.tdiv f0 b1)))
 g62:(v8c fn b1 b2 b3 d0 f0)->(j1=0)->((v8f fn b1 b2 b3 d0 f0)=(j0+1))->(v8h fn b1 b2 b3 d0 f0)->((D.int (gt (v8a fn b1 b2 b3 d0 f0) j0.toNat 0))=f0)->pre 42 [[D.i ((Int.tdiv d0 b1) - (Int.tdiv f0 b1))]]
 g63:(v8c fn b1 b2 b3 d0 f0)->(j1=0)->((v8f fn b1 b2 b3 d0 f0)=(j0+1))->(v8h fn b1 b2 b3 d0 f0)->((D.int (gt (v8a fn b1 b2 b3 d0 f0) j0.toNat 0))=f0)->vZ8 (((D.int (fn 42 [[D.i ((Int.tmod d0 b1) - (Int.tmod f0 b1))]] 0 0))+(D.int (fn 42 [[D.i ((Int.tdiv d0 b1) - (Int.tdiv f0 b1))]] 0 0))))
 g64:(v8c fn b1 b2 b3 d0 f0)->(j1=0)->((v8f fn b1 b2 b3 d0 f0)=(j0+1))->(v8h fn b1 b2 b3 d0 f0)->((D.int (gt (v8a fn b1 b2 b3 d0 f0) j0.toNat 0))=f0)->(¬j0=((D.int (fn 42 [[D.i ((Int.tmod d0 b1) - (Int.tmod f0 b1))]] 0 0))+(D.int (fn 42 [[D.i ((Int.tdiv d0 b1) - (Int.tdiv f0 b1))]] 0 0))))->R 0 0=D.b false
 l5:(v8c fn b1 b2 b3 d0 f0)->(j1=0)->((v8f fn b1 b2 b3 d0 f0)=(j0+1))->(v8h fn b1 b2 b3 d0 f0)->((D.int (gt (v8a fn b1 b2 b3 d0 f0) j0.toNat 0))=f0)->(j0=((D.int (fn 42 [[D.i ((Int.tmod d0 b1) - (Int.tmod f0 b1))]] 0 0))+(D.int (fn 42 [[D.i ((Int.tdiv d0 b1) - (Int.tdiv f0 b1))]] 0 0))))->V8l5 pre fn R b0 b1 b2 b3 d0 e0 e1 e2 e3 e4 f0 I2 m2
abbrev V8j4 (pre:Nat->List (List D)->Prop) (fn:Nat->List (List D)->Nat->Nat->D) (R:Nat->Nat->D) (b0:Int) (b1:Int) (b2:Int) (b3:Int) (d0:Int) (e0:Rows) (e1:Bool) (e2:Int) (e3:Rows) (e4:Rows) (f0:Int) (I2:Rows->Bool->Int->Rows->Rows->Prop) (m2:Rows->Bool->Int->Rows->Rows->Nat):Prop:=∃(I4:Int->Int->Prop),V8r4 pre fn b1 b2 b3 d0 f0 I4/\∀j0 j1,I4 j0 j1->V8c4 pre fn R b0 b1 b2 b3 d0 e0 e1 e2 e3 e4 f0 j0 j1 I2 m2
structure V8c3 (pre:Nat->List (List D)->Prop) (fn:Nat->List (List D)->Nat->Nat->D) (R:Nat->Nat->D) (b0:Int) (b1:Int) (b2:Int) (b3:Int) (d0:Int) (e0:Rows) (e1:Bool) (e2:Int) (e3:Rows) (e4:Rows) (f0:Int) (I2:Rows->Bool->Int->Rows->Rows->Prop) (m2:Rows->Bool->Int->Rows->Rows->Nat):Prop where
 g33:(e0.length+(List.length ([[D.i f0]]:Rows))) * 8<=4294967296/\(e0.length+(List.length ([[D.i f0]]:Rows)))<=4294967296
 g34:0<=f0
 g35:f0 < (e3.length:Int)
 g36:(((Int.toNat f0:Nat):Int)) < (e3.length:Int)
 g37:pre 19 [[D.i b1,D.i b2,D.i b3],[D.i d0],[D.i f0]]
 l4:V8j4 pre fn R b0 b1 b2 b3 d0 e0 e1 e2 e3 e4 f0 I2 m2
abbrev V8j3 (pre:Nat->List (List D)->Prop) (fn:Nat->List (List D)->Nat->Nat->D) (a3:Rows) (R:Nat->Nat->D) (b0:Int) (b1:Int) (b2:Int) (b3:Int) (d0:Int) (e0:Rows) (e1:Bool) (e2:Int) (e3:Rows) (e4:Rows) (I2:Rows->Bool->Int->Rows->Rows->Prop) (m2:Rows->Bool->Int->Rows->Rows->Nat):Prop:=∃(I3:Int->Prop),V8r3 a3 b0 e2 I3/\∀f0,I3 f0->V8c3 pre fn R b0 b1 b2 b3 d0 e0 e1 e2 e3 e4 f0 I2 m2
structure V8c7 (pre:Nat->List (List D)->Prop) (fn:Nat->List (List D)->Nat->Nat->D) (R:Nat->Nat->D) (b0:Int) (b1:Int) (b2:Int) (b3:Int) (d0:Int) (e0:Rows) (e4:Rows) (q0:Bool) (q1:Int) (I7:Bool->Int->Prop) (m7:Bool->Int->Nat):Prop where
 g124:(q1 < b0)->0<=q1
 g125:(q1 < b0)->q1 < (((v8e fn b1 b2 b3 d0 e0)).length:Int)
 g126:(q1 < b0)->(((Int.toNat q1:Nat):Int)) < (((v8e fn b1 b2 b3 d0 e0)).length:Int)
 g128:(q1 < b0)->q1 < (e4.length:Int)
 g129:(q1 < b0)->(((Int.toNat q1:Nat):Int)) < (e4.length:Int)
 g131:(q1 < b0)->(((!(decide ((D.int (gt (v8e fn b1 b2 b3 d0 e0) q1.toNat 0))=0))) == (D.boo (gt e4 q1.toNat 0)))=false)->R 0 0=D.b false
 g132:(q1 < b0)->(((!(decide ((D.int (gt (v8e fn b1 b2 b3 d0 e0) q1.toNat 0))=0))) == (D.boo (gt e4 q1.toNat 0)))=true)->vZ8 ((q1+1))
 n133:(q1 < b0)->(((!(decide ((D.int (gt (v8e fn b1 b2 b3 d0 e0) q1.toNat 0))=0))) == (D.boo (gt e4 q1.toNat 0)))=true)->I7 q0 (q1+1)/\m7 q0 (q1+1) < m7 q0 q1
 g134:(¬q1 < b0)->pre 13 []
 g135:(¬q1 < b0)->R 0 0=D.b (D.boo (fn 13 [] 0 0))
abbrev V8l7 (pre:Nat->List (List D)->Prop) (fn:Nat->List (List D)->Nat->Nat->D) (R:Nat->Nat->D) (b0:Int) (b1:Int) (b2:Int) (b3:Int) (d0:Int) (e0:Rows) (e1:Bool) (e4:Rows):Prop:=∃(I7:Bool->Int->Prop) (m7:Bool->Int->Nat),I7 e1 0/\∀q0 q1,I7 q0 q1->V8c7 pre fn R b0 b1 b2 b3 d0 e0 e4 q0 q1 I7 m7
structure V8c2 (pre:Nat->List (List D)->Prop) (fn:Nat->List (List D)->Nat->Nat->D) (a3:Rows) (R:Nat->Nat->D) (b0:Int) (b1:Int) (b2:Int) (b3:Int) (d0:Int) (e0:Rows) (e1:Bool) (e2:Int) (e3:Rows) (e4:Rows) (I2:Rows->Bool->Int->Rows->Rows->Prop) (m2:Rows->Bool->Int->Rows->Rows->Nat):Prop where
 g26:(e2 < (a3.length:Int))->0<=e2
 g27:(e2 < (a3.length:Int))->e2 < (a3.length:Int)
 g28:(e2 < (a3.length:Int))->(((Int.toNat e2:Nat):Int)) < (a3.length:Int)
 g112:(¬e2 < (a3.length:Int))->pre 22 [[D.i b1,D.i b2,D.i b3],[D.i d0],[D.l e0]]
 g113:(¬e2 < (a3.length:Int))->0<=b0
 g114:(¬e2 < (a3.length:Int))->b0<=b0
 g115:(¬e2 < (a3.length:Int))->(b0 * (Int.ofNat 1))<=4096
 g116:(¬e2 < (a3.length:Int))->(b0 * (Int.ofNat 8))<=140737488355328
 g117:(¬e2 < (a3.length:Int))->(¬(D.int (fn 22 [[D.i b1,D.i b2,D.i b3],[D.i d0],[D.l e0]] 1 0))=0)->R 0 0=D.b false
 g118:(¬e2 < (a3.length:Int))->((D.int (fn 22 [[D.i b1,D.i b2,D.i b3],[D.i d0],[D.l e0]] 1 0))=0)->(¬(((v8e fn b1 b2 b3 d0 e0)).length:Int)=b0)->R 0 0=D.b false
 g119:(¬e2 < (a3.length:Int))->((D.int (fn 22 [[D.i b1,D.i b2,D.i b3],[D.i d0],[D.l e0]] 1 0))=0)->((((v8e fn b1 b2 b3 d0 e0)).length:Int)=b0)->pre 43 [[D.i b1,D.i b2,D.i b3],[D.l (v8e fn b1 b2 b3 d0 e0)],[D.i d0],[D.l (v8i b0)],[D.i 0]]
 g120:(¬e2 < (a3.length:Int))->((D.int (fn 22 [[D.i b1,D.i b2,D.i b3],[D.i d0],[D.l e0]] 1 0))=0)->((((v8e fn b1 b2 b3 d0 e0)).length:Int)=b0)->(D.boo (fn 43 [[D.i b1,D.i b2,D.i b3],[D.l (v8e fn b1 b2 b3 d0 e0)],[D.i d0],[D.l (v8i b0)],[D.i 0]] 1 0)=false)->R 0 0=D.b false
 g121:(¬e2 < (a3.length:Int))->((D.int (fn 22 [[D.i b1,D.i b2,D.i b3],[D.i d0],[D.l e0]] 1 0))=0)->((((v8e fn b1 b2 b3 d0 e0)).length:Int)=b0)->(D.boo (fn 43 [[D.i b1,D.i b2,D.i b3],[D.l (v8e fn b1 b2 b3 d0 e0)],[D.i d0],[D.l (v8i b0)],[D.i 0]] 1 0)=true)->pre 21 [[D.l (D.rows (fn 43 [[D.i b1,D.i b2,D.i b3],[D.l (v8e fn b1 b2 b3 d0 e0)],[D.i d0],[D.l (v8i b0)],[D.i 0]] 2 0))],[D.l e3]]
 g122:(¬e2 < (a3.length:Int))->((D.int (fn 22 [[D.i b1,D.i b2,D.i b3],[D.i d0],[D.l e0]] 1 0))=0)->((((v8e fn b1 b2 b3 d0 e0)).length:Int)=b0)->(D.boo (fn 43 [[D.i b1,D.i b2,D.i b3],[D.l (v8e fn b1 b2 b3 d0 e0)],[D.i d0],[D.l (v8i b0)],[D.i 0]] 1 0)=true)->(D.boo (fn 21 [[D.l (D.rows (fn 43 [[D.i b1,D.i b2,D.i b3],[D.l (v8e fn b1 b2 b3 d0 e0)],[D.i d0],[D.l (v8i b0)],[D.i 0]] 2 0))],[D.l e3]] 0 0)=false)->R 0 0=D.b false
 l3:(e2 < (a3.length:Int))->V8j3 pre fn a3 R b0 b1 b2 b3 d0 e0 e1 e2 e3 e4 I2 m2
 l7:(¬e2 < (a3.length:Int))->((D.int (fn 22 [[D.i b1,D.i b2,D.i b3],[D.i d0],[D.l e0]] 1 0))=0)->((((v8e fn b1 b2 b3 d0 e0)).length:Int)=b0)->(D.boo (fn 43 [[D.i b1,D.i b2,D.i b3],[D.l (v8e fn b1 b2 b3 d0 e0)],[D.i d0],[D.l (v8i b0)],[D.i 0]] 1 0)=true)->(D.boo (fn 21 [[D.l (D.rows (fn 43 [[D.i b1,D.i b2,D.i b3],[D.l (v8e fn b1 b2 b3 d0 e0)],[D.i d0],[D.l (v8i b0)],[D.i 0]] 2 0))],[D.l e3]] 0 0)=true)->V8l7 pre fn R b0 b1 b2 b3 d0 e0 e1 e4
abbrev V8l2 (pre:Nat->List (List D)->Prop) (fn:Nat->List (List D)->Nat->Nat->D) (a3:Rows) (R:Nat->Nat->D) (b0:Int) (b1:Int) (b2:Int) (b3:Int) (d0:Int):Prop:=∃(I2:Rows->Bool->Int->Rows->Rows->Prop) (m2:Rows->Bool->Int->Rows->Rows->Nat),I2 [] false 0 (v8i b0) (List.replicate b0.toNat [D.b false])/\∀e0 e1 e2 e3 e4,I2 e0 e1 e2 e3 e4->V8c2 pre fn a3 R b0 b1 b2 b3 d0 e0 e1 e2 e3 e4 I2 m2
structure V8c1 (pre:Nat->List (List D)->Prop) (fn:Nat->List (List D)->Nat->Nat->D) (a3:Rows) (R:Nat->Nat->D) (b0:Int) (b1:Int) (b2:Int) (b3:Int) (d0:Int):Prop where
 l2:V8l2 pre fn a3 R b0 b1 b2 b3 d0
abbrev V8j1 (pre:Nat->List (List D)->Prop) (fn:Nat->List (List D)->Nat->Nat->D) (a2:Int) (a3:Rows) (R:Nat->Nat->D) (b0:Int) (b1:Int) (b2:Int) (b3:Int):Prop:=∃(I1:Int->Prop),V8r1 a2 b0 I1/\∀d0,I1 d0->V8c1 pre fn a3 R b0 b1 b2 b3 d0
structure V8c0 (pre:Nat->List (List D)->Prop) (fn:Nat->List (List D)->Nat->Nat->D) (a2:Int) (a3:Rows) (R:Nat->Nat->D) (b0:Int) (b1:Int) (b2:Int) (b3:Int):Prop where
 g9:((a3.length:Int) < 1)->pre 13 []
 g10:((a3.length:Int) < 1)->R 0 0=D.b (D.boo (fn 13 [] 0 0))
 g11:(¬(a3.length:Int) < 1)->(30 < (a3.length:Int))->pre 13 []
 g12:(¬(a3.length:Int) < 1)->(30 < (a3.length:Int))->R 0 0=D.b (D.boo (fn 13 [] 0 0))
 g13:(¬(a3.length:Int) < 1)->(¬30 < (a3.length:Int))->0<=b0
 g14:(¬(a3.length:Int) < 1)->(¬30 < (a3.length:Int))->b0<=b0
 g15:(¬(a3.length:Int) < 1)->(¬30 < (a3.length:Int))->(b0 * (Int.ofNat 1))<=4096
 g16:(¬(a3.length:Int) < 1)->(¬30 < (a3.length:Int))->(b0 * (Int.ofNat 8))<=140737488355328
 g20:(¬(a3.length:Int) < 1)->(¬30 < (a3.length:Int))->(b0 * (Int.ofNat 1))<=140737488355328
 l1:(¬(a3.length:Int) < 1)->(¬30 < (a3.length:Int))->V8j1 pre fn a2 a3 R b0 b1 b2 b3
abbrev V8j0 (pre:Nat->List (List D)->Prop) (fn:Nat->List (List D)->Nat->Nat->D) (a0:Int) (a1:Int) (a2:Int) (a3:Rows) (R:Nat->Nat->D):Prop:=∃(I0:Int->Int->Int->Int->Prop),V8r0 a0 a1 I0/\∀b0 b1 b2 b3,I0 b0 b1 b2 b3->V8c0 pre fn a2 a3 R b0 b1 b2 b3
structure V8 (pre:Nat->List (List D)->Prop) (fn:Nat->List (List D)->Nat->Nat->D) (a0:Int) (a1:Int) (a2:Int) (a3:Rows) (R:Nat->Nat->D):Prop where
 g0:vZ8 (a0)
 g1:(8:Int)≠0
 g2:vZ8 ((1+(Int.tmod a0 8)))
 g3:vZ8 (a1)
 g5:vZ8 ((1+(Int.tmod a1 8)))
 l0:V8j0 pre fn a0 a1 a2 a3 R
end HX
