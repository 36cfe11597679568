/- The functions that the law reaches, in the evaluator's words (checked against the loaded program in another part of the claim), and the evaluator without a bound. -/
import Derived.Test.YtfcgnpphabplbaaGreatDoorOa
set_option linter.unusedVariables false
set_option linter.unusedSimpArgs false
set_option maxRecDepth 100000
namespace Go.Ak
abbrev SL:=List AStep
def sR (l:SL) (c:ACode):ACode:=.seq (.region l) c
def sT (l:SL):ACode:=.seq (.region l) .ret
def cV (n:Nat) (a b:ACode):ACode:=.cond true (.v n) a b
def bL (n:Nat) (c:ACode):ACode:=.block n (.loop c)
def mvV (a b:Nat):AStep:=⟨.l a,none, .mov (.v b)⟩
def mvL (a b:Nat):AStep:=⟨.l a,none, .mov (.l b)⟩
def mgV (a g:Nat) (t:Bool) (b:Nat):AStep:=⟨.l a,some (.l g,t), .mov (.v b)⟩
def mgL (a g:Nat) (t:Bool) (b:Nat):AStep:=⟨.l a,some (.l g,t), .mov (.l b)⟩
def asL (a n b:Nat):AStep:=⟨.v a,none, .asg n (.l b)⟩
def asI (a n:Nat) (k:Int):AStep:=⟨.v a,none, .asg n (.c (.int .i64 k))⟩
def asB (a n:Nat) (k:Bool):AStep:=⟨.v a,none, .asg n (.c (.bool k))⟩
def ldN (a b:Nat):AStep:=⟨.l a,none, .load none (.l b)⟩
def ldV (a k b:Nat):AStep:=⟨.l a,none, .load (some k) (.v b)⟩
def ldL (a k b:Nat):AStep:=⟨.l a,none, .load (some k) (.l b)⟩
def ldG (a g:Nat) (t:Bool) (b:Nat):AStep:=⟨.l a,some (.l g,t), .load none (.l b)⟩
def stV (k a b:Nat):AStep:=⟨.no,none, .store (some k) (.v a) (.l b)⟩
def stL (a b:Nat):AStep:=⟨.no,none, .store none (.l a) (.l b)⟩
def fdL (a i b:Nat):AStep:=⟨.l a,none, .faddr i (.l b)⟩
def fdV (a i b:Nat):AStep:=⟨.l a,none, .faddr i (.v b)⟩
def fdG (a g:Nat) (t:Bool) (i b:Nat):AStep:=⟨.l a,some (.l g,t), .faddr i (.v b)⟩
def fgL (a g:Nat) (t:Bool) (i b:Nat):AStep:=⟨.l a,some (.l g,t), .faddr i (.l b)⟩
def nlC (a b:Nat):AStep:=⟨.l a,none, .nilchk (.l b)⟩
def nlG (a g:Nat) (t:Bool) (b:Nat):AStep:=⟨.l a,some (.l g,t), .nilchk (.l b)⟩
def bnI (a:Nat) (o:BinOp) (b:Nat) (k:Int):AStep:=⟨.l a,none, .bin o (.l b) (.c (.int .i64 k))⟩
def bvI (a:Nat) (o:BinOp) (b:Nat) (k:Int):AStep:=⟨.v a,none, .bin o (.l b) (.c (.int .i64 k))⟩
def bnL (a:Nat) (o:BinOp) (b d:Nat):AStep:=⟨.l a,none, .bin o (.l b) (.l d)⟩
def bvL (a:Nat) (o:BinOp) (b d:Nat):AStep:=⟨.v a,none, .bin o (.l b) (.l d)⟩
def bxI (a:Nat) (o:BinOp) (b:Nat) (k:Int):AStep:=⟨.l a,none, .bin o (.v b) (.c (.int .i64 k))⟩
def bxU (a:Nat) (o:BinOp) (b:Nat) (k:Int):AStep:=⟨.l a,none, .bin o (.v b) (.c (.int .u8 k))⟩
def bgI (a g:Nat) (t:Bool) (o:BinOp) (b:Nat) (k:Int):AStep:=⟨.l a,some (.l g,t), .bin o (.l b) (.c (.int .i64 k))⟩
def bgL (a g:Nat) (t:Bool) (o:BinOp) (b d:Nat):AStep:=⟨.l a,some (.l g,t), .bin o (.l b) (.l d)⟩
def exT (a i b:Nat):AStep:=⟨.l a,none, .ext i (.l b)⟩
def lnS (a:Nat) (t:Bool) (b:Nat):AStep:=⟨.l a,none, .len t (.l b)⟩
def lgS (a g:Nat) (t u:Bool) (b:Nat):AStep:=⟨.l a,some (.l g,t), .len u (.l b)⟩
def clA (a f b:Nat):AStep:=⟨.l a,none, .call f [.pl (.l b)]⟩
def clB (a f b d:Nat):AStep:=⟨.l a,none, .call f [.pl (.l b), .pl (.l d)]⟩
def clC (a f b d e:Nat):AStep:=⟨.l a,none, .call f [.pl (.l b), .pl (.l d), .pl (.l e)]⟩
def clI (a f b d:Nat) (k:Int):AStep:=⟨.l a,none, .call f [.pl (.l b), .pl (.l d), .pl (.c (.int .i64 k))]⟩
def pkT (a b d:Nat):AStep:=⟨.l a,none, .pick (.l b) (.c (.bool true)) (.l d)⟩
def pkF (a b d:Nat):AStep:=⟨.l a,none, .pick (.l b) (.l d) (.c (.bool false))⟩
def pvT (a b d:Nat):AStep:=⟨.v a,none, .pick (.l b) (.c (.bool true)) (.l d)⟩
def pvF (a b d:Nat):AStep:=⟨.v a,none, .pick (.l b) (.l d) (.c (.bool false))⟩
def pgT (a g:Nat) (t:Bool) (b d:Nat):AStep:=⟨.l a,some (.l g,t), .pick (.l b) (.c (.bool true)) (.l d)⟩
def pgF (a g:Nat) (t:Bool) (b d:Nat):AStep:=⟨.l a,some (.l g,t), .pick (.l b) (.l d) (.c (.bool false))⟩
def ixL (a k b d:Nat):AStep:=⟨.l a,none, .iaddr k (.l b) (.l d)⟩
def axV (a k i b d:Nat):AStep:=⟨.l a,none, .aaddr k i (.v b) (.l d)⟩
def bxV (a b:Nat):AStep:=⟨.v a,none, .boxL (.v b)⟩
def apL (a k b d:Nat):AStep:=⟨.l a,none, .append false k (.l b) (.l d)⟩
def zlc:SL:= [bxV 5 2,asB 6 6 false]
def zlb:SL:= [⟨.l 12,none, .call 165 []⟩,asL 7 7 12]
def zla:SL:= [mvV 13 7,⟨.l 14,none, .eq false 1 (.l 13) (.c .nilp)⟩,mvL 15 14,mgV 16 15 false 0,lgS 17 15 false true 16,bgI 18 15 false .gtr 17 30,pkT 19 15 18,mvL 20 19,mgV 21 20 false 1,⟨.l 22,some (.l 20,false), .call 160 [.pl (.l 21)]⟩,⟨.l 23,some (.l 20,false), .un .not (.l 22)⟩,pkT 24 20 23,mvL 25 24,⟨.l 26,some (.l 25,false), .load (some 4) (.v 5)⟩,⟨.l 27,some (.l 25,false), .call 166 [.pl (.l 26)]⟩,⟨.l 28,some (.l 25,false), .un .not (.l 27)⟩,pvT 29 25 28]
def zk9:SL:= [mvV 30 7,⟨.l 31,none, .eq true 1 (.l 30) (.c .nilp)⟩,mvL 32 31,⟨.l 33,some (.l 32,true), .call 161 []⟩,pkF 34 32 33,asL 6 6 34]
def zr2:SL:= [mvV 35 7,mvV 36 0,mvV 37 1,clC 38 167 35 36 37,bnI 39 .neq 38 0,mvL 40 39,mgV 41 40 false 7,fdG 42 40 false 1 5,ldG 43 40 false 42,fdG 44 40 false 2 5,ldG 45 40 false 44,fdG 46 40 false 3 5,ldG 47 40 false 46,⟨.l 48,some (.l 40,false), .call 168 [.pl (.l 41), .pl (.l 43), .pl (.l 45), .pl (.l 47)]⟩,bgI 49 40 false .neq 48 0,pvT 50 40 49]
def zr1:SL:= [⟨.l 51,none, .call 161 []⟩,asL 6 6 51]
def zzw:SL:= [⟨.l 52,none, .bslice false (.str []) 0 []⟩,asL 8 8 52]
def zzv:SL:= [asI 9 9 1]
def zvr:SL:= [mvV 53 9,mvV 54 7,clA 55 169 54,bnL 56 .leq 53 55,mvL 57 56,mgV 58 57 true 9,bgI 59 57 true .leq 58 100,pvF 60 57 59]
def zvq:SL:= [mvV 64 7,mvV 65 9,clB 66 170 64 65,mvL 63 66,exT 67 0 63,exT 68 1 63,⟨.v 10,none, .allocL [.int .i64 0, .int .i64 0, .str []]⟩,stV 3 10 67,asL 11 11 68]
def zqf:SL:= [mvV 69 11,bvI 70 .neq 69 0]
def zqe:SL:= [asB 6 6 false]
def zqd:SL:= [mvV 71 8,fdV 72 2 10,ldN 73 72,⟨.l 74,none, .bslice false (.str []) 1 [(0,(.l 73))]⟩,apL 75 0 71 74,asL 8 8 75]
def zqc:SL:= [mvV 61 9,bnI 62 .add 61 1,asL 9 9 62]
def a164l14:ACode:=(.seq (sR zvr (cV 60 .skip (.exit 0))) (.seq (.block 1 (sR zvq (.seq (sR zqf (cV 70 (sT zqe) .skip)) (.region zqd)))) (.region zqc)))
def zzx:Plan:=(.seq 0 (mvV 76 8) (.seq 1 (lnS 77 false 76) (.seq 2 (mvV 78 7) (.one 3 (clA 79 169 78) (.seq 4 (bnL 80 .eql 77 79) (.seq 5 (mvL 81 80) (.seq 6 (mgV 82 81 true 7) (.seq 8 (mgV 84 81 true 8) (.seq 9 (fdG 85 81 true 3 5) (.alt 7 ⟨.l 83,some (.l 81,true), .call 172 [.pl (.l 82)]⟩ (.seq 10 (ldG 86 81 true 85) (.one 11 ⟨.l 87,some (.l 81,true), .call 171 [.pl (.l 84), .pl (.l 86)]⟩ (.seq 12 (bgL 88 81 true .eql 83 87) (.seq 13 (pkF 89 81 88) (.seq 14 (mvL 90 89) (.seq 15 (mgV 91 90 true 8) (.seq 16 (fdG 92 90 true 1 5) (.seq 21 (fdG 97 90 true 2 5) (.seq 22 (ldG 98 90 true 97) (.one 17 (ldG 93 90 true 92) (.seq 18 (bgI 94 90 true .sub 93 1) (.seq 19 ⟨.l 95,some (.l 90,true), .iaddr 0 (.l 91) (.l 94)⟩ (.seq 20 (ldG 96 90 true 95) (.seq 23 (bgL 99 90 true .eql 96 98) (.seq 24 (pkF 100 90 99) (.seq 25 (mvL 101 100) (.one 26 ⟨.l 102,some (.l 101,true), .call 161 []⟩ (.seq 27 (pkF 103 101 102) (.seq 28 (asL 6 6 103) .fin))))))))))))))))))) (.one 10 (ldG 86 81 true 85) (.one 7 ⟨.l 83,some (.l 81,true), .call 172 [.pl (.l 82)]⟩ (.one 11 ⟨.l 87,some (.l 81,true), .call 171 [.pl (.l 84), .pl (.l 86)]⟩ (.seq 12 (bgL 88 81 true .eql 83 87) (.seq 13 (pkF 89 81 88) (.seq 14 (mvL 90 89) (.seq 15 (mgV 91 90 true 8) (.seq 16 (fdG 92 90 true 1 5) (.seq 21 (fdG 97 90 true 2 5) (.seq 22 (ldG 98 90 true 97) (.one 17 (ldG 93 90 true 92) (.seq 18 (bgI 94 90 true .sub 93 1) (.seq 19 ⟨.l 95,some (.l 90,true), .iaddr 0 (.l 91) (.l 94)⟩ (.seq 20 (ldG 96 90 true 95) (.seq 23 (bgL 99 90 true .eql 96 98) (.seq 24 (pkF 100 90 99) (.seq 25 (mvL 101 100) (.one 26 ⟨.l 102,some (.l 101,true), .call 161 []⟩ (.seq 27 (pkF 103 101 102) (.seq 28 (asL 6 6 103) .fin))))))))))))))))))))))))))))))
def a164:AFunc:=⟨3,[0,1,2,5,6,7,8,9,10,11,29,50,60,70],[.tmp 6],(sR zlc (sR zlb (.seq (sR zla (cV 29 (sT zk9) .skip)) (.seq (sR zr2 (cV 50 (sT zr1) .skip)) (sR zzw (.seq (sR zzv (bL 0 a164l14)) (.seq (.draw zzx) .ret))))))),false⟩
def a8r0:SL:= [asB 2 2 false]
def a8r1:SL:= [mvV 7 0,clA 8 14 7,mvL 6 8,exT 9 0 6,exT 10 1 6,exT 11 2 6,⟨.v 3,none, .allocL [.int .i64 0, .int .u64 0, .int .u64 0, .int .u64 0, .int .u64 0, .int .i64 0, .int .i64 0, .nils]⟩,stV 8 3 9,asL 4 4 10,asL 5 5 11]
def a8r2:SL:= [mvV 12 5,bnI 13 .neq 12 0,mvL 14 13,⟨.l 15,some (.l 14,false), .load (some 8) (.v 3)⟩,⟨.l 16,some (.l 14,false), .call 38 [.pl (.l 15)]⟩,pkT 17 14 16,asL 2 2 17]
def a8:AFunc:=⟨1,[0,2,3,4,5],[.tmp 2],(sR a8r0 (sR a8r1 (sT a8r2))),true⟩
def zjT:SL:= [⟨.v 4,none, .asg 4 (.c .nils)⟩,asI 5 5 0,asI 6 6 0]
def zjS:SL:= [mvV 11 1,⟨.l 12,none, .bin .eql (.l 11) (.c (.str [32]))⟩,asL 10 10 12]
def zjR:SL:= [mvV 13 0,clA 14 180 13,asL 4 4 14,asI 5 5 0,asI 6 6 0]
def zjQ:SL:= [mvV 16 1,⟨.l 17,none, .bin .eql (.l 16) (.c (.str []))⟩,asL 15 15 17]
def zjP:SL:= [mvV 18 0,clA 19 181 18,asL 4 4 19,asI 5 5 0,asI 6 6 0]
def zjO:SL:= [mvV 21 1,lnS 22 true 21,bnI 23 .gtr 22 1,mvL 24 23,mgV 25 24 false 1,⟨.l 26,some (.l 24,false), .bin .eql (.l 25) (.c (.str [92]))⟩,pkT 27 24 26,asL 20 20 27]
def zjN:SL:= [mvV 29 1,clA 30 10 29,mvL 28 30,exT 31 0 28,exT 32 1 28,exT 33 2 28,asL 7 7 31,asL 8 8 32,asL 9 9 33]
def zjM:SL:= [mvV 34 9,bvI 35 .neq 34 0]
def zjL:SL:= [mvV 36 8,mvV 37 9,⟨.v 4,none, .asg 4 (.c .nils)⟩,asL 5 8 36,asL 6 9 37]
def zjK:SL:= [mvV 38 7,mvV 39 0,clB 40 153 38 39,asL 4 4 40,asI 5 5 0,asI 6 6 0]
def zgc:SL:= [mvV 42 0,⟨.l 43,none, .bin .eql (.l 42) (.c (.str []))⟩,asL 41 41 43]
def zgb:SL:= [⟨.v 4,none, .asg 4 (.c .nils)⟩,asI 5 5 0,asI 6 6 0]
def zga:SL:= [mvV 44 0,mvV 45 1,clB 46 182 44 45,asL 4 4 46,asI 5 5 0,asI 6 6 0]
def a157:AFunc:=⟨2,[0,1,4,5,6,7,8,9,10,15,20,35,41],[.tmp 4, .tmp 5, .tmp 6],(sR zjT (.seq (.block 0 (sR zjS (cV 10 (sT zjR) (sR zjQ (cV 15 (sT zjP) (sR zjO (cV 20 (sR zjN (.seq (sR zjM (cV 35 (sT zjL) .skip)) (sT zjK))) (sR zgc (cV 41 (sT zgb) .skip))))))))) (sT zga))),true⟩
def zzz:SL:= [asB 2 2 false]
def zzy:SL:= [mvV 3 0,lnS 4 true 3,bnI 5 .lss 4 2,mvL 6 5,mgV 7 6 false 0,⟨.l 8,some (.l 6,false), .call 8 [.pl (.l 7)]⟩,pkT 9 6 8,asL 2 2 9]
def a160:AFunc:=⟨1,[0,2],[.tmp 2],(sR zzz (sT zzy)),true⟩
def zK9:SL:= [asB 0 0 false]
def zK8:SL:= [⟨.l 2,none, .call 165 []⟩,asL 1 1 2]
def zK7:SL:= [mvV 3 1,⟨.l 4,none, .eq true 1 (.l 3) (.c .nilp)⟩,mvL 5 4,mgV 6 5 true 1,⟨.l 7,some (.l 5,true), .call 167 [.pl (.l 6), .pl (.c (.str [32,97,32,98,32])), .pl (.c (.str [32]))]⟩,bgI 8 5 true .eql 7 0,pkF 9 5 8,mvL 10 9,mgV 11 10 true 1,⟨.l 12,some (.l 10,true), .call 169 [.pl (.l 11)]⟩,bgI 13 10 true .eql 12 2,pkF 14 10 13,mvL 15 14,mgV 16 15 true 1,⟨.l 17,some (.l 15,true), .call 168 [.pl (.l 16), .pl (.c (.int .i64 4)), .pl (.c (.str [100])), .pl (.c (.str [45]))]⟩,bgI 18 15 true .eql 17 0,pkF 19 15 18,mvL 20 19,mgV 21 20 true 1,⟨.l 22,some (.l 20,true), .call 172 [.pl (.l 21)]⟩,⟨.l 23,some (.l 20,true), .bin .eql (.l 22) (.c (.str [97,45,98,45,45,100]))⟩,pkF 24 20 23,asL 0 0 24]
def a161:AFunc:=⟨0,[0,1],[.tmp 0],(sR zK9 (sR zK8 (sT zK7))),true⟩
def zD2:SL:= [⟨.v 0,none, .asg 0 (.c .nilp)⟩]
def zD1:SL:= [⟨.l 1,none, .build [.str [], .nils] []⟩,⟨.l 2,none, .boxH (.l 1)⟩,asL 0 0 2]
def a165:AFunc:=⟨0,[0],[.tmp 0],(sR zD2 (sT zD1)),false⟩
def zvp:SL:= [bxV 1 0,asB 2 2 false]
def zvo:SL:= [fdV 3 2 1,ldN 4 3,lnS 5 true 4,bnI 6 .leq 5 30,mvL 7 6,fdG 8 7 true 3 1,ldG 9 7 true 8,lgS 10 7 true true 9,bgI 11 7 true .leq 10 30,pkF 12 7 11,mvL 13 12,fdG 14 13 true 3 1,ldG 15 13 true 14,⟨.l 16,some (.l 13,true), .call 160 [.pl (.l 15)]⟩,pkF 17 13 16,asL 2 2 17]
def a166:AFunc:=⟨1,[0,1,2],[.tmp 2],(sR zvp (sT zvo)),true⟩
def zoQ:SL:= [asI 6 6 0]
def zoP:SL:= [mvV 11 1,mvV 12 2,clB 13 157 11 12,mvL 10 13,exT 14 0 10,exT 15 1 10,exT 16 2 10,asL 7 7 14,asL 8 8 15,asL 9 9 16]
def zoO:SL:= [mvV 18 9,bnI 19 .neq 18 0,asL 17 17 19]
def zoN:SL:= [mvV 20 9,asL 6 9 20]
def zoM:SL:= [mvV 22 7,lnS 23 false 22,bnI 24 .gtr 23 100,asL 21 21 24]
def zoL:SL:= [asI 6 6 2]
def zoK:SL:= [mvV 25 0,mvV 26 0,mvV 27 1,mvV 28 7,nlC 29 25,fdL 30 0 29,stL 30 27,nlC 31 26,fdL 32 1 31,stL 32 28]
def zoJ:SL:= [asI 6 6 0]
def a167:AFunc:=⟨3,[0,1,2,6,7,8,9,17,21],[.tmp 6],(sR zoQ (sR zoP (.seq (.block 0 (sR zoO (cV 17 (sT zoN) (sR zoM (cV 21 (sT zoL) .skip))))) (sR zoK (sT zoJ))))),false⟩
def zoI:SL:= [asI 8 8 0]
def zoH:SL:= [mvV 10 1,bnI 11 .lss 10 1,mvL 12 11,mgV 13 12 false 1,bgI 14 12 false .gtr 13 100,pvT 15 12 14]
def zoG:SL:= [asI 8 8 90]
def zoF:SL:= [mvV 16 0,mvV 17 1,mvV 18 0,nlC 19 18,fdL 20 1 19,ldN 21 20,lnS 22 false 21,⟨.l 23,none, .maxI (.l 17) (.l 22)⟩,clB 24 187 16 23,asL 9 9 24]
def zoE:SL:= [mvV 25 9,mvV 26 1,bnI 27 .sub 26 1,mvV 28 2,ixL 29 0 25 27,stL 29 28]
def zoD:SL:= [mvV 30 0,mvV 31 9,mvV 32 3,clC 33 188 30 31 32,asL 8 8 33]
def a168:AFunc:=⟨4,[0,1,2,3,8,9,15],[.tmp 8],(sR zoI (.seq (sR zoH (cV 15 (sT zoG) .skip)) (sR zoF (sR zoE (sT zoD))))),false⟩
def zzu:SL:= [asI 2 2 0]
def zzt:SL:= [mvV 3 0,nlC 4 3,fdL 5 1 4,ldN 6 5,lnS 7 false 6,asL 2 2 7]
def a169:AFunc:=⟨1,[0,2],[.tmp 2],(sR zzu (sT zzt)),true⟩
def zk8:SL:= [⟨.v 4,none, .allocL [.int .i64 0, .int .i64 0, .str []]⟩,asI 5 5 0]
def zk7:SL:= [mvV 7 1,bnI 8 .lss 7 0,mvL 9 8,mgV 10 9 false 1,bgI 11 9 false .gtr 10 100,pkT 12 9 11,asL 6 6 12]
def zk6:SL:= [⟨.l 13,none, .build [.int .i64 0, .int .i64 0, .str []] []⟩,stV 3 4 13,asI 5 5 90]
def zk5:SL:= [mvV 15 1,bnI 16 .eql 15 0,asL 14 14 16]
def zk4:SL:= [mvV 17 0,nlC 18 17,fdL 19 0 18,ldN 20 19,clA 21 185 20,stV 3 4 21,asI 5 5 0]
def zk3:SL:= [mvV 23 1,mvV 24 0,nlC 25 24,fdL 26 1 25,ldN 27 26,lnS 28 false 27,bnL 29 .gtr 23 28,asL 22 22 29]
def zk2:SL:= [⟨.l 30,none, .build [.int .i64 0, .int .i64 0, .str []] []⟩,stV 3 4 30,asI 5 5 0]
def zk1:SL:= [mvV 31 0,nlC 32 31,fdL 33 1 32,ldN 34 33,mvV 35 1,bnI 36 .sub 35 1,ixL 37 0 34 36,ldN 38 37,clA 39 185 38,stV 3 4 39,asI 5 5 0]
def a170:AFunc:=⟨2,[0,1,4,5,6,14,22],[.cell 4 (some 3), .tmp 5],(sR zk8 (.seq (.block 0 (sR zk7 (cV 6 (sT zk6) (sR zk5 (cV 14 (sT zk4) (sR zk3 (cV 22 (sT zk2) .skip))))))) (sT zk1))),true⟩
def zzs:SL:= [⟨.v 2,none, .asg 2 (.c (.str []))⟩]
def zzr:SL:= [mvV 3 0,nlC 4 3,fdL 5 0 4,ldN 6 5,asL 2 2 6]
def a172:AFunc:=⟨1,[0,2],[.tmp 2],(sR zzs (sT zzr)),true⟩
def zD0:SL:= [⟨.v 4,none, .asg 4 (.c (.str []))⟩]
def zDZ:SL:= [⟨.v 5,none, .asg 5 (.c (.str []))⟩]
def zDY:SL:= [asI 6 6 0]
def zvn:SL:= [mvV 7 6,mvV 8 0,lnS 9 false 8,bvL 10 .lss 7 9]
def zvm:SL:= [mvV 13 6,bvI 14 .gtr 13 0]
def zvl:SL:= [mvV 15 5,mvV 16 1,bnL 17 .add 15 16,asL 5 5 17]
def zvk:SL:= [mvV 18 5,mvV 19 0,mvV 20 6,ixL 21 0 19 20,ldN 22 21,bnL 23 .add 18 22,asL 5 5 23]
def zvj:SL:= [mvV 11 6,bnI 12 .add 11 1,asL 6 6 12]
def a171l8:ACode:=(.seq (sR zvn (cV 10 .skip (.exit 0))) (.seq (.block 1 (.seq (sR zvm (cV 14 (.region zvl) .skip)) (.region zvk))) (.region zvj)))
def zDX:SL:= [mvV 24 5,asL 4 5 24]
def a171:AFunc:=⟨2,[0,1,4,5,6,10,14],[.tmp 4],(sR zD0 (sR zDZ (.seq (sR zDY (bL 0 a171l8)) (sT zDX)))),true⟩
def zzK:SL:= [⟨.v 2,none, .allocL [.int .i64 0, .int .u64 0, .int .u64 0, .int .u64 0, .int .u64 0, .int .i64 0, .int .i64 0, .nils]⟩,asI 3 3 0,asI 4 4 0]
def zzJ:SL:= [mvV 9 0,clA 10 44 9,mvL 8 10,exT 11 0 8,exT 12 1 8,exT 13 2 8,⟨.v 5,none, .allocL [.int .i64 0, .int .u64 0, .int .u64 0, .int .u64 0, .int .u64 0, .int .i64 0, .int .i64 0, .nils]⟩,stV 8 5 11,asL 6 6 12,asL 7 7 13]
def zzI:SL:= [mvV 14 7,bnI 15 .eql 14 0,mvL 16 15,⟨.l 17,some (.l 16,true), .load (some 8) (.v 5)⟩,⟨.l 18,some (.l 16,true), .call 45 [.pl (.l 17)]⟩,bgI 19 16 true .eql 18 0,pvF 20 16 19]
def zzH:SL:= [⟨.l 21,none, .build [.int .i64 0, .int .u64 0, .int .u64 0, .int .u64 0, .int .u64 0, .int .i64 0, .int .i64 0, .nils] []⟩,stV 8 2 21,asI 3 3 0,asI 4 4 1]
def zzG:SL:= [mvV 22 7,bnI 23 .eql 22 0,mvL 24 23,⟨.l 25,some (.l 24,true), .load (some 8) (.v 5)⟩,⟨.l 26,some (.l 24,true), .call 45 [.pl (.l 25)]⟩,bgI 27 24 true .gtr 26 500,pvF 28 24 27]
def zzF:SL:= [⟨.l 29,none, .build [.int .i64 0, .int .u64 0, .int .u64 0, .int .u64 0, .int .u64 0, .int .i64 0, .int .i64 0, .nils] []⟩,stV 8 2 29,asI 3 3 0,asI 4 4 2]
def zzE:SL:= [ldV 30 8 5,mvV 31 6,mvV 32 7,stV 8 2 30,asL 3 6 31,asL 4 7 32]
def a14:AFunc:=⟨1,[0,2,3,4,5,6,7,20,28],[.cell 2 (some 8), .tmp 3, .tmp 4],(sR zzK (sR zzJ (.seq (sR zzI (cV 20 (sT zzH) .skip)) (.seq (sR zzG (cV 28 (sT zzF) .skip)) (sT zzE))))),true⟩
def zCX:SL:= [bxV 1 0,asB 2 2 false]
def zCW:SL:= [ldV 3 8 1,clA 4 63 3,mvL 5 4,⟨.l 6,some (.l 5,true), .load (some 8) (.v 1)⟩,⟨.l 7,some (.l 5,true), .call 45 [.pl (.l 6)]⟩,bgI 8 5 true .leq 7 300,pkF 9 5 8,asL 2 2 9]
def a38:AFunc:=⟨1,[0,1,2],[.tmp 2],(sR zCX (sT zCW)),true⟩
def zAc:SL:= [⟨.v 2,none, .asg 2 (.c .nilp)⟩,asI 3 3 0,asI 4 4 0]
def zAb:SL:= [mvV 10 0,clA 11 41 10,mvL 9 11,exT 12 0 9,exT 13 1 9,exT 14 2 9,⟨.v 5,none, .allocL [.int .i64 0, .int .u64 0, .int .u64 0, .int .u64 0, .int .u64 0, .int .i64 0, .int .i64 0, .nils]⟩,stV 8 5 12,asL 6 6 13,asL 7 7 14]
def zAa:SL:= [mvV 15 7,bvI 16 .neq 15 0]
def zz9:SL:= [mvV 17 6,mvV 18 7,⟨.v 2,none, .asg 2 (.c .nilp)⟩,asL 3 6 17,asL 4 7 18]
def zC6:SL:= [ldV 20 8 5,clA 21 34 20,mvL 19 21,exT 22 0 19,exT 23 1 19,asL 8 8 22,asL 7 7 23]
def zC5:SL:= [mvV 24 7,bvI 25 .neq 24 0]
def zC4:SL:= [mvV 26 7,⟨.v 2,none, .asg 2 (.c .nilp)⟩,asI 3 3 0,asL 4 7 26]
def zLc:SL:= [mvV 27 0,mvV 28 8,ldV 29 8 5,clA 30 42 29,⟨.l 31,none, .build [.str [], .nilp, .int .i64 0] [(0,1,(.l 27)),(1,1,(.l 28)),(2,1,(.l 30))]⟩,⟨.l 32,none, .boxH (.l 31)⟩,asL 2 2 32,asI 3 3 0,asI 4 4 0]
def a10:AFunc:=⟨1,[0,2,3,4,5,6,7,8,16,25],[.tmp 2, .tmp 3, .tmp 4],(sR zAc (sR zAb (.seq (sR zAa (cV 16 (sT zz9) .skip)) (sR zC6 (.seq (sR zC5 (cV 25 (sT zC4) .skip)) (sT zLc)))))),false⟩
def zDW:SL:= [⟨.v 2,none, .asg 2 (.c .nils)⟩]
def zDV:SL:= [mvV 3 0,⟨.l 4,none, .call 191 [.pl (.l 3), .pl (.c (.fn 190 []))]⟩,asL 2 2 4]
def a180:AFunc:=⟨1,[0,2],[.tmp 2],(sR zDW (sT zDV)),true⟩
def zvw:SL:= [⟨.v 4,none, .asg 4 (.c .nils)⟩]
def zvv:SL:= [mvV 9 1,⟨.v 10,none, .bin .eql (.l 9) (.c (.str []))⟩]
def zvu:SL:= [⟨.v 4,none, .asg 4 (.c .nils)⟩]
def zzD:SL:= [⟨.v 5,none, .asg 5 (.c .nils)⟩]
def zzC:SL:= [asI 6 6 0]
def zzB:SL:= [mvV 11 0,⟨.v 12,none, .eq true 1 (.l 11) (.c .nilp)⟩]
def zzA:SL:= [mvV 13 0,mvV 14 1,⟨.v 15,none, .call 11 [.pl (.l 13), .pl (.l 14)]⟩,⟨.v 16,none, .len false (.v 15)⟩,asI 17 17 0]
def zoR:SL:= [⟨.v 18,none, .bin .lss (.v 17) (.v 16)⟩]
def zvt:SL:= [⟨.l 19,none, .iaddr 2 (.v 15) (.v 17)⟩,ldL 20 2 19,⟨.v 8,none, .allocL [.int .i64 0, .int .i64 0]⟩,stV 2 8 20]
def zvs:SL:= [⟨.l 21,none, .aaddr 2 0 (.v 8) (.c (.int .i64 0))⟩,ldN 22 21,⟨.l 23,none, .aaddr 2 0 (.v 8) (.c (.int .i64 1))⟩,ldN 24 23,bvL 25 .lss 22 24]
def zqj:SL:= [mvV 26 5,mvV 27 1,mvV 28 6,⟨.l 29,none, .aaddr 2 0 (.v 8) (.c (.int .i64 0))⟩,ldN 30 29,⟨.l 31,none, .slice none (.l 27) (some (.l 28)) (some (.l 30))⟩,⟨.l 32,none, .bslice false (.str []) 1 [(0,(.l 31))]⟩,apL 33 0 26 32,asL 5 5 33]
def zqi:SL:= [⟨.l 34,none, .aaddr 2 0 (.v 8) (.c (.int .i64 1))⟩,ldN 35 34,asL 6 6 35]
def zqh:SL:= [bxI 36 .add 17 1,asL 17 17 36]
def a153l13:ACode:=(sR zoR (.seq (cV 18 .skip (.exit 0)) (.seq (.block 1 (sR zvt (sR zvs (cV 25 (sR zqj (.region zqi)) .skip)))) (.region zqh))))
def zqg:SL:= [mvV 37 5,mvV 38 1,mvV 39 6,⟨.l 40,none, .slice none (.l 38) (some (.l 39)) none⟩,⟨.l 41,none, .bslice false (.str []) 1 [(0,(.l 40))]⟩,apL 42 0 37 41,asL 4 4 42]
def a153:AFunc:=⟨2,[0,1,4,5,6,8,10,12,15,16,17,18,25],[.tmp 4],(sR zvw (.seq (sR zvv (cV 10 (sT zvu) .skip)) (sR zzD (sR zzC (.seq (sR zzB (cV 12 (sR zzA (bL 0 a153l13)) .skip)) (sT zqg)))))),true⟩
def zGy:SL:= [⟨.v 4,none, .asg 4 (.c (.str []))⟩,⟨.v 5,none, .asg 5 (.c (.str []))⟩,asB 6 6 false]
def zGx:SL:= [mvV 7 0,mvV 8 1,clB 9 104 7 8,exT 10 0 9,exT 11 1 9,exT 12 2 9,asL 4 4 10,asL 5 5 11,asL 6 6 12]
def a95:AFunc:=⟨2,[0,1,4,5,6],[.tmp 4, .tmp 5, .tmp 6],(sR zGy (sT zGx)),true⟩
def zzq:SL:= [asI 6 6 0]
def zzp:SL:= [mvV 8 1,mvV 9 2,clB 10 194 8 9,asL 7 7 10]
def zzo:SL:= [mvV 11 7,lnS 12 true 11,bvI 13 .gtr 12 65536]
def zzn:SL:= [asI 6 6 2]
def zzm:SL:= [mvV 14 0,mvV 15 0,mvV 16 7,mvV 17 1,nlC 18 14,fdL 19 0 18,stL 19 16,nlC 20 15,fdL 21 1 20,stL 21 17]
def zzl:SL:= [asI 6 6 0]
def a188:AFunc:=⟨3,[0,1,2,6,7,13],[.tmp 6],(sR zzq (sR zzp (.seq (sR zzo (cV 13 (sT zzn) .skip)) (sR zzm (sT zzl))))),false⟩
def zDU:SL:= [⟨.v 2,none, .allocL [.int .i64 0, .int .i64 0, .str []]⟩]
def zDT:SL:= [mvV 3 0,clA 4 195 3,stV 3 2 4]
def a185:AFunc:=⟨1,[0,2],[.cell 2 (some 3)],(sR zDU (sT zDT)),true⟩
def zCQ:SL:= [⟨.v 2,none, .allocL [.int .i64 0, .int .u64 0, .int .u64 0, .int .u64 0, .int .u64 0, .int .i64 0, .int .i64 0, .nils]⟩,asI 3 3 0,asI 4 4 0]
def zCP:SL:= [mvV 7 0,lnS 8 true 7,bvI 9 .gtr 8 400]
def zCO:SL:= [⟨.l 10,none, .build [.int .i64 0, .int .u64 0, .int .u64 0, .int .u64 0, .int .u64 0, .int .i64 0, .int .i64 0, .nils] []⟩,stV 8 2 10,asI 3 3 0,asI 4 4 2]
def zG7:SL:= [mvV 11 0,⟨.l 12,none, .build [.str [], .int .i64 0, .int .i64 0, .int .i64 0] [(0,1,(.l 11))]⟩,⟨.l 13,none, .boxH (.l 12)⟩,asL 5 5 13]
def zG6:SL:= [mvV 14 5,⟨.l 15,none, .call 69 [.pl (.l 14), .pl (.c (.int .i64 0))]⟩,⟨.v 6,none, .allocL [.int .i64 0, .int .u64 0, .int .u64 0, .int .u64 0, .int .u64 0, .int .i64 0, .int .i64 0, .nils]⟩,stV 8 6 15]
def zG5:SL:= [mvV 16 5,nlC 17 16,fdL 18 3 17,ldN 19 18,bvI 20 .neq 19 0]
def zG8:Plan:=(.seq 0 ⟨.l 21,none, .build [.int .i64 0, .int .u64 0, .int .u64 0, .int .u64 0, .int .u64 0, .int .i64 0, .int .i64 0, .nils] []⟩ (.seq 1 (mvV 22 5) (.seq 2 (nlC 23 22) (.seq 3 (fdL 24 2 23) (.seq 5 (mvV 26 5) (.seq 6 (nlC 27 26) (.seq 7 (fdL 28 3 27) (.alt 4 (ldN 25 24) (.alt 8 (ldN 29 28) (.one 9 (stV 8 2 21) (.seq 10 (asL 3 3 25) (.seq 11 (asL 4 4 29) .fin))) (.one 9 (stV 8 2 21) (.seq 8 (ldN 29 28) (.seq 10 (asL 3 3 25) (.seq 11 (asL 4 4 29) .fin))))) (.alt 8 (ldN 29 28) (.alt 4 (ldN 25 24) (.one 9 (stV 8 2 21) (.seq 10 (asL 3 3 25) (.seq 11 (asL 4 4 29) .fin))) (.one 9 (stV 8 2 21) (.seq 4 (ldN 25 24) (.seq 10 (asL 3 3 25) (.seq 11 (asL 4 4 29) .fin))))) (.one 9 (stV 8 2 21) (.seq 4 (ldN 25 24) (.seq 8 (ldN 29 28) (.seq 10 (asL 3 3 25) (.seq 11 (asL 4 4 29) .fin))))))))))))))
def zG4:SL:= [ldV 30 8 6,stV 8 2 30,asI 3 3 0,asI 4 4 0]
def a44:AFunc:=⟨1,[0,2,3,4,5,6,9,20],[.cell 2 (some 8), .tmp 3, .tmp 4],(sR zCQ (.seq (sR zCP (cV 9 (sT zCO) .skip)) (sR zG7 (sR zG6 (.seq (sR zG5 (cV 20 (.seq (.draw zG8) .ret) .skip)) (sT zG4)))))),true⟩
def zCN:SL:= [bxV 1 0,asI 2 2 0]
def zCM:SL:= [ldV 4 8 1,⟨.l 5,none, .call 70 [.pl (.l 4), .pl (.c (.int .i64 (-1))), .pl (.c (.int .i64 1))]⟩,⟨.v 6,none, .un .not (.l 5)⟩]
def zCL:SL:= [asI 2 2 0]
def zCK:SL:= [ldV 7 8 1,clA 8 71 7,asL 3 3 8]
def zCJ:SL:= [mvV 9 3,bvI 10 .gtr 9 500]
def zCI:SL:= [asI 3 3 500]
def zCH:SL:= [mvV 11 3,bnI 12 .add 11 1,asL 2 2 12]
def a45:AFunc:=⟨1,[0,1,2,3,6,10],[.tmp 2],(sR zCN (.seq (sR zCM (cV 6 (sT zCL) .skip)) (sR zCK (.seq (sR zCJ (cV 10 (.region zCI) .skip)) (sT zCH))))),true⟩
def zKK:SL:= [bxV 1 0,asB 2 2 false]
def zKJ:SL:= [ldV 3 8 1,⟨.l 4,none, .call 85 [.pl (.l 3), .pl (.c (.int .i64 150)), .pl (.c (.int .i64 400))]⟩,bnI 5 .leq 4 400,asL 2 2 5]
def a63:AFunc:=⟨1,[0,1,2],[.tmp 2],(sR zKK (sT zKJ)),true⟩
def zC3:SL:= [bxV 1 0,⟨.v 2,none, .asg 2 (.c .nilp)⟩,asI 3 3 0]
def zC2:SL:= [ldV 6 8 1,clA 7 57 6,asL 4 4 7]
def zC1:SL:= [mvV 9 4,bnI 10 .eql 9 0,asL 8 8 10]
def zC0:SL:= [⟨.v 2,none, .asg 2 (.c .nilp)⟩,asI 3 3 1]
def zCZ:SL:= [mvV 12 4,bnI 13 .gtr 12 500,asL 11 11 13]
def zCY:SL:= [⟨.v 2,none, .asg 2 (.c .nilp)⟩,asI 3 3 2]
def zK5:SL:= [⟨.l 14,none, .build [.nils, .int .i64 0] []⟩,⟨.l 15,none, .boxH (.l 14)⟩,asL 5 5 15]
def zK6:Plan:=(.seq 0 (mvV 16 5) (.seq 1 (mvV 17 5) (.seq 3 (mvV 19 5) (.seq 4 ⟨.l 20,none, .build [.int .i64 0, .int .u64 0, .int .u64 0, .int .u64 0, .int .u64 0, .int .i64 0, .int .i64 0] [(0,1,(.c (.int .i64 4)))]⟩ (.alt 2 (ldV 18 8 1) (.one 5 (clB 21 58 19 20) (.one 6 (clC 22 59 17 18 21) (.seq 7 (nlC 23 16) (.seq 8 (fdL 24 1 23) (.one 9 (stL 24 22) .fin))))) (.one 5 (clB 21 58 19 20) (.seq 2 (ldV 18 8 1) (.one 6 (clC 22 59 17 18 21) (.seq 7 (nlC 23 16) (.seq 8 (fdL 24 1 23) (.one 9 (stL 24 22) .fin)))))))))))
def zK4:SL:= [mvV 25 5,asL 2 5 25,asI 3 3 0]
def a34:AFunc:=⟨1,[0,1,2,3,4,5,8,11],[.tmp 2, .tmp 3],(sR zC3 (sR zC2 (.seq (.block 0 (sR zC1 (cV 8 (sT zC0) (sR zCZ (cV 11 (sT zCY) .skip))))) (sR zK5 (.seq (.draw zK6) (sT zK4)))))),false⟩
def zKW:SL:= [bxV 1 0,asI 2 2 0]
def zKV:SL:= [ldV 3 8 1,⟨.l 4,none, .call 65 [.pl (.l 3), .pl (.c (.int .i64 (-1))), .pl (.c (.int .i64 1))]⟩,⟨.v 5,none, .un .not (.l 4)⟩]
def zKU:SL:= [asI 2 2 0]
def zKT:SL:= [ldV 6 8 1,clA 7 66 6,asL 2 2 7]
def a42:AFunc:=⟨1,[0,1,2,5],[.tmp 2],(sR zKW (.seq (sR zKV (cV 5 (sT zKU) .skip)) (sT zKT))),true⟩
def zAx:SL:= [⟨.v 4,none, .asg 4 (.c (.str []))⟩,⟨.v 5,none, .asg 5 (.c (.str []))⟩,asB 6 6 false]
def zAw:SL:= [mvV 8 0,mvV 9 1,clB 10 112 8 9,asL 7 7 10]
def zAv:SL:= [mvV 11 7,bvI 12 .geq 11 0]
def zAy:Plan:=(.seq 0 (mvV 13 0) (.seq 1 (mvV 14 7) (.seq 2 ⟨.l 15,none, .slice none (.l 13) none (some (.l 14))⟩ (.seq 3 (mvV 16 0) (.seq 4 (mvV 17 7) (.seq 5 (mvV 18 1) (.seq 6 (lnS 19 true 18) (.seq 7 (bnL 20 .add 17 19) (.seq 8 ⟨.l 21,none, .slice none (.l 16) (some (.l 20)) none⟩ (.seq 9 (asL 4 4 15) (.seq 10 (asL 5 5 21) (.seq 11 (asB 6 6 true) .fin))))))))))))
def zAu:SL:= [mvV 22 0,asL 4 0 22,⟨.v 5,none, .asg 5 (.c (.str []))⟩,asB 6 6 false]
def a104:AFunc:=⟨2,[0,1,4,5,6,7,12],[.tmp 4, .tmp 5, .tmp 6],(sR zAx (.seq (sR zAw (sR zAv (cV 12 (.seq (.draw zAy) .ret) .skip))) (sT zAu))),true⟩
def zDS:SL:= [⟨.v 4,none, .asg 4 (.c (.str []))⟩]
def zDR:SL:= [mvV 5 0,mvV 6 1,clB 7 202 5 6,asL 4 4 7]
def a194:AFunc:=⟨2,[0,1,4],[.tmp 4],(sR zDS (sT zDR)),true⟩
def zr0:SL:= [⟨.v 2,none, .allocL [.int .i64 0, .int .i64 0, .str []]⟩]
def zrZ:SL:= [mvV 7 0,clA 8 203 7,asL 3 3 8]
def zrY:SL:= [mvV 10 3,clA 11 204 10,mvL 9 11,exT 12 0 9,exT 13 1 9,exT 14 2 9,asL 4 4 12,asL 5 5 13,asL 6 6 14]
def zrX:SL:= [mvV 15 3,⟨.l 16,none, .bin .eql (.l 15) (.c (.str []))⟩,mvL 17 16,mgV 18 17 false 5,mgV 19 17 false 3,lgS 20 17 false true 19,bgL 21 17 false .neq 18 20,pkT 22 17 21,mvL 23 22,mgV 24 23 false 6,bgI 25 23 false .neq 24 0,pvT 26 23 25]
def zrW:SL:= [mvV 27 0,⟨.l 28,none, .build [.int .i64 0, .int .i64 0, .str []] [(0,1,(.c (.int .i64 2))),(2,1,(.l 27))]⟩,stV 3 2 28]
def zrV:SL:= [mvV 29 4,mvV 30 0,⟨.l 31,none, .build [.int .i64 0, .int .i64 0, .str []] [(0,1,(.c (.int .i64 3))),(1,1,(.l 29)),(2,1,(.l 30))]⟩,stV 3 2 31]
def a195:AFunc:=⟨1,[0,2,3,4,5,6,26],[.cell 2 (some 3)],(sR zr0 (sR zrZ (sR zrY (.seq (sR zrX (cV 26 (sT zrW) .skip)) (sT zrV))))),true⟩
def zGZ:SL:= [⟨.v 4,none, .allocL [.int .i64 0, .int .u64 0, .int .u64 0, .int .u64 0, .int .u64 0, .int .i64 0, .int .i64 0, .nils]⟩]
def zGY:SL:= [mvV 7 0,mvV 8 1,clB 9 92 7 8,⟨.l 10,none, .bslice false (.agg [.int .i64 0, .int .u64 0, .int .u64 0, .int .u64 0, .int .u64 0, .int .i64 0, .int .i64 0, .nils]) 1 [(0,(.l 9))]⟩,asL 5 5 10]
def zy8:SL:= [mvV 11 0,clA 12 93 11,bvI 13 .eql 12 124]
def zGX:SL:= [mvV 14 0,nlC 15 14,fdL 16 1 15,ldN 17 16,bnI 18 .add 17 1,nlC 19 14,fdL 20 1 19,stL 20 18]
def zGW:SL:= [mvV 21 0,mvV 22 1,clB 23 92 21 22,⟨.v 6,none, .allocL [.int .i64 0, .int .u64 0, .int .u64 0, .int .u64 0, .int .u64 0, .int .i64 0, .int .i64 0, .nils]⟩,stV 8 6 23]
def zGV:SL:= [mvV 24 5,ldV 25 8 6,⟨.l 26,none, .bslice false (.agg [.int .i64 0, .int .u64 0, .int .u64 0, .int .u64 0, .int .u64 0, .int .i64 0, .int .i64 0, .nils]) 1 [(0,(.l 25))]⟩,apL 27 8 24 26,asL 5 5 27]
def a69l6:ACode:=(.seq (sR zy8 (cV 13 .skip (.exit 0))) (.block 1 (sR zGX (sR zGW (.region zGV)))))
def zGU:SL:= [mvV 28 5,⟨.l 29,none, .call 3 [.pl (.c (.int .i64 5)), .pl (.l 28)]⟩,stV 8 4 29]
def a69:AFunc:=⟨2,[0,1,4,5,6,13],[.cell 4 (some 8)],(sR zGZ (sR zGY (.seq (bL 0 a69l6) (sT zGU)))),false⟩
def zKG:SL:= [bxV 3 0,asB 6 6 false]
def zKF:SL:= [fdV 9 0 3,ldN 10 9,asL 7 7 10]
def zh7:SL:= [mvV 11 2,bnI 12 .gtr 11 100,mvL 13 12,mgV 14 13 false 7,bgI 15 13 false .lss 14 0,pkT 16 13 15,mvL 17 16,mgV 18 17 false 7,bgI 19 17 false .gtr 18 6,pkT 20 17 19,mvL 21 20,mgV 22 21 false 7,bgI 23 21 false .neq 22 1,mgL 24 21 false 23,fdG 25 24 true 1 3,⟨.l 26,some (.l 24,true), .load (some 4) (.l 25)⟩,⟨.l 27,some (.l 24,true), .build [.int .u64 0, .int .u64 0, .int .u64 0, .int .u64 0] []⟩,⟨.l 28,some (.l 24,true), .eqG true (List.replicate 4 1) (.l 26) (.l 27)⟩,pgF 29 21 false 24 28,pkT 30 21 29,mvL 31 30,mgV 32 31 false 7,bgI 33 31 false .neq 32 6,mgL 34 31 false 33,fdG 35 34 true 5 3,ldG 36 34 true 35,bgI 37 34 true .neq 36 0,mgL 38 34 true 37,fdG 39 38 false 6 3,ldG 40 38 false 39,bgI 41 38 false .neq 40 0,pgT 42 34 true 38 41,pgF 43 31 false 34 42,pkT 44 31 43,mvL 45 44,mgV 46 45 false 7,bgI 47 45 false .lss 46 4,mgL 48 45 false 47,fdG 49 48 true 7 3,ldG 50 48 true 49,lgS 51 48 true false 50,bgI 52 48 true .gtr 51 0,pgF 53 45 false 48 52,pvT 54 45 53]
def zKE:SL:= [asB 6 6 false]
def zpR:SL:= [mvV 55 7,bnI 56 .eql 55 0,mvL 57 56,mgV 58 57 true 1,bgI 59 57 true .eql 58 4,pkF 60 57 59,mvL 61 60,mgV 62 61 false 7,bgI 63 61 false .eql 62 4,mgL 64 61 false 63,mgV 65 64 false 7,bgI 66 64 false .eql 65 5,pgT 67 61 false 64 66,mgL 68 61 false 67,mgV 69 68 true 7,mgV 70 68 true 1,bgL 71 68 true .eql 69 70,mgL 72 68 true 71,fdG 73 72 false 7 3,ldG 74 72 false 73,lgS 75 72 false false 74,bgI 76 72 false .lss 75 2,pgT 77 68 true 72 76,pgF 78 61 false 68 77,pvT 79 61 78]
def zKD:SL:= [asB 6 6 false]
def zmI:SL:= [mvV 80 7,bnI 81 .eql 80 6,mvL 82 81,fdG 83 82 true 7 3,ldG 84 82 true 83,lgS 85 82 true false 84,bgI 86 82 true .neq 85 1,mgL 87 82 true 86,fdG 88 87 false 5 3,ldG 89 87 false 88,bgI 90 87 false .lss 89 0,pgT 91 82 true 87 90,mgL 92 82 true 91,fdG 93 92 false 5 3,ldG 94 92 false 93,bgI 95 92 false .gtr 94 50,pgT 96 82 true 92 95,mgL 97 82 true 96,fdG 98 97 false 6 3,ldG 99 97 false 98,bgI 100 97 false .gtr 99 50,pgT 101 82 true 97 100,mgL 102 82 true 101,fdG 103 102 false 6 3,ldG 104 102 false 103,fdG 105 102 false 5 3,ldG 106 102 false 105,bgL 107 102 false .lss 104 106,mgL 108 102 false 107,fdG 109 108 true 6 3,ldG 110 108 true 109,bgI 111 108 true .neq 110 (-1),pgF 112 102 false 108 111,pgT 113 82 true 102 112,pvF 114 82 113]
def zKC:SL:= [asB 6 6 false]
def zKB:SL:= [asI 8 8 0]
def zCA:SL:= [mvV 115 8,fdV 116 7 3,ldN 117 116,lnS 118 false 117,bvL 119 .lss 115 118]
def zy7:SL:= [fdV 122 7 3,ldN 123 122,mvV 124 8,ixL 125 8 123 124,ldL 126 8 125,mvV 127 7,mvV 128 2,bnI 129 .add 128 1,clC 130 70 126 127 129,⟨.v 131,none, .un .not (.l 130)⟩]
def zy6:SL:= [asB 6 6 false]
def zy5:SL:= [mvV 120 8,bnI 121 .add 120 1,asL 8 8 121]
def a70l13:ACode:=(.seq (sR zCA (cV 119 .skip (.exit 0))) (.seq (.block 1 (sR zy7 (cV 131 (sT zy6) .skip))) (.region zy5)))
def zDF:SL:= [asB 6 6 true]
def a70:AFunc:=⟨3,[0,1,2,3,6,7,8,54,79,114,119,131],[.tmp 6],(sR zKG (sR zKF (.seq (sR zh7 (cV 54 (sT zKE) .skip)) (.seq (sR zpR (cV 79 (sT zKD) .skip)) (.seq (sR zmI (cV 114 (sT zKC) .skip)) (.seq (sR zKB (bL 0 a70l13)) (sT zDF))))))),true⟩
def zy4:SL:= [bxV 1 0,asI 2 2 0]
def zy3:SL:= [fdV 5 0 1,ldN 6 5,bnI 7 .geq 6 1,mvL 8 7,fdG 9 8 true 0 1,ldG 10 8 true 9,bgI 11 8 true .leq 10 3,pvF 12 8 11]
def zy2:SL:= [asI 2 2 1]
def zKA:SL:= [asI 3 3 0]
def zKz:SL:= [asI 4 4 0]
def zCz:SL:= [mvV 13 4,fdV 14 7 1,ldN 15 14,lnS 16 false 15,bvL 17 .lss 13 16]
def zGT:SL:= [mvV 20 3,fdV 21 7 1,ldN 22 21,mvV 23 4,ixL 24 8 22 23,ldL 25 8 24,clA 26 71 25,bnL 27 .add 20 26,asL 3 3 27]
def zGS:SL:= [mvV 28 3,bvI 29 .gtr 28 500]
def zGR:SL:= [asI 2 2 1000]
def zGQ:SL:= [mvV 18 4,bnI 19 .add 18 1,asL 4 4 19]
def a71l10:ACode:=(.seq (sR zCz (cV 17 .skip (.exit 0))) (.seq (.block 1 (sR zGT (sR zGS (cV 29 (sT zGR) .skip)))) (.region zGQ)))
def zrK:SL:= [fdV 30 0 1,ldN 31 30,bvI 32 .eql 31 5]
def zrJ:SL:= [mvV 33 3,fdV 34 7 1,ldN 35 34,lnS 36 false 35,bnL 37 .add 33 36,bnI 38 .sub 37 1,asL 3 3 38]
def zrI:SL:= [fdV 39 0 1,ldN 40 39,bnI 41 .eql 40 6,mvL 42 41,fdG 43 42 true 6 1,ldG 44 42 true 43,bgI 45 42 true .lss 44 0,pvF 46 42 45]
def zrH:SL:= [fdV 47 5 1,ldN 48 47,mvV 49 3,bnL 50 .mul 48 49,mvV 51 3,bnL 52 .add 50 51,bnI 53 .add 52 1,asL 3 3 53]
def zrG:SL:= [fdV 54 0 1,ldN 55 54,bvI 56 .eql 55 6]
def zrF:SL:= [fdV 57 5 1,ldN 58 57,mvV 59 3,bnL 60 .mul 58 59,fdV 61 6 1,ldN 62 61,fdV 63 5 1,ldN 64 63,bnL 65 .sub 62 64,mvV 66 3,bnI 67 .add 66 1,bnL 68 .mul 65 67,bnL 69 .add 60 68,asL 3 3 69]
def zvh:SL:= [mvV 70 3,bvI 71 .gtr 70 500]
def zvg:SL:= [asI 2 2 1000]
def zvf:SL:= [mvV 72 3,asL 2 3 72]
def a71:AFunc:=⟨1,[0,1,2,3,4,12,17,29,32,46,56,71],[.tmp 2],(sR zy4 (.seq (sR zy3 (cV 12 (sT zy2) .skip)) (sR zKA (.seq (sR zKz (bL 0 a71l10)) (.seq (sR zrK (cV 32 (.region zrJ) .skip)) (.seq (sR zrI (cV 46 (.region zrH) (sR zrG (cV 56 (.region zrF) .skip)))) (.seq (sR zvh (cV 71 (sT zvg) .skip)) (sT zvf)))))))),true⟩
def zKu:SL:= [bxV 3 0,asI 6 6 0]
def zKt:SL:= [asI 7 7 1]
def zKs:SL:= [asI 8 8 0]
def zy1:SL:= [mvV 9 8,fdV 10 7 3,ldN 11 10,lnS 12 false 11,bnL 13 .lss 9 12,mvL 14 13,mgV 15 14 true 7,mgV 16 14 true 2,bgL 17 14 true .leq 15 16,pkF 18 14 17,mvL 19 18,mgV 20 19 true 1,bgI 21 19 true .gtr 20 0,pvF 22 19 21]
def zCx:SL:= [mvV 25 7,fdV 26 7 3,ldN 27 26,mvV 28 8,ixL 29 8 27 28,ldL 30 8 29,mvV 31 1,bnI 32 .sub 31 1,mvV 33 2,mvV 34 7,bnL 35 .sub 33 34,clC 36 85 30 32 35,bnL 37 .add 25 36,asL 7 7 37]
def zCw:SL:= [mvV 23 8,bnI 24 .add 23 1,asL 8 8 24]
def a85l6:ACode:=(.seq (sR zy1 (cV 22 .skip (.exit 0))) (.seq (.block 1 (.region zCx)) (.region zCw)))
def zGH:SL:= [mvV 38 1,bvI 39 .leq 38 0]
def zGG:SL:= [mvV 40 2,bnI 41 .add 40 1,asL 6 6 41]
def zGF:SL:= [mvV 42 7,asL 6 7 42]
def a85:AFunc:=⟨3,[0,1,2,3,6,7,8,22,39],[.tmp 6],(sR zKu (sR zKt (.seq (sR zKs (bL 0 a85l6)) (.seq (sR zGH (cV 39 (sT zGG) .skip)) (sT zGF))))),true⟩
def zGE:SL:= [⟨.v 4,none, .allocL [.int .i64 0, .int .u64 0, .int .u64 0, .int .u64 0, .int .u64 0, .int .i64 0, .int .i64 0, .nils]⟩]
def zGD:SL:= [mvV 6 0,mvV 7 1,clB 8 87 6 7,⟨.l 9,none, .bslice false (.agg [.int .i64 0, .int .u64 0, .int .u64 0, .int .u64 0, .int .u64 0, .int .i64 0, .int .i64 0, .nils]) 1 [(0,(.l 8))]⟩,asL 5 5 9]
def zCv:SL:= [mvV 10 0,⟨.v 11,none, .call 88 [.pl (.l 10), .pl (.c (.int .u8 124))]⟩]
def zGC:SL:= [mvV 12 5,mvV 13 0,mvV 14 1,clB 15 87 13 14,⟨.l 16,none, .bslice false (.agg [.int .i64 0, .int .u64 0, .int .u64 0, .int .u64 0, .int .u64 0, .int .i64 0, .int .i64 0, .nils]) 1 [(0,(.l 15))]⟩,apL 17 8 12 16,asL 5 5 17]
def a86l4:ACode:=(.seq (sR zCv (cV 11 .skip (.exit 0))) (.block 1 (.region zGC)))
def zKr:SL:= [mvV 18 5,⟨.l 19,none, .call 89 [.pl (.c (.int .i64 5)), .pl (.l 18)]⟩,stV 8 4 19]
def a86:AFunc:=⟨2,[0,1,4,5,11],[.cell 4 (some 8)],(sR zGE (sR zGD (.seq (bL 0 a86l4) (sT zKr)))),false⟩
def zCG:SL:= [bxV 1 0,asI 2 2 0]
def zCF:SL:= [ldV 3 8 1,clA 4 81 3,⟨.v 5,none, .un .not (.l 4)⟩]
def zCE:SL:= [asI 2 2 0]
def zCD:SL:= [ldV 6 8 1,clA 7 82 6,⟨.l 8,none, .minI (.l 7) (.c (.int .i64 500))⟩,bnI 9 .add 8 1,asL 2 2 9]
def a57:AFunc:=⟨1,[0,1,2,5],[.tmp 2],(sR zCG (.seq (sR zCF (cV 5 (sT zCE) .skip)) (sT zCD))),true⟩
def zly:SL:= [bxV 4 1,asI 6 6 0]
def zlx:SL:= [fdV 10 0 4,⟨.v 11,none, .load none (.l 10)⟩]
def zlw:SL:= [bxI 13 .eql 11 1,asL 12 12 13]
def zlv:SL:= [mvV 14 0,fdV 15 1 4,ldL 16 4 15,mvV 17 2,⟨.l 18,none, .build [.int .i64 0, .int .u64 0, .int .u64 0, .int .u64 0, .int .u64 0, .int .i64 0, .int .i64 0] [(0,1,(.c (.int .i64 0))),(1,4,(.l 16)),(5,1,(.l 17))]⟩,clB 19 58 14 18,asL 6 6 19]
def zlu:SL:= [bxI 21 .eql 11 2,asL 20 20 21]
def zlt:SL:= [mvV 22 0,mvV 23 2,⟨.l 24,none, .build [.int .i64 0, .int .u64 0, .int .u64 0, .int .u64 0, .int .u64 0, .int .i64 0, .int .i64 0] [(0,1,(.c (.int .i64 1))),(5,1,(.l 23))]⟩,clB 25 58 22 24,asL 6 6 25]
def zls:SL:= [bxI 27 .eql 11 3,asL 26 26 27]
def zlr:SL:= [mvV 28 0,mvV 29 2,⟨.l 30,none, .build [.int .i64 0, .int .u64 0, .int .u64 0, .int .u64 0, .int .u64 0, .int .i64 0, .int .i64 0] [(0,1,(.c (.int .i64 2))),(5,1,(.l 29))]⟩,clB 31 58 28 30,asL 6 6 31]
def zlq:SL:= [bxI 33 .eql 11 4,asL 32 32 33]
def zlp:SL:= [fdV 34 7 4,ldN 35 34,lnS 36 false 35,bnI 37 .sub 36 1,asL 7 7 37]
def zff:SL:= [mvV 38 7,bvI 39 .geq 38 0]
def zfe:SL:= [mvV 42 0,fdV 43 7 4,ldN 44 43,mvV 45 7,ixL 46 8 44 45,ldL 47 8 46,mvV 48 2,clC 49 59 42 47 48,asL 2 2 49]
def zfd:SL:= [mvV 40 7,bnI 41 .sub 40 1,asL 7 7 41]
def a59l13:ACode:=(.seq (sR zff (cV 39 .skip (.exit 1))) (.seq (.block 2 (.region zfe)) (.region zfd)))
def zgI:SL:= [bxI 51 .eql 11 5,asL 50 50 51]
def zgH:SL:= [mvV 52 0,fdV 53 7 4,ldN 54 53,fdV 55 7 4,ldN 56 55,lnS 57 false 56,bnI 58 .sub 57 1,ixL 59 8 54 58,ldL 60 8 59,mvV 61 2,clC 62 59 52 60 61,asL 8 8 62]
def zgG:SL:= [fdV 63 7 4,ldN 64 63,lnS 65 false 64,bnI 66 .sub 65 2,asL 9 9 66]
def zfc:SL:= [mvV 67 9,bvI 68 .geq 67 0]
def zfb:SL:= [mvV 71 0,mvV 72 0,fdV 73 7 4,ldN 74 73,mvV 75 9,ixL 76 8 74 75,ldL 77 8 76,mvV 78 2,clC 79 59 72 77 78,mvV 80 8,⟨.l 81,none, .build [.int .i64 0, .int .u64 0, .int .u64 0, .int .u64 0, .int .u64 0, .int .i64 0, .int .i64 0] [(0,1,(.c (.int .i64 3))),(5,1,(.l 79)),(6,1,(.l 80))]⟩,clB 82 58 71 81,asL 8 8 82]
def zfa:SL:= [mvV 69 9,bnI 70 .sub 69 1,asL 9 9 70]
def a59l20:ACode:=(.seq (sR zfc (cV 68 .skip (.exit 3))) (.seq (.block 4 (.region zfb)) (.region zfa)))
def zgF:SL:= [mvV 83 8,asL 6 8 83]
def zgE:SL:= [bxI 85 .eql 11 6,asL 84 84 85]
def zgD:SL:= [mvV 86 0,ldV 87 8 4,mvV 88 2,clC 89 83 86 87 88,asL 6 6 89]
def zgC:SL:= [mvV 90 2,asL 6 2 90]
def a59:AFunc:=⟨3,[0,1,2,4,6,7,8,9,11,12,20,26,32,39,50,68,84],[.tmp 6],(sR zly (.seq (sR zlx (.block 0 (sR zlw (cV 12 (sT zlv) (sR zlu (cV 20 (sT zlt) (sR zls (cV 26 (sT zlr) (sR zlq (cV 32 (sR zlp (bL 1 a59l13)) (sR zgI (cV 50 (sR zgH (.seq (sR zgG (bL 3 a59l20)) (sT zgF))) (sR zgE (cV 84 (sT zgD) .skip)))))))))))))) (sT zgC))),false⟩
def zG2:SL:= [bxV 3 1,asI 4 4 0]
def zG3:Plan:=(.seq 0 (mvV 5 0) (.seq 1 (mvV 6 0) (.seq 2 (nlC 7 6) (.seq 3 (fdL 8 0 7) (.seq 5 (ldV 10 7 3) (.alt 4 (ldN 9 8) (.one 6 ⟨.l 11,none, .bslice false (.agg [.int .i64 0, .int .u64 0, .int .u64 0, .int .u64 0, .int .u64 0, .int .i64 0, .int .i64 0]) 1 [(0,(.l 10))]⟩ (.one 7 ⟨.l 12,none, .append true 7 (.l 9) (.l 11)⟩ (.seq 8 (nlC 13 5) (.seq 9 (fdL 14 0 13) (.one 10 (stL 14 12) .fin))))) (.one 6 ⟨.l 11,none, .bslice false (.agg [.int .i64 0, .int .u64 0, .int .u64 0, .int .u64 0, .int .u64 0, .int .i64 0, .int .i64 0]) 1 [(0,(.l 10))]⟩ (.seq 4 (ldN 9 8) (.one 7 ⟨.l 12,none, .append true 7 (.l 9) (.l 11)⟩ (.seq 8 (nlC 13 5) (.seq 9 (fdL 14 0 13) (.one 10 (stL 14 12) .fin))))))))))))
def zG1:SL:= [mvV 15 0,nlC 16 15,fdL 17 0 16,ldN 18 17,lnS 19 false 18,bnI 20 .sub 19 1,asL 4 4 20]
def a58:AFunc:=⟨2,[0,1,3,4],[.tmp 4],(sR zG2 (.seq (.draw zG3) (sT zG1))),false⟩
def zKI:SL:= [⟨.v 3,none, .boxH (.v 0)⟩,⟨.v 5,none, .boxH (.v 2)⟩,asB 6 6 false]
def zmQ:SL:= [⟨.l 7,none, .load none (.v 5)⟩,bnI 8 .gtr 7 100,mvL 9 8,fdG 10 9 false 0 3,ldG 11 9 false 10,bgI 12 9 false .neq 11 1,mgL 13 9 false 12,fdG 14 13 true 1 3,⟨.l 15,some (.l 13,true), .load (some 4) (.l 14)⟩,⟨.l 16,some (.l 13,true), .build [.int .u64 0, .int .u64 0, .int .u64 0, .int .u64 0] []⟩,⟨.l 17,some (.l 13,true), .eqG true (List.replicate 4 1) (.l 15) (.l 16)⟩,pgF 18 9 false 13 17,pkT 19 9 18,mvL 20 19,fdG 21 20 false 0 3,ldG 22 20 false 21,bgI 23 20 false .neq 22 6,mgL 24 20 false 23,fdG 25 24 true 5 3,ldG 26 24 true 25,bgI 27 24 true .neq 26 0,mgL 28 24 true 27,fdG 29 28 false 6 3,ldG 30 28 false 29,bgI 31 28 false .neq 30 0,pgT 32 24 true 28 31,pgF 33 20 false 24 32,pvT 34 20 33]
def zlo:SL:= [asB 6 6 false]
def zmP:SL:= [fdV 35 0 3,⟨.v 36,none, .load none (.l 35)⟩]
def zmO:SL:= [bxI 38 .eql 36 0,asL 37 37 38]
def zmN:SL:= [fdV 39 7 3,ldN 40 39,lnS 41 false 40,bnI 42 .eql 41 0,mvL 43 42,mgV 44 43 true 1,bgI 45 43 true .neq 44 4,pkF 46 43 45,asL 6 6 46]
def zmM:SL:= [bxI 48 .eql 36 1,asL 47 47 48]
def zmL:SL:= [bxI 49 .eql 36 2,asL 47 47 49]
def zmK:SL:= [bxI 50 .eql 36 3,asL 47 47 50]
def zmJ:SL:= [fdV 51 7 3,ldN 52 51,lnS 53 false 52,bnI 54 .eql 53 0,asL 6 6 54]
def zhv:SL:= [bxI 56 .eql 36 4,asL 55 55 56]
def zhu:SL:= [bxI 57 .eql 36 5,asL 55 55 57]
def zht:SL:= [mvV 58 1,fdV 59 0 3,ldN 60 59,bnL 61 .eql 58 60,mvL 62 61,fdG 63 62 false 7 3,ldG 64 62 false 63,lgS 65 62 false false 64,bgI 66 62 false .lss 65 2,pvT 67 62 66]
def zhs:SL:= [asB 6 6 false]
def zhr:SL:= [bxI 69 .eql 36 6,asL 68 68 69]
def zdw:SL:= [fdV 70 7 3,ldN 71 70,lnS 72 false 71,bnI 73 .neq 72 1,mvL 74 73,fdG 75 74 false 5 3,ldG 76 74 false 75,bgI 77 74 false .lss 76 0,pkT 78 74 77,mvL 79 78,fdG 80 79 false 5 3,ldG 81 79 false 80,bgI 82 79 false .gtr 81 50,pkT 83 79 82,mvL 84 83,fdG 85 84 false 6 3,ldG 86 84 false 85,bgI 87 84 false .neq 86 (-1),mgL 88 84 false 87,fdG 89 88 true 6 3,ldG 90 88 true 89,fdG 91 88 true 5 3,ldG 92 88 true 91,bgL 93 88 true .lss 90 92,mgL 94 88 true 93,fdG 95 94 false 6 3,ldG 96 94 false 95,bgI 97 94 false .gtr 96 50,pgT 98 88 true 94 97,pgF 99 84 false 88 98,pvT 100 84 99]
def zgB:SL:= [asB 6 6 false]
def zgA:SL:= [asB 6 6 false]
def zgz:SL:= [fdV 101 7 3,ldN 102 101,⟨.l 103,none, .mkfn 90 [(.v 3),(.v 5)]⟩,clB 104 91 102 103,⟨.l 105,none, .un .not (.l 104)⟩,asL 6 6 105]
def a65:AFunc:=⟨3,[0,1,2,3,5,6,34,36,37,47,55,67,68,100],[.tmp 6],(sR zKI (.seq (sR zmQ (cV 34 (sT zlo) .skip)) (.seq (sR zmP (.block 0 (sR zmO (cV 37 (sT zmN) (.seq (sR zmM (.cond false (.v 47) .skip (sR zmL (.cond false (.v 47) .skip (.region zmK))))) (.cond false (.v 47) (sT zmJ) (.seq (sR zhv (.cond false (.v 55) .skip (.region zhu))) (.cond false (.v 55) (sR zht (cV 67 (sT zhs) .skip)) (sR zhr (cV 68 (sR zdw (cV 100 (sT zgB) .skip)) (sT zgA))))))))))) (sT zgz)))),true⟩
def zwQ:SL:= [bxV 1 0,asI 2 2 0]
def zwP:SL:= [asI 3 3 0]
def zwO:SL:= [fdV 8 0 1,⟨.v 9,none, .load none (.l 8)⟩]
def zwN:SL:= [bxI 11 .eql 9 1,asL 10 10 11]
def zza:SL:= [asI 2 2 1]
def zy9:SL:= [bxI 13 .eql 9 6,asL 12 12 13]
def zCC:Plan:=(.seq 0 (fdV 14 5 1) (.seq 2 (fdV 16 7 1) (.seq 3 (ldN 17 16) (.seq 4 ⟨.l 18,none, .iaddr 8 (.l 17) (.c (.int .i64 0))⟩ (.seq 5 (ldL 19 8 18) (.alt 1 (ldN 15 14) (.one 6 (clA 20 66 19) (.seq 7 (bnL 21 .mul 15 20) (.seq 8 (asL 2 2 21) .fin))) (.one 6 (clA 20 66 19) (.seq 1 (ldN 15 14) (.seq 7 (bnL 21 .mul 15 20) (.seq 8 (asL 2 2 21) .fin))))))))))
def zCB:SL:= [bxI 23 .eql 9 4,asL 22 22 23]
def zKH:SL:= [fdV 24 7 1,⟨.v 25,none, .load none (.l 24)⟩,⟨.v 26,none, .len false (.v 25)⟩,asI 27 27 0]
def zG0:SL:= [⟨.v 28,none, .bin .lss (.v 27) (.v 26)⟩]
def zDN:SL:= [⟨.l 29,none, .iaddr 8 (.v 25) (.v 27)⟩,ldL 30 8 29,⟨.v 5,none, .allocL [.int .i64 0, .int .u64 0, .int .u64 0, .int .u64 0, .int .u64 0, .int .i64 0, .int .i64 0, .nils]⟩,stV 8 5 30]
def zDM:SL:= [mvV 31 3,ldV 32 8 5,clA 33 66 32,bnL 34 .add 31 33,asL 3 3 34]
def zDL:SL:= [bxI 35 .add 27 1,asL 27 27 35]
def a66l13:ACode:=(sR zG0 (.seq (cV 28 .skip (.exit 1)) (.seq (.block 2 (sR zDN (.region zDM))) (.region zDL))))
def zzc:SL:= [bxI 37 .eql 9 5,asL 36 36 37]
def zDK:SL:= [fdV 38 7 1,ldN 39 38,⟨.l 40,none, .iaddr 8 (.l 39) (.c (.int .i64 0))⟩,ldL 41 8 40,clA 42 66 41,asL 3 3 42]
def zDJ:SL:= [fdV 43 7 1,⟨.v 44,none, .load none (.l 43)⟩,⟨.v 45,none, .len false (.v 44)⟩,asI 46 46 0]
def zzb:SL:= [⟨.v 47,none, .bin .lss (.v 46) (.v 45)⟩]
def zDI:SL:= [⟨.l 48,none, .iaddr 8 (.v 44) (.v 46)⟩,ldL 49 8 48,⟨.v 7,none, .allocL [.int .i64 0, .int .u64 0, .int .u64 0, .int .u64 0, .int .u64 0, .int .i64 0, .int .i64 0, .nils]⟩,stV 8 7 49]
def zDH:SL:= [mvV 50 3,ldV 51 8 7,clA 52 66 51,⟨.l 53,none, .minI (.l 50) (.l 52)⟩,asL 3 3 53]
def zDG:SL:= [bxI 54 .add 46 1,asL 46 46 54]
def a66l21:ACode:=(sR zzb (.seq (cV 47 .skip (.exit 3)) (.seq (.block 4 (sR zDI (.region zDH))) (.region zDG))))
def zvi:SL:= [mvV 55 3,asL 2 3 55]
def a66:AFunc:=⟨1,[0,1,2,3,5,7,9,10,12,22,25,26,27,28,36,44,45,46,47],[.tmp 2],(sR zwQ (sR zwP (.seq (sR zwO (.block 0 (sR zwN (cV 10 (sT zza) (sR zy9 (cV 12 (.seq (.draw zCC) .ret) (sR zCB (cV 22 (sR zKH (bL 1 a66l13)) (sR zzc (cV 36 (sR zDK (sR zDJ (bL 3 a66l21))) .skip)))))))))) (sT zvi)))),true⟩
def zLb:SL:= [asI 4 4 0]
def zLa:SL:= [mvV 5 0,mvV 6 1,clB 7 129 5 6,asL 4 4 7]
def a123:AFunc:=⟨2,[0,1,4],[.tmp 4],(sR zLb (sT zLa)),false⟩
def zKS:SL:= [asI 6 6 0,asI 7 7 0,asB 8 8 false]
def zKR:SL:= [mvV 10 2,bvI 11 .lss 10 0]
def zKQ:SL:= [asI 6 6 0,asI 7 7 0,asB 8 8 false]
def zzd:SL:= [mvV 12 2,mvV 13 0,nlC 14 13,fdL 15 2 14,ldN 16 15,bnL 17 .add 12 16,mvV 18 1,lnS 19 true 18,bvL 20 .leq 17 19]
def zHb:SL:= [mvV 23 0,nlC 24 23,fdL 25 1 24,ldN 26 25,mvV 27 1,mvV 28 2,clC 29 35 26 27 28,asL 9 9 29]
def zHa:SL:= [mvV 30 9,bvI 31 .geq 30 0]
def zG9:SL:= [mvV 32 2,mvV 33 9,asL 6 2 32,asL 7 9 33,asB 8 8 true]
def zKP:SL:= [mvV 21 2,bnI 22 .add 21 1,asL 2 2 22]
def a43l8:ACode:=(.seq (sR zzd (cV 20 .skip (.exit 0))) (.seq (.block 1 (sR zHb (sR zHa (cV 31 (sT zG9) .skip)))) (.region zKP)))
def zKO:SL:= [asI 6 6 0,asI 7 7 0,asB 8 8 false]
def a43:AFunc:=⟨3,[0,1,2,6,7,8,9,11,20,31],[.tmp 6, .tmp 7, .tmp 8],(sR zKS (.seq (sR zKR (cV 11 (sT zKQ) .skip)) (.seq (bL 0 a43l8) (sT zKO)))),true⟩
def zDQ:SL:= [⟨.v 2,none, .asg 2 (.c (.str []))⟩]
def zDP:SL:= [mvV 3 0,⟨.l 4,none, .call 212 [.pl (.l 3), .pl (.c (.str [32,9,10]))]⟩,asL 2 2 4]
def a203:AFunc:=⟨1,[0,2],[.tmp 2],(sR zDQ (sT zDP)),true⟩
def zzj:SL:= [asI 2 2 0,asI 3 3 0,asI 4 4 0]
def zzi:SL:= [asI 5 5 0]
def zrU:SL:= [mvV 15 5,mvV 16 0,lnS 17 true 16,bnL 18 .lss 15 17,mvL 19 18,mgV 20 19 true 0,mgV 21 19 true 5,⟨.l 22,some (.l 19,true), .sidx (.l 20) (.l 21)⟩,⟨.l 23,some (.l 19,true), .bin .eql (.l 22) (.c (.int .u8 32))⟩,mgL 24 19 true 23,mgV 25 24 false 0,mgV 26 24 false 5,⟨.l 27,some (.l 24,false), .sidx (.l 25) (.l 26)⟩,⟨.l 28,some (.l 24,false), .bin .eql (.l 27) (.c (.int .u8 9))⟩,pgT 29 19 true 24 28,mgL 30 19 true 29,mgV 31 30 false 0,mgV 32 30 false 5,⟨.l 33,some (.l 30,false), .sidx (.l 31) (.l 32)⟩,⟨.l 34,some (.l 30,false), .bin .eql (.l 33) (.c (.int .u8 10))⟩,pgT 35 19 true 30 34,pvF 36 19 35]
def zrT:SL:= [mvV 37 5,bnI 38 .add 37 1,asL 5 5 38]
def a204l4:ACode:=(.seq (sR zrU (cV 36 .skip (.exit 0))) (.block 1 (.region zrT)))
def zoC:SL:= [mvV 39 5,mvV 40 0,lnS 41 true 40,bnL 42 .lss 39 41,mvL 43 42,mgV 44 43 true 0,mgV 45 43 true 5,⟨.l 46,some (.l 43,true), .sidx (.l 44) (.l 45)⟩,⟨.l 47,some (.l 43,true), .bin .eql (.l 46) (.c (.int .u8 45))⟩,pkF 48 43 47,asL 6 6 48]
def zoB:SL:= [mvV 49 6,mvL 50 49,mgV 51 50 false 5,mgV 52 50 false 0,lgS 53 50 false true 52,bgL 54 50 false .lss 51 53,mgL 55 50 false 54,mgV 56 55 true 0,mgV 57 55 true 5,⟨.l 58,some (.l 55,true), .sidx (.l 56) (.l 57)⟩,⟨.l 59,some (.l 55,true), .bin .eql (.l 58) (.c (.int .u8 43))⟩,pgF 60 50 false 55 59,pvT 61 50 60]
def zoA:SL:= [mvV 62 5,bnI 63 .add 62 1,asL 5 5 63]
def zzh:SL:= [⟨.v 7,none, .allocH [.int .u64 0, .bool false]⟩]
def zzg:SL:= [mvV 64 5,asL 8 8 64]
def zqb:SL:= [mvV 65 0,mvV 66 5,⟨.v 67,none, .call 213 [.pl (.l 65), .pl (.l 66)]⟩]
def zqa:SL:= [fdV 71 0 7,ldN 72 71,⟨.l 73,none, .call 214 [.pl (.l 72), .pl (.c (.int .u64 10))]⟩,mvL 70 73,exT 74 0 70,exT 75 1 70,asL 9 9 74,asL 10 10 75]
def zp9:SL:= [mvV 76 10,fdV 77 1 7,ldN 78 77,mvL 79 78,mgV 80 79 false 9,⟨.l 81,some (.l 79,false), .bin .gtr (.l 80) (.c (.int .u64 0))⟩,pkT 82 79 81,fdV 83 0 7,stL 83 76,fdV 84 1 7,stL 84 82]
def zp8:SL:= [mvV 85 0,mvV 86 5,⟨.l 87,none, .sidx (.l 85) (.l 86)⟩,⟨.l 88,none, .call 215 [.pl (.v 7), .pl (.l 87), .pl (.c (.int .u64 1000000))]⟩]
def zp7:SL:= [mvV 68 5,bnI 69 .add 68 1,asL 5 5 69]
def a204l15:ACode:=(.seq (sR zqb (cV 67 .skip (.exit 2))) (.seq (.block 3 (sR zqa (sR zp9 (.region zp8)))) (.region zp7)))
def ziL:SL:= [mvV 89 5,mvV 90 8,bnL 91 .sub 89 90,asL 11 11 91]
def ziK:SL:= [mvV 92 5,mvV 93 0,lnS 94 true 93,bnL 95 .lss 92 94,mvL 96 95,mgV 97 96 true 0,mgV 98 96 true 5,⟨.l 99,some (.l 96,true), .sidx (.l 97) (.l 98)⟩,⟨.l 100,some (.l 96,true), .bin .eql (.l 99) (.c (.int .u8 46))⟩,pkF 101 96 100,mvL 102 101,mgV 103 102 true 11,bgI 104 102 true .gtr 103 0,mgL 105 102 true 104,mgV 106 105 false 0,mgV 107 105 false 5,bgI 108 105 false .add 107 1,⟨.l 109,some (.l 105,false), .call 213 [.pl (.l 106), .pl (.l 108)]⟩,pgT 110 102 true 105 109,pvF 111 102 110]
def ziJ:SL:= [⟨.v 12,none, .asg 12 (.c (.int .u64 1000000))⟩]
def ziI:SL:= [mvV 112 5,bnI 113 .add 112 1,asL 5 5 113]
def zp6:SL:= [mvV 114 0,mvV 115 5,⟨.v 116,none, .call 213 [.pl (.l 114), .pl (.l 115)]⟩]
def zp5:SL:= [mvV 119 12,⟨.l 120,none, .bin .quo (.l 119) (.c (.int .u64 10))⟩,asL 12 12 120]
def zp4:SL:= [mvV 121 0,mvV 122 5,⟨.l 123,none, .sidx (.l 121) (.l 122)⟩,mvV 124 12,⟨.l 125,none, .call 215 [.pl (.v 7), .pl (.l 123), .pl (.l 124)]⟩]
def zp3:SL:= [mvV 126 11,bnI 127 .add 126 1,asL 11 11 127]
def zp2:SL:= [mvV 117 5,bnI 118 .add 117 1,asL 5 5 118]
def a204l25:ACode:=(.seq (sR zp6 (cV 116 .skip (.exit 4))) (.seq (.block 5 (sR zp5 (sR zp4 (.region zp3)))) (.region zp2)))
def zmV:SL:= [mvV 128 11,bvI 129 .eql 128 0]
def zmU:SL:= [asI 2 2 0,asI 3 3 0,asI 4 4 0]
def zp1:SL:= [fdV 131 0 7,ldN 132 131,mvV 133 6,clB 134 216 132 133,mvL 130 134,exT 135 0 130,exT 136 1 130,asL 13 13 135,asL 14 14 136]
def zp0:SL:= [fdV 137 1 7,⟨.v 138,none, .load none (.l 137)⟩]
def zpZ:SL:= [asI 13 13 0,asI 14 14 10]
def zpY:SL:= [mvV 139 13,mvV 140 5,mvV 141 14,asL 2 13 139,asL 3 5 140,asL 4 14 141]
def a204:AFunc:=⟨1,[0,2,3,4,5,6,7,8,9,10,11,12,13,14,36,61,67,111,116,129,138],[.tmp 2, .tmp 3, .tmp 4],(sR zzj (sR zzi (.seq (bL 0 a204l4) (sR zoC (.seq (sR zoB (cV 61 (.region zoA) .skip)) (sR zzh (sR zzg (.seq (bL 2 a204l15) (sR ziL (.seq (sR ziK (cV 111 (sR ziJ (sR ziI (bL 4 a204l25))) .skip)) (.seq (sR zmV (cV 129 (sT zmU) .skip)) (sR zp1 (.seq (sR zp0 (cV 138 (.region zpZ) .skip)) (sT zpY)))))))))))))),true⟩
def zKi:SL:= [⟨.v 4,none, .allocL [.int .i64 0, .int .u64 0, .int .u64 0, .int .u64 0, .int .u64 0, .int .i64 0, .int .i64 0, .nils]⟩]
def zKh:SL:= [⟨.l 7,none, .bslice false (.agg [.int .i64 0, .int .u64 0, .int .u64 0, .int .u64 0, .int .u64 0, .int .i64 0, .int .i64 0, .nils]) 0 []⟩,asL 5 5 7]
def zrE:SL:= [mvV 8 0,clA 9 93 8,bnI 10 .geq 9 0,mvL 11 10,mgV 12 11 true 0,⟨.l 13,some (.l 11,true), .call 93 [.pl (.l 12)]⟩,bgI 14 11 true .neq 13 124,pkF 15 11 14,mvL 16 15,mgV 17 16 true 0,⟨.l 18,some (.l 16,true), .call 93 [.pl (.l 17)]⟩,bgI 19 16 true .eql 18 41,mgL 20 16 true 19,mgV 21 20 true 1,bgI 22 20 true .gtr 21 0,pgF 23 16 true 20 22,⟨.l 24,some (.l 16,true), .un .not (.l 23)⟩,pvF 25 16 24]
def zCk:SL:= [mvV 26 0,mvV 27 1,clB 28 101 26 27,⟨.v 6,none, .allocL [.int .i64 0, .int .u64 0, .int .u64 0, .int .u64 0, .int .u64 0, .int .i64 0, .int .i64 0, .nils]⟩,stV 8 6 28]
def zCj:SL:= [mvV 29 0,ldV 30 8 6,clB 31 102 29 30,stV 8 6 31]
def zCi:SL:= [mvV 32 5,ldV 33 8 6,⟨.l 34,none, .bslice false (.agg [.int .i64 0, .int .u64 0, .int .u64 0, .int .u64 0, .int .u64 0, .int .i64 0, .int .i64 0, .nils]) 1 [(0,(.l 33))]⟩,apL 35 8 32 34,asL 5 5 35]
def a92l6:ACode:=(.seq (sR zrE (cV 25 .skip (.exit 0))) (.block 1 (sR zCk (sR zCj (.region zCi)))))
def zGz:SL:= [mvV 36 5,⟨.l 37,none, .call 3 [.pl (.c (.int .i64 4)), .pl (.l 36)]⟩,stV 8 4 37]
def a92:AFunc:=⟨2,[0,1,4,5,6,25],[.cell 4 (some 8)],(sR zKi (sR zKh (.seq (bL 0 a92l6) (sT zGz)))),false⟩
def zCf:SL:= [asI 2 2 0]
def zCh:Plan:=(.seq 0 (mvV 3 0) (.seq 1 (nlC 4 3) (.seq 2 (fdL 5 3 4) (.seq 3 (ldN 6 5) (.seq 4 (bnI 7 .neq 6 0) (.seq 5 (mvL 8 7) (.seq 6 (mgV 9 8 false 0) (.seq 7 (nlG 10 8 false 9) (.seq 8 (fgL 11 8 false 1 10) (.seq 9 (ldG 12 8 false 11) (.seq 10 (mgV 13 8 false 0) (.seq 11 (nlG 14 8 false 13) (.seq 12 (fgL 15 8 false 0 14) (.seq 13 (ldG 16 8 false 15) (.seq 14 (lgS 17 8 false true 16) (.seq 15 (bgL 18 8 false .geq 12 17) (.seq 16 (pvT 19 8 18) .fin)))))))))))))))))
def zCe:SL:= [asI 2 2 (-1)]
def zCg:Plan:=(.seq 0 (mvV 20 0) (.seq 1 (nlC 21 20) (.seq 2 (fdL 22 0 21) (.seq 3 (ldN 23 22) (.seq 4 (mvV 24 0) (.seq 5 (nlC 25 24) (.seq 6 (fdL 26 1 25) (.seq 7 (ldN 27 26) (.seq 8 ⟨.l 28,none, .sidx (.l 23) (.l 27)⟩ (.one 9 ⟨.l 29,none, .conv .i64 (.l 28)⟩ (.seq 10 (asL 2 2 29) .fin)))))))))))
def a93:AFunc:=⟨1,[0,2,19],[.tmp 2],(sR zCf (.seq (.seq (.draw zCh) (cV 19 (sT zCe) .skip)) (.seq (.draw zCg) .ret))),true⟩
def a3r0:SL:= [⟨.v 4,none, .allocL [.int .i64 0, .int .u64 0, .int .u64 0, .int .u64 0, .int .u64 0, .int .i64 0, .int .i64 0, .nils]⟩]
def a3r1:SL:= [⟨.l 7,none, .bslice false (.agg [.int .i64 0, .int .u64 0, .int .u64 0, .int .u64 0, .int .u64 0, .int .i64 0, .int .i64 0, .nils]) 0 []⟩,asL 5 5 7]
def a3r2:SL:= [asI 6 6 0]
def zDO:SL:= [mvV 8 6,mvV 9 1,lnS 10 false 9,bvL 11 .lss 8 10]
def zHA:SL:= [mvV 14 1,mvV 15 6,ixL 16 8 14 15,fdL 17 0 16,ldN 18 17,mvV 19 0,bvL 20 .eql 18 19]
def zHz:SL:= [mvV 21 5,mvV 22 1,mvV 23 6,ixL 24 8 22 23,fdL 25 7 24,ldN 26 25,apL 27 8 21 26,asL 5 5 27]
def zHy:SL:= [mvV 28 1,mvV 29 6,ixL 30 8 28 29,fdL 31 0 30,ldN 32 31,bnI 33 .neq 32 0,mvL 34 33,mgV 35 34 false 0,bgI 36 34 false .eql 35 5,pvT 37 34 36]
def zHx:SL:= [mvV 38 5,mvV 39 1,mvV 40 6,ixL 41 8 39 40,ldL 42 8 41,⟨.l 43,none, .bslice false (.agg [.int .i64 0, .int .u64 0, .int .u64 0, .int .u64 0, .int .u64 0, .int .i64 0, .int .i64 0, .nils]) 1 [(0,(.l 42))]⟩,apL 44 8 38 43,asL 5 5 44]
def zHw:SL:= [mvV 12 6,bnI 13 .add 12 1,asL 6 6 13]
def a3l9:ACode:=(.seq (sR zDO (cV 11 .skip (.exit 0))) (.seq (.block 1 (sR zHA (cV 20 (.region zHz) (sR zHy (cV 37 (.region zHx) .skip))))) (.region zHw)))
def zCV:SL:= [mvV 45 5,lnS 46 false 45,bvI 47 .eql 46 0]
def zCU:SL:= [⟨.l 48,none, .build [.int .i64 0, .int .u64 0, .int .u64 0, .int .u64 0, .int .u64 0, .int .i64 0, .int .i64 0, .nils] []⟩,stV 8 4 48]
def zCT:SL:= [mvV 49 5,lnS 50 false 49,bvI 51 .eql 50 1]
def zCS:SL:= [mvV 52 5,⟨.l 53,none, .iaddr 8 (.l 52) (.c (.int .i64 0))⟩,ldL 54 8 53,stV 8 4 54]
def zCR:SL:= [mvV 55 0,mvV 56 5,⟨.l 57,none, .build [.int .i64 0, .int .u64 0, .int .u64 0, .int .u64 0, .int .u64 0, .int .i64 0, .int .i64 0, .nils] [(0,1,(.l 55)),(7,1,(.l 56))]⟩,stV 8 4 57]
def a3:AFunc:=⟨2,[0,1,4,5,6,11,20,37,47,51],[.cell 4 (some 8)],(sR a3r0 (sR a3r1 (.seq (sR a3r2 (bL 0 a3l9)) (.seq (sR zCV (cV 47 (sT zCU) .skip)) (.seq (sR zCT (cV 51 (sT zCS) .skip)) (sT zCR)))))),true⟩
def zKq:SL:= [⟨.v 4,none, .allocL [.int .i64 0, .int .u64 0, .int .u64 0, .int .u64 0, .int .u64 0, .int .i64 0, .int .i64 0, .nils]⟩]
def zKp:SL:= [⟨.v 5,none, .asg 5 (.c .nils)⟩]
def ziH:SL:= [mvV 9 0,clA 10 98 9,mvL 8 10,exT 11 0 8,exT 12 1 8,asL 6 6 11,asL 7 7 12]
def ziG:SL:= [mvV 13 7,⟨.l 14,none, .un .not (.l 13)⟩,mvL 15 14,mgV 16 15 false 6,⟨.l 17,some (.l 15,false), .bin .eql (.l 16) (.c (.int .u8 124))⟩,pkT 18 15 17,mvL 19 18,mgV 20 19 false 6,⟨.l 21,some (.l 19,false), .bin .eql (.l 20) (.c (.int .u8 41))⟩,mgL 22 19 false 21,mgV 23 22 true 1,bgI 24 22 true .gtr 23 0,pgF 25 19 false 22 24,pvT 26 19 25]
def ziF:SL:= [mvV 27 5,⟨.l 28,none, .call 89 [.pl (.c (.int .i64 4)), .pl (.l 27)]⟩,stV 8 4 28]
def ziE:SL:= [mvV 29 5,mvV 30 0,mvV 31 1,clB 32 99 30 31,⟨.l 33,none, .bslice false (.agg [.int .i64 0, .int .u64 0, .int .u64 0, .int .u64 0, .int .u64 0, .int .i64 0, .int .i64 0, .nils]) 1 [(0,(.l 32))]⟩,apL 34 8 29 33,asL 5 5 34]
def a87l6:ACode:=(.block 1 (sR ziH (.seq (sR ziG (cV 26 (sT ziF) .skip)) (.region ziE))))
def a87:AFunc:=⟨2,[0,1,4,5,6,7,26],[.cell 4 (some 8)],(sR zKq (sR zKp (bL 0 a87l6))),false⟩
def zCu:SL:= [asB 4 4 false]
def zCt:SL:= [mvV 8 0,clA 9 98 8,mvL 7 9,exT 10 0 7,exT 11 1 7,asL 5 5 10,asL 6 6 11]
def zCs:SL:= [mvV 12 6,mvL 13 12,mgV 14 13 true 5,mgV 15 13 true 1,bgL 16 13 true .eql 14 15,pkF 17 13 16,asL 6 6 17]
def zCr:SL:= [⟨.v 18,none, .asg 18 (.v 6)⟩]
def zCq:SL:= [mvV 19 0,nlC 20 19,fdL 21 1 20,ldN 22 21,bnI 23 .add 22 1,nlC 24 19,fdL 25 1 24,stL 25 23]
def zCp:SL:= [mvV 26 6,asL 4 6 26]
def a88:AFunc:=⟨2,[0,1,4,5,6,18],[.tmp 4],(sR zCu (sR zCt (.seq (sR zCs (sR zCr (cV 18 (.region zCq) .skip))) (sT zCp)))),false⟩
def zCo:SL:= [⟨.v 4,none, .allocL [.int .i64 0, .int .u64 0, .int .u64 0, .int .u64 0, .int .u64 0, .int .i64 0, .int .i64 0, .nils]⟩]
def zCn:SL:= [mvV 8 1,⟨.v 9,none, .len false (.l 8)⟩]
def zCm:SL:= [bxI 11 .eql 9 0,asL 10 10 11]
def zCl:SL:= [⟨.l 12,none, .build [.int .i64 0, .int .u64 0, .int .u64 0, .int .u64 0, .int .u64 0, .int .i64 0, .int .i64 0, .nils] []⟩,stV 8 4 12]
def zGB:SL:= [bxI 14 .eql 9 1,asL 13 13 14]
def zGA:SL:= [mvV 15 1,⟨.l 16,none, .iaddr 8 (.l 15) (.c (.int .i64 0))⟩,ldL 17 8 16,stV 8 4 17]
def zKo:SL:= [⟨.v 5,none, .asg 5 (.c .nils)⟩]
def zKn:SL:= [⟨.v 18,none, .asg 18 (.v 1)⟩,⟨.v 19,none, .len false (.v 18)⟩,asI 20 20 0]
def zmF:SL:= [⟨.v 21,none, .bin .lss (.v 20) (.v 19)⟩]
def znE:SL:= [⟨.l 22,none, .iaddr 8 (.v 18) (.v 20)⟩,ldL 23 8 22,⟨.v 7,none, .allocL [.int .i64 0, .int .u64 0, .int .u64 0, .int .u64 0, .int .u64 0, .int .i64 0, .int .i64 0, .nils]⟩,stV 8 7 23]
def zim:SL:= [fdV 24 0 7,ldN 25 24,mvV 26 0,bvL 27 .eql 25 26]
def zil:SL:= [mvV 28 5,fdV 29 7 7,ldN 30 29,apL 31 8 28 30,asL 5 5 31]
def zik:SL:= [fdV 32 0 7,ldN 33 32,bnI 34 .neq 33 0,mvL 35 34,mgV 36 35 false 0,bgI 37 35 false .eql 36 5,pvT 38 35 37]
def zij:SL:= [mvV 39 5,ldV 40 8 7,⟨.l 41,none, .bslice false (.agg [.int .i64 0, .int .u64 0, .int .u64 0, .int .u64 0, .int .u64 0, .int .i64 0, .int .i64 0, .nils]) 1 [(0,(.l 40))]⟩,apL 42 8 39 41,asL 5 5 42]
def zii:SL:= [bxI 43 .add 20 1,asL 20 20 43]
def a89l15:ACode:=(sR zmF (.seq (cV 21 .skip (.exit 1)) (.seq (.block 2 (sR znE (sR zim (cV 27 (.region zil) (sR zik (cV 38 (.region zij) .skip)))))) (.region zii))))
def zve:SL:= [mvV 44 5,lnS 45 false 44,bvI 46 .lss 45 2]
def zvd:SL:= [mvV 47 0,mvV 48 5,clB 49 89 47 48,stV 8 4 49]
def zvc:SL:= [mvV 50 0,mvV 51 5,⟨.l 52,none, .build [.int .i64 0, .int .u64 0, .int .u64 0, .int .u64 0, .int .u64 0, .int .i64 0, .int .i64 0, .nils] [(0,1,(.l 50)),(7,1,(.l 51))]⟩,stV 8 4 52]
def a89:AFunc:=⟨2,[0,1,4,5,7,9,10,13,18,19,20,21,27,38,46],[.cell 4 (some 8)],(sR zCo (.seq (sR zCn (.block 0 (sR zCm (cV 10 (sT zCl) (sR zGB (cV 13 (sT zGA) .skip)))))) (sR zKo (.seq (sR zKn (bL 1 a89l15)) (.seq (sR zve (cV 46 (sT zvd) .skip)) (sT zvc)))))),true⟩
def zKy:SL:= [bxV 1 0,asB 2 2 false]
def zKx:SL:= [ldV 3 8 1,⟨.l 4,none, .call 65 [.pl (.l 3), .pl (.c (.int .i64 (-1))), .pl (.c (.int .i64 1))]⟩,asL 2 2 4]
def a81:AFunc:=⟨1,[0,1,2],[.tmp 2],(sR zKy (sT zKx)),true⟩
def zGP:SL:= [bxV 1 0,asI 2 2 0]
def zGO:SL:= [asI 3 3 0]
def zGN:SL:= [fdV 6 7 1,⟨.v 7,none, .load none (.l 6)⟩,⟨.v 8,none, .len false (.v 7)⟩,asI 9 9 0]
def zCy:SL:= [⟨.v 10,none, .bin .lss (.v 9) (.v 8)⟩]
def zGM:SL:= [⟨.l 11,none, .iaddr 8 (.v 7) (.v 9)⟩,ldL 12 8 11,⟨.v 5,none, .allocL [.int .i64 0, .int .u64 0, .int .u64 0, .int .u64 0, .int .u64 0, .int .i64 0, .int .i64 0, .nils]⟩,stV 8 5 12]
def zGL:SL:= [mvV 13 3,ldV 14 8 5,clA 15 82 14,bnL 16 .add 13 15,asL 3 3 16]
def zGK:SL:= [mvV 17 3,bvI 18 .gtr 17 500]
def zGJ:SL:= [mvV 19 3,asL 2 3 19]
def zGI:SL:= [bxI 20 .add 9 1,asL 9 9 20]
def a82l9:ACode:=(sR zCy (.seq (cV 10 .skip (.exit 0)) (.seq (.block 1 (sR zGM (sR zGL (sR zGK (cV 18 (sT zGJ) .skip))))) (.region zGI))))
def zhq:SL:= [fdV 21 0 1,⟨.v 22,none, .load none (.l 21)⟩]
def zhp:SL:= [bxI 24 .eql 22 1,asL 23 23 24]
def zho:SL:= [bxI 25 .eql 22 2,asL 23 23 25]
def zhn:SL:= [bxI 26 .eql 22 3,asL 23 23 26]
def zhm:SL:= [asI 2 2 1]
def zhl:SL:= [bxI 28 .eql 22 5,asL 27 27 28]
def zhk:SL:= [mvV 29 3,fdV 30 7 1,ldN 31 30,lnS 32 false 31,bnL 33 .add 29 32,bnI 34 .sub 33 1,asL 2 2 34]
def zhj:SL:= [bxI 36 .eql 22 6,asL 35 35 36]
def zhi:SL:= [fdV 37 6 1,ldN 38 37,bvI 39 .lss 38 0]
def zhh:SL:= [fdV 40 5 1,ldN 41 40,mvV 42 3,bnL 43 .mul 41 42,mvV 44 3,bnL 45 .add 43 44,bnI 46 .add 45 1,asL 2 2 46]
def zhg:SL:= [fdV 47 5 1,ldN 48 47,mvV 49 3,bnL 50 .mul 48 49,fdV 51 6 1,ldN 52 51,fdV 53 5 1,ldN 54 53,bnL 55 .sub 52 54,mvV 56 3,bnI 57 .add 56 1,bnL 58 .mul 55 57,bnL 59 .add 50 58,asL 2 2 59]
def zhf:SL:= [mvV 60 3,asL 2 3 60]
def a82:AFunc:=⟨1,[0,1,2,3,5,7,8,9,10,18,22,23,27,35,39],[.tmp 2],(sR zGP (sR zGO (.seq (sR zGN (bL 0 a82l9)) (.seq (sR zhq (.block 2 (.seq (sR zhp (.cond false (.v 23) .skip (sR zho (.cond false (.v 23) .skip (.region zhn))))) (.cond false (.v 23) (sT zhm) (sR zhl (cV 27 (sT zhk) (sR zhj (cV 35 (.seq (sR zhi (cV 39 (sT zhh) .skip)) (sT zhg)) .skip)))))))) (sT zhf))))),true⟩
def ztZ:SL:= [bxV 4 1,asI 6 6 0]
def ztY:SL:= [fdV 10 6 4,ldN 11 10,bvI 12 .lss 11 0]
def ztX:SL:= [mvV 13 0,mvV 14 2,⟨.l 15,none, .build [.int .i64 0, .int .u64 0, .int .u64 0, .int .u64 0, .int .u64 0, .int .i64 0, .int .i64 0] [(0,1,(.c (.int .i64 3))),(6,1,(.l 14))]⟩,clB 16 58 13 15,asL 7 7 16]
def ztW:SL:= [mvV 17 0,fdV 18 7 4,ldN 19 18,⟨.l 20,none, .iaddr 8 (.l 19) (.c (.int .i64 0))⟩,ldL 21 8 20,mvV 22 7,clC 23 59 17 21 22,asL 8 8 23]
def ztV:SL:= [mvV 24 0,nlC 25 24,fdL 26 0 25,ldN 27 26,mvV 28 7,mvV 29 8,ixL 30 7 27 28,fdL 31 5 30,stL 31 29]
def ztU:SL:= [mvV 32 7,asL 2 2 32]
def ztT:SL:= [mvV 33 2,asL 9 9 33]
def ztS:SL:= [fdV 34 6 4,ldN 35 34,fdV 36 5 4,ldN 37 36,bvL 38 .sub 35 37,asI 39 39 0]
def zpQ:SL:= [⟨.v 40,none, .bin .lss (.v 39) (.v 38)⟩]
def zpP:SL:= [mvV 41 0,mvV 42 0,fdV 43 7 4,ldN 44 43,⟨.l 45,none, .iaddr 8 (.l 44) (.c (.int .i64 0))⟩,ldL 46 8 45,mvV 47 2,clC 48 59 42 46 47,mvV 49 9,⟨.l 50,none, .build [.int .i64 0, .int .u64 0, .int .u64 0, .int .u64 0, .int .u64 0, .int .i64 0, .int .i64 0] [(0,1,(.c (.int .i64 3))),(5,1,(.l 48)),(6,1,(.l 49))]⟩,clB 51 58 41 50,asL 2 2 51]
def zjz:SL:= [bxI 52 .add 39 1,asL 39 39 52]
def a83l11:ACode:=(sR zpQ (.seq (cV 40 .skip (.exit 0)) (.seq (.block 1 (.region zpP)) (.region zjz))))
def zmH:SL:= [fdV 53 5 4,⟨.v 54,none, .load none (.l 53)⟩,asI 55 55 0]
def zjy:SL:= [⟨.v 56,none, .bin .lss (.v 55) (.v 54)⟩]
def zjx:SL:= [mvV 57 0,fdV 58 7 4,ldN 59 58,⟨.l 60,none, .iaddr 8 (.l 59) (.c (.int .i64 0))⟩,ldL 61 8 60,mvV 62 2,clC 63 59 57 61 62,asL 2 2 63]
def zjw:SL:= [bxI 64 .add 55 1,asL 55 55 64]
def a83l16:ACode:=(sR zjy (.seq (cV 56 .skip (.exit 2)) (.seq (.block 3 (.region zjx)) (.region zjw))))
def zmG:SL:= [mvV 65 2,asL 6 2 65]
def a83:AFunc:=⟨3,[0,1,2,4,6,7,8,9,12,38,39,40,54,55,56],[.tmp 6],(sR ztZ (.seq (sR ztY (cV 12 (sR ztX (sR ztW (sR ztV (.region ztU)))) .skip)) (sR ztT (.seq (sR ztS (bL 0 a83l11)) (.seq (sR zmH (bL 2 a83l16)) (sT zmG)))))),false⟩
def zKk:SL:= [asB 4 4 false]
def zKj:SL:= [mvV 5 0,mvV 6 1,clB 7 100 5 6,bnI 8 .geq 7 0,asL 4 4 8]
def a91:AFunc:=⟨2,[0,1,4],[.tmp 4],(sR zKk (sT zKj)),false⟩
def zKm:SL:= [bxV 3 0,asB 4 4 false]
def zKl:SL:= [ldV 5 8 3,fdV 6 0 1,ldN 7 6,⟨.l 8,none, .load none (.v 2)⟩,bnI 9 .add 8 1,clC 10 65 5 7 9,⟨.l 11,none, .un .not (.l 10)⟩,asL 4 4 11]
def a90:AFunc:=⟨3,[0,1,2,3,4],[.tmp 4],(sR zKm (sT zKl)),true⟩
def zK3:SL:= [asI 6 6 0]
def zK2:SL:= [⟨.v 7,none, .allocH [.int .i64 0]⟩,⟨.no,none, .store none (.v 7) (.c (.int .i64 (-1)))⟩]
def zK1:SL:= [mvV 8 0,mvV 9 1,mvV 10 2,⟨.l 11,none, .mkfn 60 [(.v 7)]⟩,⟨.l 12,none, .call 37 [.pl (.l 8), .pl (.l 9), .pl (.l 10), .pl (.l 11)]⟩]
def zK0:SL:= [⟨.l 13,none, .load none (.v 7)⟩,asL 6 6 13]
def a35:AFunc:=⟨3,[0,1,2,6,7],[.tmp 6],(sR zK3 (sR zK2 (sR zK1 (sT zK0)))),true⟩
def zrS:SL:= [asB 4 4 false]
def zrR:SL:= [mvV 5 1,mvV 6 0,lnS 7 true 6,bnL 8 .lss 5 7,mvL 9 8,mgV 10 9 true 0,mgV 11 9 true 1,⟨.l 12,some (.l 9,true), .sidx (.l 10) (.l 11)⟩,⟨.l 13,some (.l 9,true), .bin .geq (.l 12) (.c (.int .u8 48))⟩,pkF 14 9 13,mvL 15 14,mgV 16 15 true 0,mgV 17 15 true 1,⟨.l 18,some (.l 15,true), .sidx (.l 16) (.l 17)⟩,⟨.l 19,some (.l 15,true), .bin .leq (.l 18) (.c (.int .u8 57))⟩,pkF 20 15 19,asL 4 4 20]
def a213:AFunc:=⟨2,[0,1,4],[.tmp 4],(sR zrS (sT zrR)),true⟩
def zrQ:SL:= [asI 4 4 0,asI 5 5 0]
def zrP:SL:= [mvV 7 1,⟨.l 8,none, .un .not (.l 7)⟩,mvL 9 8,mgV 10 9 true 0,⟨.l 11,some (.l 9,true), .bin .gtr (.l 10) (.c (.int .u64 9223372036854775807))⟩,pkF 12 9 11,mvL 13 12,mgV 14 13 false 0,⟨.l 15,some (.l 13,false), .bin .gtr (.l 14) (.c (.int .u64 9223372036854775808))⟩,pkT 16 13 15,asL 6 6 16]
def zrO:SL:= [asI 4 4 0,asI 5 5 10]
def zrN:SL:= [mvV 18 1,asL 17 17 18]
def zrM:SL:= [mvV 19 0,⟨.l 20,none, .un .neg (.l 19)⟩,⟨.l 21,none, .conv .i64 (.l 20)⟩,asL 4 4 21,asI 5 5 0]
def zrL:SL:= [mvV 22 0,⟨.l 23,none, .conv .i64 (.l 22)⟩,asL 4 4 23,asI 5 5 0]
def a216:AFunc:=⟨2,[0,1,4,5,6,17],[.tmp 4, .tmp 5],(sR zrQ (.seq (.block 0 (sR zrP (cV 6 (sT zrO) (sR zrN (cV 17 (sT zrM) .skip))))) (sT zrL))),true⟩
def zdc:SL:= [⟨.v 4,none, .allocL [.int .i64 0, .int .u64 0, .int .u64 0, .int .u64 0, .int .u64 0, .int .i64 0, .int .i64 0, .nils]⟩]
def zdd:Plan:=(.seq 0 (mvV 12 0) (.seq 1 (nlC 13 12) (.seq 2 (fdL 14 1 13) (.seq 4 (mvV 16 0) (.alt 3 (ldN 15 14) (.one 5 (clA 17 93 16) (.seq 6 (asL 5 5 15) (.seq 7 (asL 6 6 17) .fin))) (.one 5 (clA 17 93 16) (.seq 3 (ldN 15 14) (.seq 6 (asL 5 5 15) (.seq 7 (asL 6 6 17) .fin)))))))))
def zdb:SL:= [mvV 18 6,bnI 19 .eql 18 42,mvL 20 19,mgV 21 20 false 6,bgI 22 20 false .eql 21 43,pkT 23 20 22,mvL 24 23,mgV 25 24 false 6,bgI 26 24 false .eql 25 63,pkT 27 24 26,mvL 28 27,mgV 29 28 false 6,bgI 30 28 false .eql 29 123,pvT 31 28 30]
def zda:SL:= [mvV 32 0,mvV 33 5,clI 34 107 32 33 50]
def zc9:SL:= [⟨.l 35,none, .build [.int .i64 0, .int .u64 0, .int .u64 0, .int .u64 0, .int .u64 0, .int .i64 0, .int .i64 0, .nils] []⟩,stV 8 4 35]
def zc8:SL:= [mvV 36 6,bvI 37 .eql 36 41]
def zc7:SL:= [mvV 38 0,mvV 39 5,clI 40 107 38 39 4]
def zc6:SL:= [⟨.l 41,none, .build [.int .i64 0, .int .u64 0, .int .u64 0, .int .u64 0, .int .u64 0, .int .i64 0, .int .i64 0, .nils] []⟩,stV 8 4 41]
def zdt:SL:= [mvV 42 6,bvI 43 .eql 42 91]
def zds:SL:= [mvV 45 0,nlC 46 45,fdL 47 0 46,ldN 48 47,mvV 49 5,clB 50 108 48 49,mvL 44 50,exT 51 0 44,exT 52 1 44,exT 53 2 44,⟨.v 7,none, .allocL [.int .u64 0, .int .u64 0, .int .u64 0, .int .u64 0]⟩,stV 4 7 51,asL 8 8 52,asL 9 9 53]
def zco:SL:= [mvV 54 9,bvI 55 .neq 54 0]
def zcn:SL:= [mvV 56 0,mvV 57 5,mvV 58 9,clC 59 107 56 57 58]
def zcm:SL:= [mvV 60 0,mvV 61 8,nlC 62 60,fdL 63 1 62,stL 63 61]
def zcl:SL:= [ldV 64 4 7,⟨.l 65,none, .build [.int .i64 0, .int .u64 0, .int .u64 0, .int .u64 0, .int .u64 0, .int .i64 0, .int .i64 0, .nils] [(0,1,(.c (.int .i64 1))),(1,4,(.l 64))]⟩,stV 8 4 65]
def zck:SL:= [mvV 66 0,nlC 67 66,fdL 68 1 67,ldN 69 68,bnI 70 .add 69 1,nlC 71 66,fdL 72 1 71,stL 72 70]
def zcj:SL:= [mvV 73 6,bvI 74 .eql 73 40]
def zci:SL:= [mvV 75 1,bvI 76 .geq 75 20]
def zch:SL:= [mvV 77 0,mvV 78 5,clI 79 107 77 78 2]
def zcg:SL:= [⟨.l 80,none, .build [.int .i64 0, .int .u64 0, .int .u64 0, .int .u64 0, .int .u64 0, .int .i64 0, .int .i64 0, .nils] []⟩,stV 8 4 80]
def zcf:SL:= [mvV 81 0,mvV 82 1,bnI 83 .add 82 1,clB 84 69 81 83,⟨.v 10,none, .allocL [.int .i64 0, .int .u64 0, .int .u64 0, .int .u64 0, .int .u64 0, .int .i64 0, .int .i64 0, .nils]⟩,stV 8 10 84]
def zce:SL:= [mvV 85 0,clA 86 93 85,bvI 87 .neq 86 41]
def zcd:SL:= [mvV 88 0,mvV 89 0,nlC 90 89,fdL 91 1 90,ldN 92 91,clI 93 107 88 92 3]
def zcc:SL:= [mvV 94 0,nlC 95 94,fdL 96 1 95,ldN 97 96,bnI 98 .add 97 1,nlC 99 94,fdL 100 1 99,stL 100 98]
def zcb:SL:= [ldV 101 8 10,stV 8 4 101]
def zca:SL:= [mvV 102 6,bvI 103 .eql 102 92]
def zb9:SL:= [mvV 104 0,clA 105 93 104,asL 11 11 105]
def zb8:SL:= [mvV 106 11,bvI 107 .lss 106 0]
def zb7:SL:= [mvV 108 0,mvV 109 0,nlC 110 109,fdL 111 1 110,ldN 112 111,clI 113 107 108 112 3]
def zb6:SL:= [⟨.l 114,none, .build [.int .i64 0, .int .u64 0, .int .u64 0, .int .u64 0, .int .u64 0, .int .i64 0, .int .i64 0, .nils] []⟩,stV 8 4 114]
def zb5:SL:= [mvV 115 0,nlC 116 115,fdL 117 1 116,ldN 118 117,bnI 119 .add 118 1,nlC 120 115,fdL 121 1 120,stL 121 119]
def zb4:SL:= [mvV 122 11,bvI 123 .eql 122 110]
def zb3:SL:= [asI 11 11 10]
def zb2:SL:= [mvV 124 11,bvI 125 .eql 124 116]
def zb1:SL:= [asI 11 11 9]
def zb0:SL:= [mvV 126 11,clA 127 109 126,stV 8 4 127]
def zbZ:SL:= [mvV 128 6,bvI 129 .eql 128 46]
def zbY:SL:= [⟨.l 130,none, .call 110 []⟩,⟨.l 131,none, .build [.int .i64 0, .int .u64 0, .int .u64 0, .int .u64 0, .int .u64 0, .int .i64 0, .int .i64 0, .nils] [(0,1,(.c (.int .i64 1))),(1,4,(.l 130))]⟩,stV 8 4 131]
def zbX:SL:= [mvV 132 6,bvI 133 .eql 132 94]
def zbW:SL:= [⟨.l 134,none, .build [.int .i64 0, .int .u64 0, .int .u64 0, .int .u64 0, .int .u64 0, .int .i64 0, .int .i64 0, .nils] [(0,1,(.c (.int .i64 2)))]⟩,stV 8 4 134]
def zbV:SL:= [mvV 135 6,bvI 136 .eql 135 36]
def zbU:SL:= [⟨.l 137,none, .build [.int .i64 0, .int .u64 0, .int .u64 0, .int .u64 0, .int .u64 0, .int .i64 0, .int .i64 0, .nils] [(0,1,(.c (.int .i64 3)))]⟩,stV 8 4 137]
def zbT:SL:= [mvV 138 6,clA 139 109 138,stV 8 4 139]
def a101:AFunc:=⟨2,[0,1,4,5,6,7,8,9,10,11,31,37,43,55,74,76,87,103,107,123,125,129,133,136],[.cell 4 (some 8)],(sR zdc (.seq (.draw zdd) (.seq (sR zdb (cV 31 (sR zda (sT zc9)) .skip)) (.seq (sR zc8 (cV 37 (sR zc7 (sT zc6)) .skip)) (.seq (sR zdt (cV 43 (sR zds (.seq (sR zco (cV 55 (.region zcn) .skip)) (sR zcm (sT zcl)))) .skip)) (sR zck (.seq (sR zcj (cV 74 (.seq (sR zci (cV 76 (sR zch (sT zcg)) .skip)) (sR zcf (.seq (sR zce (cV 87 (.region zcd) .skip)) (sR zcc (sT zcb))))) .skip)) (.seq (sR zca (cV 103 (sR zb9 (.seq (sR zb8 (cV 107 (sR zb7 (sT zb6)) .skip)) (sR zb5 (.seq (sR zb4 (cV 123 (.region zb3) .skip)) (.seq (sR zb2 (cV 125 (.region zb1) .skip)) (sT zb0)))))) .skip)) (.seq (sR zbZ (cV 129 (sT zbY) .skip)) (.seq (sR zbX (cV 133 (sT zbW) .skip)) (.seq (sR zbV (cV 136 (sT zbU) .skip)) (sT zbT)))))))))))),false⟩
def zAz:SL:= [bxV 3 1,⟨.v 4,none, .allocL [.int .i64 0, .int .u64 0, .int .u64 0, .int .u64 0, .int .u64 0, .int .i64 0, .int .i64 0, .nils]⟩]
def zfU:SL:= [mvV 8 0,nlC 9 8,fdL 10 1 9,ldN 11 10,asL 5 5 11,asI 6 6 0,asI 7 7 (-1)]
def zfT:SL:= [mvV 12 0,⟨.v 13,none, .call 93 [.pl (.l 12)]⟩]
def zfS:SL:= [bxI 16 .eql 13 42,asL 15 15 16]
def zfR:SL:= [mvV 17 0,nlC 18 17,fdL 19 1 18,ldN 20 19,bnI 21 .add 20 1,nlC 22 17,fdL 23 1 22,stL 23 21]
def zfQ:SL:= [bxI 25 .eql 13 43,asL 24 24 25]
def zfP:SL:= [mvV 26 0,nlC 27 26,fdL 28 1 27,ldN 29 28,bnI 30 .add 29 1,nlC 31 26,fdL 32 1 31,stL 32 30]
def zfO:SL:= [asI 6 6 1]
def zfN:SL:= [bxI 34 .eql 13 63,asL 33 33 34]
def zfM:SL:= [mvV 35 0,nlC 36 35,fdL 37 1 36,ldN 38 37,bnI 39 .add 38 1,nlC 40 35,fdL 41 1 40,stL 41 39]
def zd6:SL:= [asI 7 7 1]
def zd5:SL:= [bxI 43 .eql 13 123,asL 42 42 43]
def zd4:SL:= [mvV 44 0,nlC 45 44,fdL 46 1 45,ldN 47 46,bnI 48 .add 47 1,nlC 49 44,fdL 50 1 49,stL 50 48]
def zd3:SL:= [mvV 51 0,clA 52 111 51,asL 6 6 52]
def zd2:SL:= [mvV 53 6,asL 7 7 53]
def zd1:SL:= [mvV 54 6,bnI 55 .geq 54 0,mvL 56 55,mgV 57 56 true 0,⟨.l 58,some (.l 56,true), .call 93 [.pl (.l 57)]⟩,bgI 59 56 true .eql 58 44,pvF 60 56 59]
def zd0:SL:= [mvV 61 0,nlC 62 61,fdL 63 1 62,ldN 64 63,bnI 65 .add 64 1,nlC 66 61,fdL 67 1 66,stL 67 65]
def zdZ:SL:= [mvV 68 0,clA 69 93 68,bvI 70 .eql 69 125]
def zdY:SL:= [asI 7 7 (-1)]
def zdX:SL:= [mvV 71 0,clA 72 111 71,asL 7 7 72]
def zdW:SL:= [mvV 73 7,mvV 74 6,bvL 75 .lss 73 74]
def zdV:SL:= [asI 6 6 (-1)]
def zdU:SL:= [mvV 76 6,bnI 77 .lss 76 0,mvL 78 77,mgV 79 78 false 0,⟨.l 80,some (.l 78,false), .call 93 [.pl (.l 79)]⟩,bgI 81 78 false .neq 80 125,pvT 82 78 81]
def zdT:SL:= [mvV 83 0,mvV 84 5,clI 85 107 83 84 50]
def zdS:SL:= [ldV 86 8 3,stV 8 4 86]
def zdR:SL:= [mvV 87 0,nlC 88 87,fdL 89 1 88,ldN 90 89,bnI 91 .add 90 1,nlC 92 87,fdL 93 1 92,stL 93 91]
def zdQ:SL:= [ldV 14 8 3,stV 8 4 14]
def zdP:SL:= [mvV 94 6,mvV 95 7,ldV 96 8 3,⟨.l 97,none, .bslice false (.agg [.int .i64 0, .int .u64 0, .int .u64 0, .int .u64 0, .int .u64 0, .int .i64 0, .int .i64 0, .nils]) 1 [(0,(.l 96))]⟩,⟨.l 98,none, .build [.int .i64 0, .int .u64 0, .int .u64 0, .int .u64 0, .int .u64 0, .int .i64 0, .int .i64 0, .nils] [(0,1,(.c (.int .i64 6))),(5,1,(.l 94)),(6,1,(.l 95)),(7,1,(.l 97))]⟩,stV 8 3 98]
def a102l28:ACode:=(.block 1 (sR zfU (.seq (sR zfT (.block 2 (sR zfS (cV 15 (.region zfR) (sR zfQ (cV 24 (sR zfP (.region zfO)) (sR zfN (cV 33 (sR zfM (.region zd6)) (sR zd5 (cV 42 (sR zd4 (sR zd3 (sR zd2 (.seq (sR zd1 (cV 60 (sR zd0 (sR zdZ (cV 70 (.region zdY) (sR zdX (sR zdW (cV 75 (.region zdV) .skip)))))) .skip)) (.seq (sR zdU (cV 82 (sR zdT (sT zdS)) .skip)) (.region zdR)))))) (sT zdQ))))))))))) (.region zdP))))
def a102:AFunc:=⟨2,[0,1,3,4,5,6,7,13,15,24,33,42,60,70,75,82],[.cell 4 (some 8)],(sR zAz (bL 0 a102l28)),false⟩
def zGu:SL:= [⟨.v 2,none, .asg 2 (.c (.int .u8 0))⟩,asB 3 3 false]
def zGw:Plan:=(.seq 0 (mvV 4 0) (.seq 1 (nlC 5 4) (.seq 2 (fdL 6 1 5) (.seq 3 (ldN 7 6) (.seq 4 (mvV 8 0) (.seq 5 (nlC 9 8) (.seq 6 (fdL 10 0 9) (.seq 7 (ldN 11 10) (.seq 8 (lnS 12 true 11) (.seq 9 (bvL 13 .eql 7 12) .fin))))))))))
def zGt:SL:= [⟨.v 2,none, .asg 2 (.c (.int .u8 0))⟩,asB 3 3 false]
def zGv:Plan:=(.seq 0 (mvV 14 0) (.seq 1 (nlC 15 14) (.seq 2 (fdL 16 0 15) (.seq 3 (ldN 17 16) (.seq 4 (mvV 18 0) (.seq 5 (nlC 19 18) (.seq 6 (fdL 20 1 19) (.seq 7 (ldN 21 20) (.seq 8 ⟨.l 22,none, .sidx (.l 17) (.l 21)⟩ (.seq 9 (asL 2 2 22) (.seq 10 (asB 3 3 true) .fin)))))))))))
def a98:AFunc:=⟨1,[0,2,3,13],[.tmp 2, .tmp 3],(sR zGu (.seq (.seq (.draw zGw) (cV 13 (sT zGt) .skip)) (.seq (.draw zGv) .ret))),true⟩
def zGs:SL:= [⟨.v 4,none, .allocL [.int .i64 0, .int .u64 0, .int .u64 0, .int .u64 0, .int .u64 0, .int .i64 0, .int .i64 0, .nils]⟩]
def zGr:SL:= [mvV 9 0,mvV 10 1,clB 11 105 9 10,⟨.v 5,none, .allocL [.int .i64 0, .int .u64 0, .int .u64 0, .int .u64 0, .int .u64 0, .int .i64 0, .int .i64 0, .nils]⟩,stV 8 5 11]
def ztR:SL:= [mvV 12 0,nlC 13 12,fdL 14 1 13,ldN 15 14,asL 6 6 15]
def ztQ:SL:= [asI 7 7 0,asI 8 8 (-1)]
def ztP:SL:= [mvV 18 0,⟨.l 19,none, .call 88 [.pl (.l 18), .pl (.c (.int .u8 42))]⟩,asL 17 17 19]
def ztO:SL:= [mvV 21 0,⟨.l 22,none, .call 88 [.pl (.l 21), .pl (.c (.int .u8 43))]⟩,asL 20 20 22]
def ztN:SL:= [asI 7 7 1]
def ztM:SL:= [mvV 24 0,⟨.l 25,none, .call 88 [.pl (.l 24), .pl (.c (.int .u8 63))]⟩,asL 23 23 25]
def ztL:SL:= [asI 8 8 1]
def ztK:SL:= [mvV 27 0,⟨.l 28,none, .call 88 [.pl (.l 27), .pl (.c (.int .u8 123))]⟩,asL 26 26 28]
def zmE:SL:= [mvV 30 0,mvV 31 6,clB 32 106 30 31,mvL 29 32,exT 33 0 29,exT 34 1 29,asL 7 7 33,asL 8 8 34]
def zmD:SL:= [ldV 16 8 5,stV 8 4 16]
def zmC:SL:= [mvV 35 7,mvV 36 8,ldV 37 8 5,⟨.l 38,none, .bslice false (.agg [.int .i64 0, .int .u64 0, .int .u64 0, .int .u64 0, .int .u64 0, .int .i64 0, .int .i64 0, .nils]) 1 [(0,(.l 37))]⟩,⟨.l 39,none, .build [.int .i64 0, .int .u64 0, .int .u64 0, .int .u64 0, .int .u64 0, .int .i64 0, .int .i64 0, .nils] [(0,1,(.c (.int .i64 6))),(5,1,(.l 35)),(6,1,(.l 36)),(7,1,(.l 38))]⟩,stV 8 5 39]
def a99l13:ACode:=(.block 1 (sR ztR (sR ztQ (.seq (.block 2 (sR ztP (cV 17 .skip (sR ztO (cV 20 (.region ztN) (sR ztM (cV 23 (.region ztL) (sR ztK (cV 26 (.region zmE) (sT zmD)))))))))) (.region zmC)))))
def a99:AFunc:=⟨2,[0,1,4,5,6,7,8,17,20,23,26],[.cell 4 (some 8)],(sR zGs (sR zGr (bL 0 a99l13))),false⟩
def zEL:SL:= [asI 4 4 0]
def zEK:SL:= [mvV 6 0,⟨.v 7,none, .len false (.l 6)⟩,asI 8 8 0]
def zvz:SL:= [⟨.v 9,none, .bin .lss (.v 8) (.v 7)⟩]
def zAD:SL:= [mvV 10 8,asL 5 5 10]
def zAC:SL:= [mvV 11 1,mvV 12 0,mvV 13 5,ixL 14 8 12 13,ldL 15 8 14,⟨.v 16,none, .callv (.l 11) [.pl (.l 15)]⟩]
def zAB:SL:= [mvV 17 5,asL 4 5 17]
def zAA:SL:= [bxI 18 .add 8 1,asL 8 8 18]
def a100l7:ACode:=(sR zvz (.seq (cV 9 .skip (.exit 0)) (.seq (.block 1 (sR zAD (sR zAC (cV 16 (sT zAB) .skip)))) (.region zAA))))
def zEJ:SL:= [asI 4 4 (-1)]
def a100:AFunc:=⟨2,[0,1,4,5,7,8,9,16],[.tmp 4],(sR zEL (.seq (sR zEK (bL 0 a100l7)) (sT zEJ))),false⟩
def zHf:SL:= [mvV 14 2,bnI 15 .lss 14 0,mvL 16 15,mgV 17 16 false 2,mgV 18 16 false 1,lgS 19 16 false true 18,bgL 20 16 false .gtr 17 19,pvT 21 16 20]
def zHe:SL:= [mvV 22 0,mvV 23 1,mvV 24 0,nlC 25 24,fdL 26 0 25,ldN 27 26,lnS 28 false 27,⟨.l 29,none, .mslice true (.int .i64 0) (.l 28) (.l 28)⟩,⟨.l 30,none, .build [.nilp, .str [], .nils, .int .i64 0] [(0,1,(.l 22)),(1,1,(.l 23)),(2,1,(.l 29)),(3,1,(.c (.int .i64 1)))]⟩,⟨.l 31,none, .boxH (.l 30)⟩,asL 8 8 31]
def zHd:SL:= [mvV 32 8,mvV 33 0,nlC 34 33,fdL 35 1 34,ldN 36 35,mvV 37 2,⟨.l 38,none, .call 61 [.pl (.l 32), .pl (.c .nils), .pl (.l 36), .pl (.l 37)]⟩,asL 9 9 38]
def zHc:SL:= [mvV 39 9,lnS 40 false 39,bvI 41 .gtr 40 0]
def zKZ:SL:= [⟨.v 10,none, .asg 10 (.c .nils)⟩]
def zKY:SL:= [mvV 44 8,nlC 45 44,fdL 46 3 45,ldN 47 46,bnI 48 .add 47 1,nlC 49 44,fdL 50 3 49,stL 50 48]
def zKX:SL:= [⟨.v 51,none, .asg 51 (.v 9)⟩,⟨.v 52,none, .len false (.v 51)⟩,asI 53 53 0]
def znI:SL:= [⟨.v 54,none, .bin .lss (.v 53) (.v 52)⟩]
def zpX:SL:= [⟨.l 55,none, .iaddr 0 (.v 51) (.v 53)⟩,ldN 56 55,asL 12 12 56]
def zpW:SL:= [mvV 57 0,nlC 58 57,fdL 59 0 58,ldN 60 59,mvV 61 12,ixL 62 7 60 61,ldL 63 7 62,⟨.v 13,none, .allocL [.int .i64 0, .int .u64 0, .int .u64 0, .int .u64 0, .int .u64 0, .int .i64 0, .int .i64 0]⟩,stV 7 13 63]
def zjI:SL:= [fdV 65 0 13,ldN 66 65,bnI 67 .eql 66 4,asL 64 64 67]
def zjH:SL:= [mvV 68 3,mvV 69 2,⟨.l 70,none, .callv (.l 68) [.pl (.l 69)]⟩]
def zjJ:Plan:=(.seq 0 (mvV 72 2) (.seq 1 (mvV 73 1) (.seq 2 (lnS 74 true 73) (.seq 3 (bnL 75 .lss 72 74) (.seq 4 (mvL 76 75) (.seq 5 (fdG 77 76 true 1 13) (.seq 6 ⟨.l 78,some (.l 76,true), .load (some 4) (.l 77)⟩ (.seq 7 (mgV 79 76 true 1) (.seq 8 (mgV 80 76 true 2) (.seq 9 ⟨.l 81,some (.l 76,true), .sidx (.l 79) (.l 80)⟩ (.one 10 ⟨.l 82,some (.l 76,true), .call 62 [.pl (.l 78), .pl (.l 81)]⟩ (.seq 11 (pkF 83 76 82) (.seq 12 (asL 71 71 83) .fin)))))))))))))
def zjG:SL:= [mvV 84 8,mvV 85 10,fdV 86 5 13,ldN 87 86,mvV 88 2,bnI 89 .add 88 1,⟨.l 90,none, .call 61 [.pl (.l 84), .tk (.l 85), .pl (.l 87), .pl (.l 89)]⟩,asL 10 10 90]
def zjF:SL:= [bxI 91 .add 53 1,asL 53 53 91]
def a37l15:ACode:=(sR znI (.seq (cV 54 .skip (.exit 2)) (.seq (.block 3 (sR zpX (sR zpW (.block 4 (sR zjI (cV 64 (.region zjH) (.seq (.draw zjJ) (cV 71 (.region zjG) .skip)))))))) (.region zjF))))
def zzf:SL:= [mvV 92 10,asL 9 9 92]
def zze:SL:= [mvV 42 2,bnI 43 .add 42 1,asL 2 2 43]
def a37l18:ACode:=(.seq (sR zHc (cV 41 .skip (.exit 0))) (.seq (.block 1 (sR zKZ (sR zKY (.seq (sR zKX (bL 2 a37l15)) (.region zzf))))) (.region zze)))
def a37:AFunc:=⟨4,[0,1,2,3,8,9,10,12,13,21,41,51,52,53,54,64,71],[],(.seq (sR zHf (cV 21 .ret .skip)) (sR zHe (sR zHd (bL 0 a37l18)))),false⟩
def zKN:SL:= [mvV 3 0,⟨.no,none, .store none (.v 1) (.l 3)⟩]
def a60:AFunc:=⟨2,[0,1],[],(.region zKN),false⟩
def zAs:SL:= [mvV 6 0,nlC 7 6,fdL 8 3 7,ldN 9 8,bvI 10 .eql 9 0]
def zAr:SL:= [mvV 11 0,mvV 12 0,mvV 13 1,mvV 14 2,nlC 15 11,fdL 16 2 15,stL 16 13,nlC 17 12,fdL 18 3 17,stL 18 14]
def a107:AFunc:=⟨3,[0,1,2,10],[],(sR zAs (cV 10 (.region zAr) .skip)),false⟩
def zAq:SL:= [⟨.v 4,none, .allocL [.int .u64 0, .int .u64 0, .int .u64 0, .int .u64 0]⟩,asI 5 5 0,asI 6 6 0]
def zAp:SL:= [mvV 19 1,bnI 20 .lss 19 0,mvL 21 20,mgV 22 21 false 1,mgV 23 21 false 0,lgS 24 21 false true 23,bgL 25 21 false .geq 22 24,pkT 26 21 25,mvL 27 26,mgV 28 27 false 0,mgV 29 27 false 1,⟨.l 30,some (.l 27,false), .sidx (.l 28) (.l 29)⟩,⟨.l 31,some (.l 27,false), .bin .neq (.l 30) (.c (.int .u8 91))⟩,pvT 32 27 31]
def zAm:SL:= [⟨.l 33,none, .build [.int .u64 0, .int .u64 0, .int .u64 0, .int .u64 0] []⟩,stV 4 4 33,asI 5 5 0,asI 6 6 1]
def zAj:SL:= [mvV 34 1,bnI 35 .add 34 1,asL 1 1 35]
def zAh:SL:= [mvV 36 0,mvV 37 1,clB 38 119 36 37,bnI 39 .eql 38 94,asL 7 7 39]
def zAg:SL:= [⟨.v 40,none, .asg 40 (.v 7)⟩]
def zAf:SL:= [mvV 41 1,bnI 42 .add 41 1,asL 1 1 42]
def zAe:SL:= [⟨.l 43,none, .build (List.replicate 256 (.bool false)) []⟩,⟨.v 8,none, .allocL (List.replicate 256 (.bool false))⟩,stV 256 8 43]
def zAd:SL:= [asB 9 9 true]
def zsm:SL:= [mvV 44 9,mvL 45 44,mgV 46 45 false 0,mgV 47 45 false 1,⟨.l 48,some (.l 45,false), .call 119 [.pl (.l 46), .pl (.l 47)]⟩,bgI 49 45 false .neq 48 93,pvT 50 45 49]
def znp:SL:= [mvV 51 0,mvV 52 1,clB 53 119 51 52,bnI 54 .eql 53 91,mvL 55 54,mgV 56 55 true 0,mgV 57 55 true 1,bgI 58 55 true .add 57 1,⟨.l 59,some (.l 55,true), .call 119 [.pl (.l 56), .pl (.l 58)]⟩,bgI 60 55 true .eql 59 58,pvF 61 55 60]
def zAo:SL:= [mvV 62 1,bnI 63 .add 62 2,asL 10 10 63]
def zno:SL:= [mvV 64 10,mvV 65 0,lnS 66 true 65,bnL 67 .lss 64 66,mvL 68 67,mgV 69 68 true 0,mgV 70 68 true 10,⟨.l 71,some (.l 68,true), .call 119 [.pl (.l 69), .pl (.l 70)]⟩,bgI 72 68 true .eql 71 58,mgL 73 68 true 72,mgV 74 73 true 0,mgV 75 73 true 10,bgI 76 73 true .add 75 1,⟨.l 77,some (.l 73,true), .call 119 [.pl (.l 74), .pl (.l 76)]⟩,bgI 78 73 true .eql 77 93,pgF 79 68 true 73 78,⟨.l 80,some (.l 68,true), .un .not (.l 79)⟩,pvF 81 68 80]
def znn:SL:= [mvV 82 10,bnI 83 .add 82 1,asL 10 10 83]
def a108l14:ACode:=(.seq (sR zno (cV 81 .skip (.exit 2))) (.block 3 (.region znn)))
def zul:SL:= [mvV 84 10,mvV 85 0,lnS 86 true 85,bvL 87 .geq 84 86]
def zuk:SL:= [⟨.l 88,none, .build [.int .u64 0, .int .u64 0, .int .u64 0, .int .u64 0] []⟩,stV 4 4 88,asI 5 5 0,asI 6 6 3]
def zAn:SL:= [asI 11 11 0]
def znm:SL:= [mvV 89 11,bvI 90 .lss 89 256]
def znl:SL:= [mvV 94 0,mvV 95 1,bnI 96 .add 95 2,mvV 97 10,⟨.l 98,none, .slice none (.l 94) (some (.l 96)) (some (.l 97))⟩,mvV 99 11,clB 100 120 98 99,mvL 93 100,exT 101 0 93,exT 102 1 93,asL 12 12 101,asL 13 13 102]
def znk:SL:= [mvV 103 13,⟨.v 104,none, .un .not (.l 103)⟩]
def znj:SL:= [⟨.l 105,none, .build [.int .u64 0, .int .u64 0, .int .u64 0, .int .u64 0] []⟩,stV 4 4 105,asI 5 5 0,asI 6 6 40]
def zni:SL:= [mvV 106 11,mvV 107 11,axV 108 256 0 8 107,ldN 109 108,mvL 110 109,mgV 111 110 false 12,pkT 112 110 111,axV 113 256 0 8 106,stL 113 112]
def znh:SL:= [mvV 91 11,bnI 92 .add 91 1,asL 11 11 92]
def a108l24:ACode:=(.seq (sR znm (cV 90 .skip (.exit 4))) (.seq (.block 5 (sR znl (.seq (sR znk (cV 104 (sT znj) .skip)) (.region zni)))) (.region znh)))
def zAl:SL:= [mvV 114 10,bnI 115 .add 114 2,asL 1 1 115]
def zuj:SL:= [mvV 117 0,mvV 118 1,clB 119 121 117 118,mvL 116 119,exT 120 0 116,exT 121 1 116,asL 14 14 120,asL 15 15 121]
def zui:SL:= [mvV 122 14,bvI 123 .lss 122 0]
def zuh:SL:= [⟨.l 124,none, .build [.int .u64 0, .int .u64 0, .int .u64 0, .int .u64 0] []⟩,stV 4 4 124,asI 5 5 0,asI 6 6 3]
def zAk:SL:= [mvV 125 14,asL 16 16 125]
def ziV:SL:= [mvV 126 0,mvV 127 15,clB 128 119 126 127,bnI 129 .eql 128 45,mvL 130 129,mgV 131 130 true 0,mgV 132 130 true 15,bgI 133 130 true .add 132 1,⟨.l 134,some (.l 130,true), .call 119 [.pl (.l 131), .pl (.l 133)]⟩,bgI 135 130 true .neq 134 93,pkF 136 130 135,mvL 137 136,mgV 138 137 true 0,mgV 139 137 true 15,bgI 140 137 true .add 139 1,⟨.l 141,some (.l 137,true), .call 119 [.pl (.l 138), .pl (.l 140)]⟩,bgI 142 137 true .eql 141 91,mgL 143 137 true 142,mgV 144 143 true 0,mgV 145 143 true 15,bgI 146 143 true .add 145 2,⟨.l 147,some (.l 143,true), .call 119 [.pl (.l 144), .pl (.l 146)]⟩,bgI 148 143 true .eql 147 58,pgF 149 137 true 143 148,⟨.l 150,some (.l 137,true), .un .not (.l 149)⟩,pvF 151 137 150]
def zqs:SL:= [mvV 153 0,mvV 154 15,bnI 155 .add 154 1,clB 156 121 153 155,mvL 152 156,exT 157 0 152,exT 158 1 152,asL 16 16 157,asL 15 15 158]
def zqr:SL:= [mvV 159 16,bvI 160 .lss 159 0]
def zqq:SL:= [⟨.l 161,none, .build [.int .u64 0, .int .u64 0, .int .u64 0, .int .u64 0] []⟩,stV 4 4 161,asI 5 5 0,asI 6 6 3]
def zug:SL:= [mvV 162 16,mvV 163 14,bvL 164 .lss 162 163]
def zAi:SL:= [⟨.l 165,none, .build [.int .u64 0, .int .u64 0, .int .u64 0, .int .u64 0] []⟩,stV 4 4 165,asI 5 5 0,asI 6 6 4]
def zuf:SL:= [mvV 166 14,asL 17 17 166]
def zue:SL:= [mvV 167 17,mvV 168 16,bvL 169 .leq 167 168]
def zua:SL:= [mvV 172 17,axV 173 256 0 8 172,⟨.no,none, .store none (.l 173) (.c (.bool true))⟩]
def zt9:SL:= [mvV 170 17,bnI 171 .add 170 1,asL 17 17 171]
def a108l40:ACode:=(.seq (sR zue (cV 169 .skip (.exit 6))) (.seq (.block 7 (.region zua)) (.region zt9)))
def zt8:SL:= [mvV 174 15,asL 1 1 174]
def zqp:SL:= [asB 9 9 false]
def a108l43:ACode:=(.seq (sR zsm (cV 50 .skip (.exit 0))) (.seq (.block 1 (.seq (sR znp (cV 61 (sR zAo (.seq (bL 2 a108l14) (.seq (sR zul (cV 87 (sT zuk) .skip)) (.seq (sR zAn (bL 4 a108l24)) (sR zAl (.exit 1)))))) .skip)) (sR zuj (.seq (sR zui (cV 123 (sT zuh) .skip)) (sR zAk (.seq (sR ziV (cV 151 (sR zqs (.seq (sR zqr (cV 160 (sT zqq) .skip)) (sR zug (cV 164 (sT zAi) .skip)))) .skip)) (.seq (sR zuf (bL 6 a108l40)) (.region zt8)))))))) (.region zqp)))
def zqo:SL:= [⟨.v 175,none, .asg 175 (.v 7)⟩]
def zqn:SL:= [asI 18 18 0]
def zt7:SL:= [mvV 176 18,bvI 177 .lss 176 256]
def zt6:SL:= [mvV 180 18,mvV 181 18,axV 182 256 0 8 181,ldN 183 182,⟨.l 184,none, .un .not (.l 183)⟩,axV 185 256 0 8 180,stL 185 184]
def zt5:SL:= [mvV 178 18,bnI 179 .add 178 1,asL 18 18 179]
def a108l49:ACode:=(.seq (sR zt7 (cV 177 .skip (.exit 8))) (.seq (.block 9 (.region zt6)) (.region zt5)))
def zqm:SL:= [ldV 186 256 8,clA 187 122 186,mvV 188 1,bnI 189 .add 188 1,stV 4 4 187,asL 5 5 189,asI 6 6 0]
def a108:AFunc:=⟨2,[0,1,4,5,6,7,8,9,10,11,12,13,14,15,16,17,18,32,40,50,61,81,87,90,104,123,151,160,164,169,175,177],[.cell 4 (some 4), .tmp 5, .tmp 6],(sR zAq (.seq (sR zAp (cV 32 (sT zAm) .skip)) (sR zAj (sR zAh (.seq (sR zAg (cV 40 (.region zAf) .skip)) (sR zAe (.seq (sR zAd (bL 0 a108l43)) (.seq (sR zqo (cV 175 (sR zqn (bL 8 a108l49)) .skip)) (sT zqm))))))))),true⟩
def zEI:SL:= [⟨.v 2,none, .allocL [.int .i64 0, .int .u64 0, .int .u64 0, .int .u64 0, .int .u64 0, .int .i64 0, .int .i64 0, .nils]⟩]
def zEH:SL:= [⟨.l 4,none, .build (List.replicate 256 (.bool false)) []⟩,⟨.v 3,none, .allocL (List.replicate 256 (.bool false))⟩,stV 256 3 4]
def zEG:SL:= [mvV 5 0,axV 6 256 0 3 5,⟨.no,none, .store none (.l 6) (.c (.bool true))⟩]
def zEF:SL:= [ldV 7 256 3,clA 8 122 7,⟨.l 9,none, .build [.int .i64 0, .int .u64 0, .int .u64 0, .int .u64 0, .int .u64 0, .int .i64 0, .int .i64 0, .nils] [(0,1,(.c (.int .i64 1))),(1,4,(.l 8))]⟩,stV 8 2 9]
def a109:AFunc:=⟨1,[0,2,3],[.cell 2 (some 8)],(sR zEI (sR zEH (sR zEG (sT zEF)))),true⟩
def zEE:SL:= [⟨.v 0,none, .allocL [.int .u64 0, .int .u64 0, .int .u64 0, .int .u64 0]⟩]
def zED:SL:= [⟨.l 1,none, .build [.int .u64 0, .int .u64 0, .int .u64 0, .int .u64 0] [(0,1,(.c (.int .u64 18446744073709551615))),(1,1,(.c (.int .u64 18446744073709551615))),(2,1,(.c (.int .u64 18446744073709551615))),(3,1,(.c (.int .u64 18446744073709551615)))]⟩,stV 4 0 1]
def a110:AFunc:=⟨0,[0],[.cell 0 (some 4)],(sR zEE (sT zED)),true⟩
def zEC:SL:= [asI 2 2 0]
def zEB:SL:= [asI 3 3 0,asI 4 4 0]
def zj4:SL:= [mvV 5 4,bnI 6 .lss 5 2,mvL 7 6,mgV 8 7 true 0,⟨.l 9,some (.l 7,true), .call 93 [.pl (.l 8)]⟩,bgI 10 7 true .geq 9 48,pkF 11 7 10,mvL 12 11,mgV 13 12 true 0,⟨.l 14,some (.l 12,true), .call 93 [.pl (.l 13)]⟩,bgI 15 12 true .leq 14 57,pvF 16 12 15]
def zz8:SL:= [mvV 17 3,bnI 18 .mul 17 10,mvV 19 0,clA 20 93 19,bnL 21 .add 18 20,bnI 22 .sub 21 48,mvV 23 4,bnI 24 .add 23 1,asL 3 3 22,asL 4 4 24]
def zz7:SL:= [mvV 25 0,nlC 26 25,fdL 27 1 26,ldN 28 27,bnI 29 .add 28 1,nlC 30 25,fdL 31 1 30,stL 31 29]
def a111l5:ACode:=(.seq (sR zj4 (cV 16 .skip (.exit 0))) (.block 1 (sR zz8 (.region zz7))))
def zng:SL:= [mvV 32 4,bnI 33 .eql 32 0,mvL 34 33,mgV 35 34 false 3,bgI 36 34 false .gtr 35 50,pvT 37 34 36]
def znf:SL:= [asI 2 2 (-1)]
def zne:SL:= [mvV 38 3,asL 2 3 38]
def a111:AFunc:=⟨1,[0,2,3,4,16,37],[.tmp 2],(sR zEC (sR zEB (.seq (bL 0 a111l5) (.seq (sR zng (cV 37 (sT znf) .skip)) (sT zne))))),false⟩
def zdE:SL:= [⟨.v 4,none, .allocL [.int .i64 0, .int .u64 0, .int .u64 0, .int .u64 0, .int .u64 0, .int .i64 0, .int .i64 0, .nils]⟩]
def zdD:SL:= [mvV 12 0,nlC 13 12,fdL 14 1 13,ldN 15 14,asL 5 5 15]
def zdC:SL:= [mvV 17 0,clA 18 98 17,mvL 16 18,exT 19 0 16,exT 20 1 16,asL 6 6 19,asL 7 7 20]
def zdB:SL:= [⟨.v 21,none, .asg 21 (.v 6)⟩]
def zdA:SL:= [bxU 23 .eql 21 42,asL 22 22 23]
def zdz:SL:= [bxU 24 .eql 21 43,asL 22 22 24]
def zdy:SL:= [bxU 25 .eql 21 63,asL 22 22 25]
def zdx:SL:= [bxU 26 .eql 21 123,asL 22 22 26]
def zgQ:SL:= [mvV 27 0,mvV 28 5,clI 29 113 27 28 50]
def zfk:SL:= [bxU 31 .eql 21 41,asL 30 30 31]
def zhK:SL:= [mvV 32 0,mvV 33 5,clI 34 113 32 33 4]
def zdO:SL:= [bxU 36 .eql 21 91,asL 35 35 36]
def ziZ:SL:= [mvV 38 0,nlC 39 38,fdL 40 0 39,ldN 41 40,mvV 42 5,clB 43 114 41 42,mvL 37 43,exT 44 0 37,exT 45 1 37,exT 46 2 37,⟨.v 8,none, .allocL [.int .u64 0, .int .u64 0, .int .u64 0, .int .u64 0]⟩,stV 4 8 44,asL 9 9 45,asL 10 10 46]
def ziY:SL:= [mvV 47 10,bvI 48 .neq 47 0]
def ziX:SL:= [mvV 49 0,mvV 50 5,mvV 51 10,clC 52 113 49 50 51]
def zkP:SL:= [mvV 53 0,mvV 54 9,nlC 55 53,fdL 56 1 55,stL 56 54]
def zkO:SL:= [ldV 57 4 8,⟨.l 58,none, .build [.int .i64 0, .int .u64 0, .int .u64 0, .int .u64 0, .int .u64 0, .int .i64 0, .int .i64 0, .nils] [(0,1,(.c (.int .i64 1))),(1,4,(.l 57))]⟩,stV 8 4 58]
def ze3:SL:= [mvV 59 0,nlC 60 59,fdL 61 1 60,ldN 62 61,bnI 63 .add 62 1,nlC 64 59,fdL 65 1 64,stL 65 63]
def ze2:SL:= [⟨.v 66,none, .asg 66 (.v 6)⟩]
def ze1:SL:= [bxU 68 .eql 66 40,asL 67 67 68]
def znt:SL:= [mvV 69 1,bvI 70 .geq 69 20]
def zns:SL:= [mvV 71 0,mvV 72 5,clI 73 113 71 72 2]
def zqv:SL:= [mvV 74 0,mvV 75 1,bnI 76 .add 75 1,clB 77 86 74 76,⟨.v 11,none, .allocL [.int .i64 0, .int .u64 0, .int .u64 0, .int .u64 0, .int .u64 0, .int .i64 0, .int .i64 0, .nils]⟩,stV 8 11 77]
def zup:SL:= [mvV 78 0,⟨.l 79,none, .call 88 [.pl (.l 78), .pl (.c (.int .u8 41))]⟩,⟨.v 80,none, .un .not (.l 79)⟩]
def zuo:SL:= [mvV 81 0,mvV 82 0,nlC 83 82,fdL 84 1 83,ldN 85 84,clI 86 113 81 85 3]
def zun:SL:= [ldV 87 8 11,stV 8 4 87]
def ziW:SL:= [bxU 89 .eql 66 46,asL 88 88 89]
def zkN:SL:= [⟨.l 90,none, .build [.int .u64 0, .int .u64 0, .int .u64 0, .int .u64 0] []⟩,clA 91 115 90,⟨.l 92,none, .build [.int .i64 0, .int .u64 0, .int .u64 0, .int .u64 0, .int .u64 0, .int .i64 0, .int .i64 0, .nils] [(0,1,(.c (.int .i64 1))),(1,4,(.l 91))]⟩,stV 8 4 92]
def zkM:SL:= [bxU 94 .eql 66 94,asL 93 93 94]
def znr:SL:= [⟨.l 95,none, .build [.int .i64 0, .int .u64 0, .int .u64 0, .int .u64 0, .int .u64 0, .int .i64 0, .int .i64 0, .nils] [(0,1,(.c (.int .i64 2)))]⟩,stV 8 4 95]
def znq:SL:= [bxU 97 .eql 66 36,asL 96 96 97]
def zqu:SL:= [⟨.l 98,none, .build [.int .i64 0, .int .u64 0, .int .u64 0, .int .u64 0, .int .u64 0, .int .i64 0, .int .i64 0, .nils] [(0,1,(.c (.int .i64 3)))]⟩,stV 8 4 98]
def zqt:SL:= [bxU 100 .eql 66 92,asL 99 99 100]
def zum:SL:= [mvV 101 0,clA 102 116 101,clA 103 117 102,stV 8 4 103]
def zAt:SL:= [mvV 104 6,clA 105 117 104,stV 8 4 105]
def a105:AFunc:=⟨2,[0,1,4,5,6,7,8,9,10,11,21,22,30,35,48,66,67,70,80,88,93,96,99],[.cell 4 (some 8)],(sR zdE (sR zdD (sR zdC (.seq (sR zdB (.block 0 (.seq (sR zdA (.cond false (.v 22) .skip (sR zdz (.cond false (.v 22) .skip (sR zdy (.cond false (.v 22) .skip (.region zdx))))))) (.cond false (.v 22) (.region zgQ) (sR zfk (cV 30 (.region zhK) (sR zdO (cV 35 (sR ziZ (.seq (sR ziY (cV 48 (.region ziX) .skip)) (sR zkP (sT zkO)))) .skip)))))))) (sR ze3 (.seq (sR ze2 (.block 1 (sR ze1 (cV 67 (.seq (sR znt (cV 70 (.region zns) .skip)) (sR zqv (.seq (sR zup (cV 80 (.region zuo) .skip)) (sT zun)))) (sR ziW (cV 88 (sT zkN) (sR zkM (cV 93 (sT znr) (sR znq (cV 96 (sT zqu) (sR zqt (cV 99 (sT zum) .skip)))))))))))) (sT zAt))))))),false⟩
def zke:SL:= [asI 4 4 0,asI 5 5 0]
def zkd:SL:= [mvV 10 0,clA 11 118 10,mvL 9 11,exT 12 0 9,exT 13 1 9,asL 6 6 12,asL 7 7 13]
def zkc:SL:= [mvV 14 6,asL 8 8 14]
def zkb:SL:= [mvV 15 7,mvL 16 15,mgV 17 16 true 0,⟨.l 18,some (.l 16,true), .call 88 [.pl (.l 17), .pl (.c (.int .u8 44))]⟩,pvF 19 16 18]
def zka:SL:= [mvV 20 0,⟨.v 21,none, .call 88 [.pl (.l 20), .pl (.c (.int .u8 125))]⟩]
def zj9:SL:= [mvV 22 6,asL 4 6 22,asI 5 5 (-1)]
def zj8:SL:= [mvV 24 0,clA 25 118 24,mvL 23 25,exT 26 0 23,exT 27 1 23,asL 8 8 26,asL 7 7 27]
def zj7:SL:= [mvV 28 7,⟨.l 29,none, .un .not (.l 28)⟩,mvL 30 29,mgV 31 30 false 8,mgV 32 30 false 6,bgL 33 30 false .lss 31 32,pkT 34 30 33,mvL 35 34,mgV 36 35 false 0,⟨.l 37,some (.l 35,false), .call 88 [.pl (.l 36), .pl (.c (.int .u8 125))]⟩,⟨.l 38,some (.l 35,false), .un .not (.l 37)⟩,pvT 39 35 38]
def zj6:SL:= [mvV 40 0,mvV 41 1,clI 42 113 40 41 50]
def zj5:SL:= [mvV 43 6,mvV 44 8,asL 4 6 43,asL 5 8 44]
def a106:AFunc:=⟨2,[0,1,4,5,6,7,8,19,21,39],[.tmp 4, .tmp 5],(sR zke (sR zkd (sR zkc (.seq (sR zkb (cV 19 (.seq (sR zka (cV 21 (sT zj9) .skip)) (.region zj8)) .skip)) (.seq (sR zj7 (cV 39 (.region zj6) .skip)) (sT zj5)))))),false⟩
def zmT:SL:= [⟨.v 8,none, .asg 8 (.c .nils)⟩]
def zmS:SL:= [mvV 11 2,⟨.l 12,none, .bslice true (.int .i64 0) 1 [(0,(.l 11))]⟩,asL 9 9 12]
def zmR:SL:= [mvV 13 9,lnS 14 false 13,bvI 15 .gtr 14 0]
def znG:SL:= [mvV 16 9,mvV 17 9,lnS 18 false 17,bnI 19 .sub 18 1,ixL 20 0 16 19,ldN 21 20,asL 2 2 21]
def znF:SL:= [mvV 22 9,mvV 23 9,lnS 24 false 23,bnI 25 .sub 24 1,⟨.l 26,none, .slice (some 0) (.l 22) none (some (.l 25))⟩,asL 9 9 26]
def znH:Plan:=(.seq 0 (mvV 27 0) (.seq 1 (nlC 28 27) (.seq 2 (fdL 29 2 28) (.seq 3 (ldN 30 29) (.seq 4 (mvV 31 2) (.seq 5 (ixL 32 0 30 31) (.seq 6 (ldN 33 32) (.seq 7 (mvV 34 0) (.seq 8 (nlC 35 34) (.seq 9 (fdL 36 3 35) (.seq 10 (ldN 37 36) (.seq 11 (bvL 38 .eql 33 37) .fin))))))))))))
def zpV:Plan:=(.seq 0 (mvV 39 0) (.seq 1 (nlC 40 39) (.seq 2 (fdL 41 2 40) (.seq 3 (ldN 42 41) (.seq 4 (mvV 43 2) (.seq 5 (mvV 44 0) (.seq 6 (nlC 45 44) (.seq 7 (fdL 46 3 45) (.seq 8 (ldN 47 46) (.seq 9 (ixL 48 0 42 43) (.one 10 (stL 48 47) .fin)))))))))))
def zpU:SL:= [mvV 49 0,nlC 50 49,fdL 51 0 50,ldN 52 51,nlC 53 52,fdL 54 0 53,ldN 55 54,mvV 56 2,ixL 57 7 55 56,ldL 58 7 57,⟨.v 10,none, .allocL [.int .i64 0, .int .u64 0, .int .u64 0, .int .u64 0, .int .u64 0, .int .i64 0, .int .i64 0]⟩,stV 7 10 58]
def zpT:SL:= [fdV 60 0 10,ldN 61 60,bnI 62 .eql 61 3,asL 59 59 62]
def zpS:SL:= [mvV 63 9,fdV 64 6 10,ldN 65 64,fdV 66 5 10,ldN 67 66,⟨.l 68,none, .bslice false (.int .i64 0) 2 [(0,(.l 65)),(1,(.l 67))]⟩,apL 69 0 63 68,asL 9 9 69]
def zjE:SL:= [fdV 71 0 10,ldN 72 71,bnI 73 .eql 72 1,mvL 74 73,mgV 75 74 true 3,bgI 76 74 true .eql 75 0,pkF 77 74 76,asL 70 70 77]
def zjD:SL:= [fdV 78 0 10,ldN 79 78,bnI 80 .eql 79 2,mvL 81 80,mgV 82 81 true 3,mgV 83 81 true 0,nlG 84 81 true 83,fgL 85 81 true 1 84,ldG 86 81 true 85,lgS 87 81 true true 86,bgL 88 81 true .eql 82 87,pkF 89 81 88,asL 70 70 89]
def zjC:SL:= [mvV 90 9,fdV 91 5 10,ldN 92 91,⟨.l 93,none, .bslice false (.int .i64 0) 1 [(0,(.l 92))]⟩,apL 94 0 90 93,asL 9 9 94]
def zjB:SL:= [fdV 96 0 10,ldN 97 96,bnI 98 .eql 97 0,mvL 99 98,fdG 100 99 false 0 10,ldG 101 99 false 100,bgI 102 99 false .eql 101 4,pkT 103 99 102,asL 95 95 103]
def zjA:SL:= [mvV 104 1,mvV 105 2,⟨.l 106,none, .bslice false (.int .i64 0) 1 [(0,(.l 105))]⟩,apL 107 0 104 106,asL 1 1 107]
def a61l15:ACode:=(.seq (sR zmR (cV 15 .skip (.exit 0))) (.block 1 (sR znG (sR znF (.seq (.seq (.draw znH) (cV 38 (.exit 1) .skip)) (.seq (.draw zpV) (sR zpU (.block 2 (sR zpT (cV 59 (.region zpS) (.seq (sR zjE (.cond false (.v 70) .skip (.region zjD))) (.cond false (.v 70) (.region zjC) (sR zjB (cV 95 (.region zjA) .skip))))))))))))))
def zfI:SL:= [mvV 108 1,asL 8 1 108]
def a61:AFunc:=⟨4,[0,1,2,3,8,9,10,15,38,59,70,95],[.tmp 8],(sR zmT (sR zmS (.seq (bL 0 a61l15) (sT zfI)))),false⟩
def zKM:SL:= [bxV 2 0,asB 4 4 false]
def zKL:SL:= [ldV 5 4 2,mvV 6 1,clB 7 84 5 6,asL 4 4 7]
def a62:AFunc:=⟨2,[0,1,2,4],[.tmp 4],(sR zKM (sT zKL)),true⟩
def zzX:SL:= [asI 4 4 0]
def zzW:SL:= [mvV 5 1,mvV 6 0,lnS 7 true 6,bvL 8 .lss 5 7]
def zzV:SL:= [mvV 9 0,mvV 10 1,⟨.l 11,none, .sidx (.l 9) (.l 10)⟩,⟨.l 12,none, .conv .i64 (.l 11)⟩,asL 4 4 12]
def zzU:SL:= [asI 4 4 (-1)]
def a119:AFunc:=⟨2,[0,1,4,8],[.tmp 4],(sR zzX (.seq (sR zzW (cV 8 (sT zzV) .skip)) (sT zzU))),true⟩
def zj3:SL:= [asB 4 4 false,asB 5 5 false]
def zj2:SL:= [mvV 9 1,bnI 10 .geq 9 65,mvL 11 10,mgV 12 11 true 1,bgI 13 11 true .leq 12 90,pkF 14 11 13,mvV 15 1,bnI 16 .geq 15 97,mvL 17 16,mgV 18 17 true 1,bgI 19 17 true .leq 18 122,pkF 20 17 19,mvV 21 1,bnI 22 .geq 21 48,mvL 23 22,mgV 24 23 true 1,bgI 25 23 true .leq 24 57,pkF 26 23 25,asL 6 6 14,asL 7 7 20,asL 8 8 26]
def zj1:SL:= [⟨.v 27,none, .asg 27 (.v 0)⟩]
def zj0:SL:= [⟨.l 29,none, .bin .eql (.v 27) (.c (.str [97,108,112,104,97]))⟩,asL 28 28 29]
def zjZ:SL:= [mvV 30 6,mvL 31 30,mgV 32 31 false 7,pkT 33 31 32,asL 4 4 33,asB 5 5 true]
def zjY:SL:= [⟨.l 35,none, .bin .eql (.v 27) (.c (.str [100,105,103,105,116]))⟩,asL 34 34 35]
def zjX:SL:= [mvV 36 8,asL 4 8 36,asB 5 5 true]
def zjW:SL:= [⟨.l 38,none, .bin .eql (.v 27) (.c (.str [97,108,110,117,109]))⟩,asL 37 37 38]
def zjV:SL:= [mvV 39 6,mvL 40 39,mgV 41 40 false 7,pkT 42 40 41,mvL 43 42,mgV 44 43 false 8,pkT 45 43 44,asL 4 4 45,asB 5 5 true]
def zjU:SL:= [⟨.l 47,none, .bin .eql (.v 27) (.c (.str [117,112,112,101,114]))⟩,asL 46 46 47]
def zgw:SL:= [mvV 48 6,asL 4 6 48,asB 5 5 true]
def zgv:SL:= [⟨.l 50,none, .bin .eql (.v 27) (.c (.str [108,111,119,101,114]))⟩,asL 49 49 50]
def zgu:SL:= [mvV 51 7,asL 4 7 51,asB 5 5 true]
def zgt:SL:= [⟨.l 53,none, .bin .eql (.v 27) (.c (.str [115,112,97,99,101]))⟩,asL 52 52 53]
def zgs:SL:= [mvV 54 1,bnI 55 .eql 54 32,mvL 56 55,mgV 57 56 false 1,bgI 58 56 false .geq 57 9,mgL 59 56 false 58,mgV 60 59 true 1,bgI 61 59 true .leq 60 13,pgF 62 56 false 59 61,pkT 63 56 62,asL 4 4 63,asB 5 5 true]
def zgr:SL:= [⟨.l 65,none, .bin .eql (.v 27) (.c (.str [98,108,97,110,107]))⟩,asL 64 64 65]
def zgq:SL:= [mvV 66 1,bnI 67 .eql 66 32,mvL 68 67,mgV 69 68 false 1,bgI 70 68 false .eql 69 9,pkT 71 68 70,asL 4 4 71,asB 5 5 true]
def zgp:SL:= [⟨.l 73,none, .bin .eql (.v 27) (.c (.str [112,117,110,99,116]))⟩,asL 72 72 73]
def zgo:SL:= [mvV 74 1,bnI 75 .gtr 74 32,mvL 76 75,mgV 77 76 true 1,bgI 78 76 true .lss 77 127,pkF 79 76 78,mvL 80 79,mgV 81 80 true 6,⟨.l 82,some (.l 80,true), .un .not (.l 81)⟩,pkF 83 80 82,mvL 84 83,mgV 85 84 true 7,⟨.l 86,some (.l 84,true), .un .not (.l 85)⟩,pkF 87 84 86,mvL 88 87,mgV 89 88 true 8,⟨.l 90,some (.l 88,true), .un .not (.l 89)⟩,pkF 91 88 90,asL 4 4 91,asB 5 5 true]
def zgn:SL:= [⟨.l 93,none, .bin .eql (.v 27) (.c (.str [112,114,105,110,116]))⟩,asL 92 92 93]
def zgm:SL:= [mvV 94 1,bnI 95 .geq 94 32,mvL 96 95,mgV 97 96 true 1,bgI 98 96 true .lss 97 127,pkF 99 96 98,asL 4 4 99,asB 5 5 true]
def zgl:SL:= [⟨.l 101,none, .bin .eql (.v 27) (.c (.str [103,114,97,112,104]))⟩,asL 100 100 101]
def zgk:SL:= [mvV 102 1,bnI 103 .gtr 102 32,mvL 104 103,mgV 105 104 true 1,bgI 106 104 true .lss 105 127,pkF 107 104 106,asL 4 4 107,asB 5 5 true]
def zgj:SL:= [⟨.l 109,none, .bin .eql (.v 27) (.c (.str [99,110,116,114,108]))⟩,asL 108 108 109]
def zgi:SL:= [mvV 110 1,bnI 111 .lss 110 32,mvL 112 111,mgV 113 112 false 1,bgI 114 112 false .eql 113 127,pkT 115 112 114,asL 4 4 115,asB 5 5 true]
def zgh:SL:= [⟨.l 117,none, .bin .eql (.v 27) (.c (.str [120,100,105,103,105,116]))⟩,asL 116 116 117]
def zgg:SL:= [mvV 118 8,mvL 119 118,mgV 120 119 false 1,bgI 121 119 false .geq 120 65,mgL 122 119 false 121,mgV 123 122 true 1,bgI 124 122 true .leq 123 70,pgF 125 119 false 122 124,pkT 126 119 125,mvL 127 126,mgV 128 127 false 1,bgI 129 127 false .geq 128 97,mgL 130 127 false 129,mgV 131 130 true 1,bgI 132 130 true .leq 131 102,pgF 133 127 false 130 132,pkT 134 127 133,asL 4 4 134,asB 5 5 true]
def zgf:SL:= [asB 4 4 false,asB 5 5 false]
def a120:AFunc:=⟨2,[0,1,4,5,6,7,8,27,28,34,37,46,49,52,64,72,92,100,108,116],[.tmp 4, .tmp 5],(sR zj3 (sR zj2 (.seq (sR zj1 (.block 0 (sR zj0 (cV 28 (sT zjZ) (sR zjY (cV 34 (sT zjX) (sR zjW (cV 37 (sT zjV) (sR zjU (cV 46 (sT zgw) (sR zgv (cV 49 (sT zgu) (sR zgt (cV 52 (sT zgs) (sR zgr (cV 64 (sT zgq) (sR zgp (cV 72 (sT zgo) (sR zgn (cV 92 (sT zgm) (sR zgl (cV 100 (sT zgk) (sR zgj (cV 108 (sT zgi) (sR zgh (cV 116 (sT zgg) .skip)))))))))))))))))))))))))) (sT zgf)))),true⟩
def zsb:SL:= [asI 4 4 0,asI 5 5 0]
def zsa:SL:= [mvV 7 0,mvV 8 1,clB 9 119 7 8,bvI 10 .neq 9 92]
def zr9:SL:= [mvV 11 0,mvV 12 1,clB 13 119 11 12,mvV 14 1,bnI 15 .add 14 1,asL 4 4 13,asL 5 5 15]
def zr8:SL:= [mvV 16 0,mvV 17 1,bnI 18 .add 17 1,clB 19 119 16 18,asL 6 6 19]
def zr7:SL:= [mvV 20 6,bvI 21 .eql 20 110]
def zr6:SL:= [asI 6 6 10]
def zr5:SL:= [mvV 22 6,bvI 23 .eql 22 116]
def zr4:SL:= [asI 6 6 9]
def zr3:SL:= [mvV 24 6,mvV 25 1,bnI 26 .add 25 2,asL 4 6 24,asL 5 5 26]
def a121:AFunc:=⟨2,[0,1,4,5,6,10,21,23],[.tmp 4, .tmp 5],(sR zsb (.seq (sR zsa (cV 10 (sT zr9) .skip)) (sR zr8 (.seq (sR zr7 (cV 21 (.region zr6) .skip)) (.seq (sR zr5 (cV 23 (.region zr4) .skip)) (sT zr3)))))),true⟩
def zEt:SL:= [bxV 1 0,⟨.v 2,none, .allocL [.int .u64 0, .int .u64 0, .int .u64 0, .int .u64 0]⟩]
def zEs:SL:= [⟨.l 5,none, .build [.int .u64 0, .int .u64 0, .int .u64 0, .int .u64 0] []⟩,⟨.v 3,none, .allocL [.int .u64 0, .int .u64 0, .int .u64 0, .int .u64 0]⟩,stV 4 3 5]
def zEr:SL:= [asI 4 4 255]
def zvy:SL:= [mvV 6 4,bvI 7 .geq 6 0]
def zzT:SL:= [mvV 10 4,bnI 11 .quo 10 64,mvV 12 4,bnI 13 .quo 12 64,axV 14 4 0 3 13,ldN 15 14,⟨.l 16,none, .bin .mul (.l 15) (.c (.int .u64 2))⟩,axV 17 4 0 3 11,stL 17 16]
def zzS:SL:= [mvV 18 4,axV 19 256 0 1 18,⟨.v 20,none, .load none (.l 19)⟩]
def zzR:SL:= [mvV 21 4,bnI 22 .quo 21 64,axV 23 4 0 3 22,ldN 24 23,⟨.l 25,none, .bin .add (.l 24) (.c (.int .u64 1))⟩,axV 26 4 0 3 22,stL 26 25]
def zzQ:SL:= [mvV 8 4,bnI 9 .sub 8 1,asL 4 4 9]
def a122l8:ACode:=(.seq (sR zvy (cV 7 .skip (.exit 0))) (.seq (.block 1 (sR zzT (sR zzS (cV 20 (.region zzR) .skip)))) (.region zzQ)))
def zEq:SL:= [ldV 27 4 3,stV 4 2 27]
def a122:AFunc:=⟨1,[0,1,2,3,4,7,20],[.cell 2 (some 4)],(sR zEt (sR zEs (.seq (sR zEr (bL 0 a122l8)) (sT zEq)))),true⟩
def zEA:SL:= [mvV 6 1,mvV 7 2,⟨.l 8,none, .build [.int .i64 0, .int .i64 0] [(0,1,(.l 6)),(1,1,(.l 7))]⟩,⟨.l 9,none, .mkifc 1 (.l 8)⟩,⟨.no,none, .panic (.l 9)⟩]
def a113:AFunc:=⟨3,[0,1,2],[],(.region zEA),true⟩
def zz6:SL:= [⟨.v 4,none, .allocL [.int .u64 0, .int .u64 0, .int .u64 0, .int .u64 0]⟩,asI 5 5 0,asI 6 6 0]
def zz5:SL:= [mvV 13 1,bnI 14 .lss 13 0,mvL 15 14,mgV 16 15 false 1,mgV 17 15 false 0,lgS 18 15 false true 17,bgL 19 15 false .geq 16 18,pkT 20 15 19,mvL 21 20,mgV 22 21 false 0,mgV 23 21 false 1,⟨.l 24,some (.l 21,false), .sidx (.l 22) (.l 23)⟩,⟨.l 25,some (.l 21,false), .bin .neq (.l 24) (.c (.int .u8 91))⟩,pvT 26 21 25]
def zz4:SL:= [⟨.l 27,none, .build [.int .u64 0, .int .u64 0, .int .u64 0, .int .u64 0] []⟩,stV 4 4 27,asI 5 5 0,asI 6 6 1]
def zz3:SL:= [mvV 28 0,mvV 29 1,bnI 30 .add 29 1,⟨.l 31,none, .build [.str [], .int .i64 0] [(0,1,(.l 28)),(1,1,(.l 30))]⟩,⟨.l 32,none, .boxH (.l 31)⟩,asL 7 7 32]
def zz2:SL:= [mvV 33 7,⟨.l 34,none, .call 124 [.pl (.l 33), .pl (.c (.str [94]))]⟩,asL 8 8 34]
def zz1:SL:= [⟨.v 35,none, .asg 35 (.v 8)⟩]
def zz0:SL:= [mvV 36 7,nlC 37 36,fdL 38 1 37,ldN 39 38,bnI 40 .add 39 1,nlC 41 36,fdL 42 1 41,stL 42 40]
def zzZ:SL:= [⟨.v 9,none, .allocL [.int .u64 0, .int .u64 0, .int .u64 0, .int .u64 0]⟩]
def zzY:SL:= [asB 10 10 true]
def zo0:SL:= [mvV 43 10,mvL 44 43,mgV 45 44 false 7,⟨.l 46,some (.l 44,false), .call 124 [.pl (.l 45), .pl (.c (.str [93]))]⟩,⟨.l 47,some (.l 44,false), .un .not (.l 46)⟩,pvT 48 44 47]
def znd:SL:= [mvV 50 7,clA 51 125 50,mvL 49 51,exT 52 0 49,exT 53 1 49,⟨.v 11,none, .allocL [.int .u64 0, .int .u64 0, .int .u64 0, .int .u64 0]⟩,stV 4 11 52,asL 12 12 53]
def znc:SL:= [mvV 54 12,bvI 55 .neq 54 0]
def znb:SL:= [⟨.l 56,none, .build [.int .u64 0, .int .u64 0, .int .u64 0, .int .u64 0] []⟩,mvV 57 12,stV 4 4 56,asI 5 5 0,asL 6 12 57]
def zna:SL:= [ldV 58 4 9,ldV 59 4 11,clB 60 126 58 59,stV 4 9 60]
def zm9:SL:= [asB 10 10 false]
def a114l15:ACode:=(.seq (sR zo0 (cV 48 .skip (.exit 0))) (.seq (.block 1 (sR znd (.seq (sR znc (cV 55 (sT znb) .skip)) (.region zna)))) (.region zm9)))
def zt3:SL:= [⟨.v 61,none, .asg 61 (.v 8)⟩]
def zt2:SL:= [ldV 62 4 9,clA 63 127 62,stV 4 9 63]
def zt4:Plan:=(.seq 0 (ldV 64 4 9) (.seq 1 (mvV 65 7) (.seq 2 (nlC 66 65) (.seq 3 (fdL 67 1 66) (.alt 4 (ldN 68 67) (.seq 5 (bnI 69 .add 68 1) (.one 6 (stV 4 4 64) (.seq 7 (asL 5 5 69) (.seq 8 (asI 6 6 0) .fin)))) (.one 6 (stV 4 4 64) (.seq 4 (ldN 68 67) (.seq 5 (bnI 69 .add 68 1) (.seq 7 (asL 5 5 69) (.seq 8 (asI 6 6 0) .fin))))))))))
def a114:AFunc:=⟨2,[0,1,4,5,6,7,8,9,10,11,12,26,35,48,55,61],[.cell 4 (some 4), .tmp 5, .tmp 6],(sR zz6 (.seq (sR zz5 (cV 26 (sT zz4) .skip)) (sR zz3 (sR zz2 (.seq (sR zz1 (cV 35 (.region zz0) .skip)) (sR zzZ (.seq (sR zzY (bL 0 a114l15)) (.seq (sR zt3 (cV 61 (.region zt2) .skip)) (.seq (.draw zt4) .ret))))))))),true⟩
def zEz:SL:= [bxV 1 0,⟨.v 2,none, .allocL [.int .u64 0, .int .u64 0, .int .u64 0, .int .u64 0]⟩]
def zEy:SL:= [ldV 3 4 1,clA 4 127 3,stV 4 2 4]
def a115:AFunc:=⟨1,[0,1,2],[.cell 2 (some 4)],(sR zEz (sT zEy)),true⟩
def zEx:SL:= [⟨.v 2,none, .allocL [.int .i64 0, .int .u64 0, .int .u64 0, .int .u64 0, .int .u64 0, .int .i64 0, .int .i64 0, .nils]⟩]
def zEw:SL:= [⟨.l 3,none, .build [.int .u64 0, .int .u64 0, .int .u64 0, .int .u64 0] []⟩,mvV 4 0,mvV 5 0,clC 6 128 3 4 5,⟨.l 7,none, .build [.int .i64 0, .int .u64 0, .int .u64 0, .int .u64 0, .int .u64 0, .int .i64 0, .int .i64 0, .nils] [(0,1,(.c (.int .i64 1))),(1,4,(.l 6))]⟩,stV 8 2 7]
def a117:AFunc:=⟨1,[0,2],[.cell 2 (some 8)],(sR zEx (sT zEw)),true⟩
def zsl:SL:= [⟨.v 2,none, .asg 2 (.c (.int .u8 0))⟩]
def zsk:SL:= [mvV 6 0,clA 7 98 6,mvL 5 7,exT 8 0 5,exT 9 1 5,asL 3 3 8,asL 4 4 9]
def zsj:SL:= [mvV 10 4,⟨.v 11,none, .un .not (.l 10)⟩]
def zsi:SL:= [mvV 12 0,mvV 13 0,nlC 14 13,fdL 15 1 14,ldN 16 15,clI 17 113 12 16 3]
def zsh:SL:= [mvV 18 0,nlC 19 18,fdL 20 1 19,ldN 21 20,bnI 22 .add 21 1,nlC 23 18,fdL 24 1 23,stL 24 22]
def zsg:SL:= [⟨.v 25,none, .asg 25 (.v 3)⟩]
def zsf:SL:= [bxU 27 .eql 25 110,asL 26 26 27]
def zse:SL:= [⟨.v 2,none, .asg 2 (.c (.int .u8 10))⟩]
def zsd:SL:= [bxU 29 .eql 25 116,asL 28 28 29]
def zsc:SL:= [⟨.v 2,none, .asg 2 (.c (.int .u8 9))⟩]
def zm8:SL:= [mvV 30 3,asL 2 3 30]
def a116:AFunc:=⟨1,[0,2,3,4,11,25,26,28],[.tmp 2],(sR zsl (sR zsk (.seq (sR zsj (cV 11 (.region zsi) .skip)) (sR zsh (.seq (sR zsg (.block 0 (sR zsf (cV 26 (sT zse) (sR zsd (cV 28 (sT zsc) .skip)))))) (sT zm8)))))),false⟩
def zEv:SL:= [asI 2 2 0,asB 3 3 false]
def zEu:SL:= [asI 4 4 0,asI 5 5 0]
def zfL:SL:= [mvV 8 5,bvI 9 .lss 8 2]
def zgP:SL:= [mvV 11 0,clA 12 98 11,mvL 10 12,exT 13 0 10,exT 14 1 10,asL 6 6 13,asL 7 7 14]
def zgO:SL:= [mvV 15 7,⟨.l 16,none, .un .not (.l 15)⟩,mvL 17 16,mgV 18 17 false 6,⟨.l 19,some (.l 17,false), .bin .lss (.l 18) (.c (.int .u8 48))⟩,pkT 20 17 19,mvL 21 20,mgV 22 21 false 6,⟨.l 23,some (.l 21,false), .bin .gtr (.l 22) (.c (.int .u8 57))⟩,pvT 24 21 23]
def zgN:SL:= [mvV 25 4,⟨.l 26,none, .bin .mul (.c (.int .i64 10)) (.l 25)⟩,mvV 27 6,⟨.l 28,none, .bin .sub (.l 27) (.c (.int .u8 48))⟩,⟨.l 29,none, .conv .i64 (.l 28)⟩,bnL 30 .add 26 29,asL 4 4 30]
def zgM:SL:= [mvV 31 0,nlC 32 31,fdL 33 1 32,ldN 34 33,bnI 35 .add 34 1,nlC 36 31,fdL 37 1 36,stL 37 35]
def zgL:SL:= [mvV 38 5,bnI 39 .add 38 1,asL 5 5 39]
def a118l8:ACode:=(.seq (sR zfL (cV 9 .skip (.exit 0))) (.block 1 (sR zgP (.seq (sR zgO (cV 24 (.exit 0) .skip)) (sR zgN (sR zgM (.region zgL)))))))
def zld:SL:= [mvV 40 4,mvV 41 5,bnI 42 .gtr 41 0,mvL 43 42,mgV 44 43 true 4,bgI 45 43 true .leq 44 50,pkF 46 43 45,asL 2 4 40,asL 3 3 46]
def a118:AFunc:=⟨1,[0,2,3,4,5,6,7,9,24],[.tmp 2, .tmp 3],(sR zEv (sR zEu (.seq (bL 0 a118l8) (sT zld)))),false⟩
def zKw:SL:= [bxV 2 0,asB 4 4 false]
def zKv:SL:= [mvV 5 1,⟨.l 6,none, .bin .quo (.l 5) (.c (.int .u8 64))⟩,axV 7 4 0 2 6,ldN 8 7,mvV 9 1,⟨.l 10,none, .bin .rem (.l 9) (.c (.int .u8 64))⟩,bnL 11 .shr 8 10,⟨.l 12,none, .bin .and (.l 11) (.c (.int .u64 1))⟩,⟨.l 13,none, .bin .eql (.l 12) (.c (.int .u64 1))⟩,asL 4 4 13]
def a84:AFunc:=⟨2,[0,1,2,4],[.tmp 4],(sR zKw (sT zKv)),true⟩
def zEo:SL:= [asB 4 4 false]
def zEp:Plan:=(.seq 0 (mvV 5 0) (.seq 1 (nlC 6 5) (.seq 2 (fdL 7 0 6) (.seq 3 (ldN 8 7) (.seq 4 (mvV 9 0) (.seq 5 (nlC 10 9) (.seq 6 (fdL 11 1 10) (.seq 7 (ldN 12 11) (.seq 8 ⟨.l 13,none, .slice none (.l 8) (some (.l 12)) none⟩ (.seq 9 (mvV 14 1) (.one 10 (clB 15 133 13 14) (.seq 11 (asL 4 4 15) .fin))))))))))))
def a124:AFunc:=⟨2,[0,1,4],[.tmp 4],(sR zEo (.seq (.draw zEp) .ret)),true⟩
def zhI:SL:= [⟨.v 2,none, .allocL [.int .u64 0, .int .u64 0, .int .u64 0, .int .u64 0]⟩,asI 3 3 0]
def zhH:SL:= [mvV 11 0,⟨.v 12,none, .call 124 [.pl (.l 11), .pl (.c (.str [91,58]))]⟩]
def zhJ:Plan:=(.seq 0 (mvV 14 0) (.seq 1 (nlC 15 14) (.seq 2 (fdL 16 0 15) (.seq 3 (ldN 17 16) (.seq 4 (mvV 18 0) (.seq 5 (nlC 19 18) (.seq 6 (fdL 20 1 19) (.seq 7 (ldN 21 20) (.seq 8 (bnI 22 .add 21 2) (.seq 9 ⟨.l 23,none, .slice none (.l 17) (some (.l 22)) none⟩ (.one 10 ⟨.l 24,none, .call 95 [.pl (.l 23), .pl (.c (.str [58,93]))]⟩ (.seq 11 (mvL 13 24) (.seq 12 (exT 25 0 13) (.seq 13 (exT 26 1 13) (.seq 14 (exT 27 2 13) (.seq 15 (asL 4 4 25) (.seq 16 (asL 5 5 26) (.seq 17 (asL 6 6 27) .fin))))))))))))))))))
def zhG:SL:= [mvV 28 6,⟨.v 29,none, .un .not (.l 28)⟩]
def zhF:SL:= [⟨.l 30,none, .build [.int .u64 0, .int .u64 0, .int .u64 0, .int .u64 0] []⟩,stV 4 2 30,asI 3 3 3]
def zhE:SL:= [mvV 31 0,nlC 32 31,fdL 33 1 32,ldN 34 33,mvV 35 4,lnS 36 true 35,bnI 37 .add 36 4,bnL 38 .add 34 37,nlC 39 31,fdL 40 1 39,stL 40 38]
def zhD:SL:= [mvV 42 4,clA 43 134 42,mvL 41 43,exT 44 0 41,exT 45 1 41,⟨.v 7,none, .allocL [.int .u64 0, .int .u64 0, .int .u64 0, .int .u64 0]⟩,stV 4 7 44,asL 6 6 45]
def zhC:SL:= [mvV 46 6,⟨.v 47,none, .un .not (.l 46)⟩]
def zhB:SL:= [⟨.l 48,none, .build [.int .u64 0, .int .u64 0, .int .u64 0, .int .u64 0] []⟩,stV 4 2 48,asI 3 3 40]
def zhA:SL:= [ldV 49 4 7,stV 4 2 49,asI 3 3 0]
def ze0:SL:= [mvV 51 0,clA 52 135 51,mvL 50 52,exT 53 0 50,exT 54 1 50,asL 8 8 53,asL 9 9 54]
def zeZ:SL:= [mvV 55 9,⟨.v 56,none, .un .not (.l 55)⟩]
def zeY:SL:= [⟨.l 57,none, .build [.int .u64 0, .int .u64 0, .int .u64 0, .int .u64 0] []⟩,stV 4 2 57,asI 3 3 3]
def zeX:SL:= [mvV 58 8,asL 10 10 58]
def zeW:SL:= [mvV 59 0,⟨.l 60,none, .call 124 [.pl (.l 59), .pl (.c (.str [45]))]⟩,mvL 61 60,mgV 62 61 true 0,⟨.l 63,some (.l 61,true), .call 124 [.pl (.l 62), .pl (.c (.str [45,93]))]⟩,⟨.l 64,some (.l 61,true), .un .not (.l 63)⟩,pkF 65 61 64,mvL 66 65,mgV 67 66 true 0,⟨.l 68,some (.l 66,true), .call 124 [.pl (.l 67), .pl (.c (.str [45,91,58]))]⟩,⟨.l 69,some (.l 66,true), .un .not (.l 68)⟩,pvF 70 66 69]
def zeV:SL:= [mvV 71 0,nlC 72 71,fdL 73 1 72,ldN 74 73,bnI 75 .add 74 1,nlC 76 71,fdL 77 1 76,stL 77 75]
def zeU:SL:= [mvV 79 0,clA 80 135 79,mvL 78 80,exT 81 0 78,exT 82 1 78,asL 10 10 81,asL 9 9 82]
def zeT:SL:= [mvV 83 9,⟨.v 84,none, .un .not (.l 83)⟩]
def zeS:SL:= [⟨.l 85,none, .build [.int .u64 0, .int .u64 0, .int .u64 0, .int .u64 0] []⟩,stV 4 2 85,asI 3 3 3]
def zeR:SL:= [mvV 86 10,mvV 87 8,bvL 88 .lss 86 87]
def zeQ:SL:= [⟨.l 89,none, .build [.int .u64 0, .int .u64 0, .int .u64 0, .int .u64 0] []⟩,stV 4 2 89,asI 3 3 4]
def zeP:SL:= [⟨.l 90,none, .build [.int .u64 0, .int .u64 0, .int .u64 0, .int .u64 0] []⟩,mvV 91 8,mvV 92 10,clC 93 136 90 91 92,stV 4 2 93,asI 3 3 0]
def a125:AFunc:=⟨1,[0,2,3,4,5,6,7,8,9,10,12,29,47,56,70,84,88],[.cell 2 (some 4), .tmp 3],(sR zhI (.seq (sR zhH (cV 12 (.seq (.draw zhJ) (.seq (sR zhG (cV 29 (sT zhF) .skip)) (sR zhE (sR zhD (.seq (sR zhC (cV 47 (sT zhB) .skip)) (sT zhA)))))) .skip)) (sR ze0 (.seq (sR zeZ (cV 56 (sT zeY) .skip)) (sR zeX (.seq (sR zeW (cV 70 (sR zeV (.seq (sR zeU (sR zeT (cV 84 (sT zeS) .skip))) (sR zeR (cV 88 (sT zeQ) .skip)))) .skip)) (sT zeP))))))),false⟩
def zEn:SL:= [bxV 2 0,bxV 3 1,⟨.v 4,none, .allocL [.int .u64 0, .int .u64 0, .int .u64 0, .int .u64 0]⟩]
def zEm:SL:= [asI 6 6 0]
def zoY:SL:= [⟨.v 7,none, .bin .lss (.v 6) (.c (.int .i64 4))⟩]
def zoX:SL:= [mvV 8 6,asL 5 5 8]
def zoZ:Plan:=(.seq 0 (mvV 9 5) (.seq 1 (axV 10 4 0 2 9) (.seq 2 (ldN 11 10) (.seq 3 (mvV 12 5) (.seq 4 (axV 13 4 0 3 12) (.seq 5 (ldN 14 13) (.seq 6 (bnL 15 .or 11 14) (.seq 7 (axV 16 4 0 2 9) (.one 8 (stL 16 15) .fin)))))))))
def zoW:SL:= [bxI 17 .add 6 1,asL 6 6 17]
def a126l6:ACode:=(sR zoY (.seq (cV 7 .skip (.exit 0)) (.seq (.block 1 (sR zoX (.draw zoZ))) (.region zoW))))
def zEl:SL:= [ldV 18 4 2,stV 4 4 18]
def a126:AFunc:=⟨2,[0,1,2,3,4,5,6,7],[.cell 4 (some 4)],(sR zEn (.seq (sR zEm (bL 0 a126l6)) (sT zEl))),true⟩
def zEk:SL:= [bxV 1 0,⟨.v 2,none, .allocL [.int .u64 0, .int .u64 0, .int .u64 0, .int .u64 0]⟩]
def zEj:SL:= [asI 4 4 0]
def zoV:SL:= [⟨.v 5,none, .bin .lss (.v 4) (.c (.int .i64 4))⟩]
def zoU:SL:= [mvV 6 4,asL 3 3 6]
def zoT:SL:= [mvV 7 3,mvV 8 3,axV 9 4 0 1 8,ldN 10 9,⟨.l 11,none, .un .xor (.l 10)⟩,axV 12 4 0 1 7,stL 12 11]
def zoS:SL:= [bxI 13 .add 4 1,asL 4 4 13]
def a127l6:ACode:=(sR zoV (.seq (cV 5 .skip (.exit 0)) (.seq (.block 1 (sR zoU (.region zoT))) (.region zoS))))
def zEi:SL:= [ldV 14 4 1,stV 4 2 14]
def a127:AFunc:=⟨1,[0,1,2,3,4,5],[.cell 2 (some 4)],(sR zEk (.seq (sR zEj (bL 0 a127l6)) (sT zEi))),true⟩
def zEh:SL:= [bxV 3 0,⟨.v 6,none, .allocL [.int .u64 0, .int .u64 0, .int .u64 0, .int .u64 0]⟩]
def zEg:SL:= [ldV 7 4 3,mvV 8 1,mvV 9 2,clC 10 136 7 8 9,stV 4 6 10]
def a128:AFunc:=⟨3,[0,1,2,3,6],[.cell 6 (some 4)],(sR zEh (sT zEg)),true⟩
def zEf:SL:= [asB 4 4 false]
def zEe:SL:= [mvV 5 0,mvV 6 1,clB 7 137 5 6,asL 4 4 7]
def a133:AFunc:=⟨2,[0,1,4],[.tmp 4],(sR zEf (sT zEe)),true⟩
def zEc:SL:= [⟨.v 2,none, .allocL [.int .u64 0, .int .u64 0, .int .u64 0, .int .u64 0]⟩,asB 3 3 false]
def zEb:SL:= [⟨.v 4,none, .allocL [.int .u64 0, .int .u64 0, .int .u64 0, .int .u64 0]⟩]
def zEa:SL:= [mvV 7 0,clA 8 138 7,asL 5 5 8]
def zD9:SL:= [asI 6 6 0]
def zzP:SL:= [mvV 9 6,mvV 10 5,lnS 11 true 10,bvL 12 .lss 9 11]
def zEd:Plan:=(.seq 0 (ldV 15 4 4) (.seq 1 (mvV 16 5) (.seq 2 (mvV 17 6) (.seq 3 ⟨.l 18,none, .sidx (.l 16) (.l 17)⟩ (.seq 4 (mvV 19 5) (.seq 5 (mvV 20 6) (.seq 6 (bnI 21 .add 20 1) (.seq 7 ⟨.l 22,none, .sidx (.l 19) (.l 21)⟩ (.one 8 (clC 23 136 15 18 22) (.one 9 (stV 4 4 23) .fin))))))))))
def zD8:SL:= [mvV 13 6,bnI 14 .add 13 2,asL 6 6 14]
def a134l7:ACode:=(.seq (sR zzP (cV 12 .skip (.exit 0))) (.seq (.block 1 (.draw zEd)) (.region zD8)))
def zD7:SL:= [ldV 24 4 4,mvV 25 5,⟨.l 26,none, .bin .neq (.l 25) (.c (.str []))⟩,stV 4 2 24,asL 3 3 26]
def a134:AFunc:=⟨1,[0,2,3,4,5,6,12],[.cell 2 (some 4), .tmp 3],(sR zEc (sR zEb (sR zEa (.seq (sR zD9 (bL 0 a134l7)) (sT zD7))))),true⟩
def zm5:SL:= [⟨.v 2,none, .asg 2 (.c (.int .u8 0))⟩,asB 3 3 false]
def zm4:SL:= [mvV 5 0,⟨.v 6,none, .call 124 [.pl (.l 5), .pl (.c (.str [92]))]⟩]
def zm3:SL:= [mvV 7 0,nlC 8 7,fdL 9 1 8,ldN 10 9,bnI 11 .add 10 1,nlC 12 7,fdL 13 1 12,stL 13 11]
def zm7:Plan:=(.seq 0 (mvV 14 0) (.seq 1 (nlC 15 14) (.seq 2 (fdL 16 1 15) (.seq 3 (ldN 17 16) (.seq 4 (mvV 18 0) (.seq 5 (nlC 19 18) (.seq 6 (fdL 20 0 19) (.seq 7 (ldN 21 20) (.seq 8 (lnS 22 true 21) (.seq 9 (bvL 23 .eql 17 22) .fin))))))))))
def zm2:SL:= [⟨.v 2,none, .asg 2 (.c (.int .u8 0))⟩,asB 3 3 false]
def zm1:SL:= [mvV 24 0,nlC 25 24,fdL 26 1 25,ldN 27 26,bnI 28 .add 27 1,nlC 29 24,fdL 30 1 29,stL 30 28]
def zm6:Plan:=(.seq 0 (mvV 31 0) (.seq 1 (nlC 32 31) (.seq 2 (fdL 33 0 32) (.seq 3 (ldN 34 33) (.seq 4 (mvV 35 0) (.seq 5 (nlC 36 35) (.seq 6 (fdL 37 1 36) (.seq 7 (ldN 38 37) (.seq 8 (bnI 39 .sub 38 1) (.seq 9 ⟨.l 40,none, .sidx (.l 34) (.l 39)⟩ (.seq 10 (asL 4 4 40) .fin)))))))))))
def zm0:SL:= [⟨.v 41,none, .asg 41 (.v 4)⟩]
def zmZ:SL:= [bxU 44 .eql 41 110,asL 43 43 44]
def zmY:SL:= [⟨.v 2,none, .asg 2 (.c (.int .u8 10))⟩,asB 3 3 true]
def ziS:SL:= [bxU 46 .eql 41 116,asL 45 45 46]
def ziR:SL:= [⟨.v 2,none, .asg 2 (.c (.int .u8 9))⟩,asB 3 3 true]
def ziQ:SL:= [mvV 42 4,asL 2 4 42,asB 3 3 true]
def ziU:Plan:=(.seq 0 (mvV 47 0) (.seq 1 (nlC 48 47) (.seq 2 (fdL 49 1 48) (.seq 3 (ldN 50 49) (.seq 4 (mvV 51 0) (.seq 5 (nlC 52 51) (.seq 6 (fdL 53 0 52) (.seq 7 (ldN 54 53) (.seq 8 (lnS 55 true 54) (.seq 9 (bvL 56 .eql 50 55) .fin))))))))))
def ziP:SL:= [⟨.v 2,none, .asg 2 (.c (.int .u8 0))⟩,asB 3 3 false]
def ziO:SL:= [mvV 57 0,nlC 58 57,fdL 59 1 58,ldN 60 59,bnI 61 .add 60 1,nlC 62 57,fdL 63 1 62,stL 63 61]
def ziT:Plan:=(.seq 0 (mvV 64 0) (.seq 1 (nlC 65 64) (.seq 2 (fdL 66 0 65) (.seq 3 (ldN 67 66) (.seq 4 (mvV 68 0) (.seq 5 (nlC 69 68) (.seq 6 (fdL 70 1 69) (.seq 7 (ldN 71 70) (.seq 8 (bnI 72 .sub 71 1) (.seq 9 ⟨.l 73,none, .sidx (.l 67) (.l 72)⟩ (.seq 10 (asL 2 2 73) (.seq 11 (asB 3 3 true) .fin))))))))))))
def a135:AFunc:=⟨1,[0,2,3,4,6,23,41,43,45,56],[.tmp 2, .tmp 3],(sR zm5 (.seq (sR zm4 (cV 6 (sR zm3 (.seq (.seq (.draw zm7) (cV 23 (sT zm2) .skip)) (sR zm1 (.seq (.draw zm6) (sR zm0 (.block 0 (sR zmZ (cV 43 (sT zmY) (sR ziS (cV 45 (sT ziR) (sT ziQ))))))))))) .skip)) (.seq (.seq (.draw ziU) (cV 56 (sT ziP) .skip)) (sR ziO (.seq (.draw ziT) .ret))))),false⟩
def zD5:SL:= [bxV 3 0,⟨.v 6,none, .allocL [.int .u64 0, .int .u64 0, .int .u64 0, .int .u64 0]⟩]
def zD4:SL:= [mvV 8 1,⟨.l 9,none, .conv .i64 (.l 8)⟩,asL 7 7 9]
def zvx:SL:= [mvV 10 7,mvV 11 2,⟨.l 12,none, .conv .i64 (.l 11)⟩,bvL 13 .leq 10 12]
def zD6:Plan:=(.seq 0 (mvV 16 7) (.seq 1 (bnI 17 .quo 16 64) (.seq 2 (axV 18 4 0 3 17) (.seq 3 (ldN 19 18) (.seq 4 (mvV 20 7) (.seq 5 (bnI 21 .rem 20 64) (.seq 6 ⟨.l 22,none, .bin .shl (.c (.int .u64 1)) (.l 21)⟩ (.seq 7 (bnL 23 .or 19 22) (.seq 8 (axV 24 4 0 3 17) (.one 9 (stL 24 23) .fin))))))))))
def zD3:SL:= [mvV 14 7,bnI 15 .add 14 1,asL 7 7 15]
def a136l5:ACode:=(.seq (sR zvx (cV 13 .skip (.exit 0))) (.seq (.block 1 (.draw zD6)) (.region zD3)))
def zzO:SL:= [ldV 25 4 3,stV 4 6 25]
def a136:AFunc:=⟨3,[0,1,2,3,6,7,13],[.cell 6 (some 4)],(sR zD5 (.seq (sR zD4 (bL 0 a136l5)) (sT zzO))),true⟩
def zzN:SL:= [asB 4 4 false]
def zzM:SL:= [mvV 5 0,lnS 6 true 5,mvV 7 1,lnS 8 true 7,bnL 9 .geq 6 8,mvL 10 9,mgV 11 10 true 0,mgV 12 10 true 1,lgS 13 10 true true 12,⟨.l 14,some (.l 10,true), .slice none (.l 11) none (some (.l 13))⟩,mgV 15 10 true 1,bgL 16 10 true .eql 14 15,pkF 17 10 16,asL 4 4 17]
def a137:AFunc:=⟨2,[0,1,4],[.tmp 4],(sR zzN (sT zzM)),true⟩
def zfj:SL:= [⟨.v 2,none, .asg 2 (.c (.str []))⟩]
def zfi:SL:= [⟨.v 3,none, .asg 3 (.v 0)⟩]
def zfh:SL:= [⟨.l 5,none, .bin .eql (.v 3) (.c (.str [97,108,112,104,97]))⟩,asL 4 4 5]
def zfg:SL:= [⟨.v 2,none, .asg 2 (.c (.str [65,90,97,122]))⟩]
def zfK:SL:= [⟨.l 7,none, .bin .eql (.v 3) (.c (.str [100,105,103,105,116]))⟩,asL 6 6 7]
def zfJ:SL:= [⟨.v 2,none, .asg 2 (.c (.str [48,57]))⟩]
def zgK:SL:= [⟨.l 9,none, .bin .eql (.v 3) (.c (.str [97,108,110,117,109]))⟩,asL 8 8 9]
def zgJ:SL:= [⟨.v 2,none, .asg 2 (.c (.str [48,57,65,90,97,122]))⟩]
def zhx:SL:= [⟨.l 11,none, .bin .eql (.v 3) (.c (.str [117,112,112,101,114]))⟩,asL 10 10 11]
def zhw:SL:= [⟨.v 2,none, .asg 2 (.c (.str [65,90]))⟩]
def zft:SL:= [⟨.l 13,none, .bin .eql (.v 3) (.c (.str [108,111,119,101,114]))⟩,asL 12 12 13]
def zfs:SL:= [⟨.v 2,none, .asg 2 (.c (.str [97,122]))⟩]
def zge:SL:= [⟨.l 15,none, .bin .eql (.v 3) (.c (.str [115,112,97,99,101]))⟩,asL 14 14 15]
def zgd:SL:= [⟨.v 2,none, .asg 2 (.c (.str [9,13,32,32]))⟩]
def zhz:SL:= [⟨.l 17,none, .bin .eql (.v 3) (.c (.str [98,108,97,110,107]))⟩,asL 16 16 17]
def zhy:SL:= [⟨.v 2,none, .asg 2 (.c (.str [9,9,32,32]))⟩]
def ziN:SL:= [⟨.l 19,none, .bin .eql (.v 3) (.c (.str [112,117,110,99,116]))⟩,asL 18 18 19]
def ziM:SL:= [⟨.v 2,none, .asg 2 (.c (.str [33,47,58,64,91,96,123,126]))⟩]
def zkL:SL:= [⟨.l 21,none, .bin .eql (.v 3) (.c (.str [112,114,105,110,116]))⟩,asL 20 20 21]
def zkK:SL:= [⟨.v 2,none, .asg 2 (.c (.str [32,126]))⟩]
def zmX:SL:= [⟨.l 23,none, .bin .eql (.v 3) (.c (.str [103,114,97,112,104]))⟩,asL 22 22 23]
def zmW:SL:= [⟨.v 2,none, .asg 2 (.c (.str [33,126]))⟩]
def zql:SL:= [⟨.l 25,none, .bin .eql (.v 3) (.c (.str [99,110,116,114,108]))⟩,asL 24 24 25]
def zqk:SL:= [⟨.v 2,none, .asg 2 (.c (.str [0,31,127,127]))⟩]
def zt1:SL:= [⟨.l 27,none, .bin .eql (.v 3) (.c (.str [120,100,105,103,105,116]))⟩,asL 26 26 27]
def zt0:SL:= [⟨.v 2,none, .asg 2 (.c (.str [48,57,65,70,97,102]))⟩]
def zzL:SL:= [⟨.v 2,none, .asg 2 (.c (.str []))⟩]
def a138:AFunc:=⟨1,[0,2,3,4,6,8,10,12,14,16,18,20,22,24,26],[.tmp 2],(sR zfj (.seq (sR zfi (.block 0 (sR zfh (cV 4 (sT zfg) (sR zfK (cV 6 (sT zfJ) (sR zgK (cV 8 (sT zgJ) (sR zhx (cV 10 (sT zhw) (sR zft (cV 12 (sT zfs) (sR zge (cV 14 (sT zgd) (sR zhz (cV 16 (sT zhy) (sR ziN (cV 18 (sT ziM) (sR zkL (cV 20 (sT zkK) (sR zmX (cV 22 (sT zmW) (sR zql (cV 24 (sT zqk) (sR zt1 (cV 26 (sT zt0) .skip)))))))))))))))))))))))))) (sT zzL))),true⟩
def fsT:Nat→Option AFunc
 | 164=>some a164
 | 8=>some a8
 | 157=>some a157
 | 160=>some a160
 | 161=>some a161
 | 165=>some a165
 | 166=>some a166
 | 167=>some a167
 | 168=>some a168
 | 169=>some a169
 | 170=>some a170
 | 172=>some a172
 | 171=>some a171
 | 14=>some a14
 | 38=>some a38
 | 10=>some a10
 | 180=>some a180
 | 153=>some a153
 | 95=>some a95
 | 188=>some a188
 | 185=>some a185
 | 44=>some a44
 | 45=>some a45
 | 63=>some a63
 | 34=>some a34
 | 42=>some a42
 | 104=>some a104
 | 194=>some a194
 | 195=>some a195
 | 69=>some a69
 | 70=>some a70
 | 71=>some a71
 | 85=>some a85
 | 86=>some a86
 | 57=>some a57
 | 59=>some a59
 | 58=>some a58
 | 65=>some a65
 | 66=>some a66
 | 123=>some a123
 | 43=>some a43
 | 203=>some a203
 | 204=>some a204
 | 92=>some a92
 | 93=>some a93
 | 3=>some a3
 | 87=>some a87
 | 88=>some a88
 | 89=>some a89
 | 81=>some a81
 | 82=>some a82
 | 83=>some a83
 | 91=>some a91
 | 90=>some a90
 | 35=>some a35
 | 213=>some a213
 | 216=>some a216
 | 101=>some a101
 | 102=>some a102
 | 98=>some a98
 | 99=>some a99
 | 100=>some a100
 | 37=>some a37
 | 60=>some a60
 | 107=>some a107
 | 108=>some a108
 | 109=>some a109
 | 110=>some a110
 | 111=>some a111
 | 105=>some a105
 | 106=>some a106
 | 61=>some a61
 | 62=>some a62
 | 119=>some a119
 | 120=>some a120
 | 121=>some a121
 | 122=>some a122
 | 113=>some a113
 | 114=>some a114
 | 115=>some a115
 | 117=>some a117
 | 116=>some a116
 | 118=>some a118
 | 84=>some a84
 | 124=>some a124
 | 125=>some a125
 | 126=>some a126
 | 127=>some a127
 | 128=>some a128
 | 133=>some a133
 | 134=>some a134
 | 135=>some a135
 | 136=>some a136
 | 137=>some a137
 | 138=>some a138
 | _=>none
theorem zFE:fsT 164=some a164:=rfl
theorem zIb:fsT 8=some a8:=rfl
theorem zg5:fsT 157=some a157:=rfl
theorem zyl:fsT 160=some a160:=rfl
theorem zFF:fsT 161=some a161:=rfl
theorem zFD:fsT 165=some a165:=rfl
theorem ztn:fsT 166=some a166:=rfl
theorem zFC:fsT 167=some a167:=rfl
theorem zyk:fsT 168=some a168:=rfl
theorem zFB:fsT 169=some a169:=rfl
theorem zFA:fsT 170=some a170:=rfl
theorem zFy:fsT 172=some a172:=rfl
theorem zFz:fsT 171=some a171:=rfl
theorem zIw:fsT 14=some a14:=rfl
theorem zIs:fsT 38=some a38:=rfl
theorem zIx:fsT 10=some a10:=rfl
theorem zFx:fsT 180=some a180:=rfl
theorem zFG:fsT 153=some a153:=rfl
theorem zDs:fsT 95=some a95:=rfl
theorem zFv:fsT 188=some a188:=rfl
theorem zFw:fsT 185=some a185:=rfl
theorem zIp:fsT 44=some a44:=rfl
theorem zIo:fsT 45=some a45:=rfl
theorem zIh:fsT 63=some a63:=rfl
theorem zIv:fsT 34=some a34:=rfl
theorem zIr:fsT 42=some a42:=rfl
theorem zyn:fsT 104=some a104:=rfl
theorem zFu:fsT 194=some a194:=rfl
theorem zFt:fsT 195=some a195:=rfl
theorem zIe:fsT 69=some a69:=rfl
theorem zId:fsT 70=some a70:=rfl
theorem zIc:fsT 71=some a71:=rfl
theorem zDv:fsT 85=some a85:=rfl
theorem zH6:fsT 86=some a86:=rfl
theorem zIn:fsT 57=some a57:=rfl
theorem zIl:fsT 59=some a59:=rfl
theorem zIm:fsT 58=some a58:=rfl
theorem zIg:fsT 65=some a65:=rfl
theorem zIf:fsT 66=some a66:=rfl
theorem fsT_123:fsT 123=some a123:=rfl
theorem zIq:fsT 43=some a43:=rfl
theorem zFs:fsT 203=some a203:=rfl
theorem zFr:fsT 204=some a204:=rfl
theorem zH2:fsT 92=some a92:=rfl
theorem zDt:fsT 93=some a93:=rfl
theorem fsT_3:fsT 3=some a3:=rfl
theorem zH5:fsT 87=some a87:=rfl
theorem zDu:fsT 88=some a88:=rfl
theorem zyj:fsT 89=some a89:=rfl
theorem zIa:fsT 81=some a81:=rfl
theorem zH9:fsT 82=some a82:=rfl
theorem zH8:fsT 83=some a83:=rfl
theorem zH3:fsT 91=some a91:=rfl
theorem zH4:fsT 90=some a90:=rfl
theorem zIu:fsT 35=some a35:=rfl
theorem zFq:fsT 213=some a213:=rfl
theorem zFp:fsT 216=some a216:=rfl
theorem zF7:fsT 101=some a101:=rfl
theorem zyo:fsT 102=some a102:=rfl
theorem zDr:fsT 98=some a98:=rfl
theorem zH1:fsT 99=some a99:=rfl
theorem zF8:fsT 100=some a100:=rfl
theorem zIt:fsT 37=some a37:=rfl
theorem zIk:fsT 60=some a60:=rfl
theorem zym:fsT 107=some a107:=rfl
theorem zF4:fsT 108=some a108:=rfl
theorem zF3:fsT 109=some a109:=rfl
theorem zF2:fsT 110=some a110:=rfl
theorem zF1:fsT 111=some a111:=rfl
theorem zF6:fsT 105=some a105:=rfl
theorem zF5:fsT 106=some a106:=rfl
theorem zIj:fsT 61=some a61:=rfl
theorem zIi:fsT 62=some a62:=rfl
theorem zFU:fsT 119=some a119:=rfl
theorem zdG:fsT 120=some a120:=rfl
theorem zFT:fsT 121=some a121:=rfl
theorem zFS:fsT 122=some a122:=rfl
theorem zF0:fsT 113=some a113:=rfl
theorem zFZ:fsT 114=some a114:=rfl
theorem zFY:fsT 115=some a115:=rfl
theorem zFW:fsT 117=some a117:=rfl
theorem zFX:fsT 116=some a116:=rfl
theorem zFV:fsT 118=some a118:=rfl
theorem zH7:fsT 84=some a84:=rfl
theorem zFR:fsT 124=some a124:=rfl
theorem zFQ:fsT 125=some a125:=rfl
theorem zFP:fsT 126=some a126:=rfl
theorem zFO:fsT 127=some a127:=rfl
theorem zFN:fsT 128=some a128:=rfl
theorem zFM:fsT 133=some a133:=rfl
theorem zFL:fsT 134=some a134:=rfl
theorem zFK:fsT 135=some a135:=rfl
theorem zFJ:fsT 136=some a136:=rfl
theorem zFI:fsT 137=some a137:=rfl
theorem zFH:fsT 138=some a138:=rfl
end Go.Ak
namespace Go.Ak
section limit
variable {α β:Type}
open Classical in
noncomputable def limit (f:Nat→Option α):Option α:=if h: ∃ a n,f n=some a then some h.choose else none
def Mono (f:Nat→Option α):Prop:= ∀ n m a,n≤m→f n=some a→f m=some a
theorem Mono.uniq {f:Nat→Option α} (hf:Mono f) {n m:Nat} {a b:α} (h:f n=some a) (k:f m=some b):a=b:=by
 rcases Nat.le_total n m with l | l
 ·rw [hf n m a l h] at k;exact Option.some.inj k
 ·rw [hf m n b l k] at h;exact (Option.some.inj h).symm
theorem zfA {f:Nat→Option α} (hf:Mono f) {a:α}:limit f=some a↔ ∃ n,f n=some a:=by
 unfold limit
 split
 ·rename_i h
  obtain ⟨n,hn⟩:=h.choose_spec
  constructor
  ·intro e;rw [←Option.some.inj e];exact ⟨n,hn⟩
  ·intro ⟨m,hm⟩;rw [hf.uniq hn hm]
 ·rename_i h
  constructor
  ·intro e;cases e
  ·intro ⟨m,hm⟩;exact absurd ⟨a,m,hm⟩ h
theorem zwl {f:Nat→Option α} (h: ∀ n,f n=none):limit f=none:=by
 unfold limit
 split
 ·rename_i k;obtain ⟨a,n,hn⟩:=k;rw [h n] at hn;cases hn
 ·rfl
theorem zbk (x:Option α):limit (fun _=>x)=x:=by
 have hm:Mono (fun _:Nat=>x):=fun _ _ _ _ h=>h
 cases x with
 | none=>exact zwl fun _=>rfl
 | some a=>exact (zfA hm).2 ⟨0,rfl⟩
end limit
def CallF.le (c d:CallF):Prop:= ∀ f as H r,c f as H=some r→d f as H=some r
section mono
variable {c d:CallF} {bar:Nat}
theorem zyy (h:c.le d) (op:AOp) (σ:St) (r:OpR) (e:zbb c bar op σ=some r):zbb d bar op σ=some r:=by
 cases op
 case call f xs =>
  simp only [zbb] at e ⊢
  split at e
  ·rename_i as σ' ha
   split at e
   ·rename_i v H hc;rw [h _ _ _ _ hc];exact e
   ·rename_i v H hc;rw [h _ _ _ _ hc];exact e
   ·cases e
  ·cases e
 case callv x xs =>
  simp only [zbb] at e ⊢
  split at e
  ·rename_i f cap hx
   split at e
   ·rename_i as σ' ha
    split at e
    ·rename_i v H hc;rw [h _ _ _ _ hc];exact e
    ·rename_i v H hc;rw [h _ _ _ _ hc];exact e
    ·cases e
   ·cases e
  ·cases e
 all_goals exact e
theorem zhQ (h:c.le d) (s:AStep) (σ:St) (r) (e:zcN c bar s σ=some r):zcN d bar s σ=some r:=by
 simp only [zcN] at e ⊢
 split at e
 ·split at e
  ·rename_i a τ ho;rw [zyy h _ _ _ ho];exact e
  ·rename_i a τ ho;rw [zyy h _ _ _ ho];exact e
  ·cases e
 ·exact e
 ·cases e
theorem zh0 (h:c.le d): ∀ (l:List AStep) (σ:St) (r),zaN c bar l σ=some r→zaN d bar l σ=some r
 | [],_,_,e=>e
 | s::l, σ,r,e=>by
  simp only [zaN] at e ⊢
  split at e
  ·rename_i τ hs;rw [zhQ h _ _ _ hs];exact zh0 h l τ r e
  ·rename_i hs
   have:=zhQ (bar:=bar) h s σ r e
   rw [this]
   split
   ·rename_i τ hq;cases hq;exact absurd e (hs τ)
   ·rfl
theorem zaz (c:CallF) (bar i:Nat) (s:AStep) (p q:Plan) (σ:St):zaL c bar (.alt i s p q) σ=(match zaL c bar (.seq i s p) σ,zaL c bar q σ with
  | some a,some b=>bif zfw a b then some a else none
  | _,_=>none):=rfl
theorem zf4 (h:c.le d) {i:Nat} {s:AStep} {p:Plan} (ih: ∀ (σ:St) (r),zaL c bar p σ=some r→zaL d bar p σ=some r) (σ:St) (r) (e:zaL c bar (.seq i s p) σ=some r):zaL d bar (.seq i s p) σ=some r:=by
 simp only [zaL] at e ⊢
 split at e
 ·rename_i τ hs;rw [zhQ h _ _ _ hs];exact ih τ r e
 ·rename_i hs
  have:=zhQ (bar:=bar) h s σ r e
  rw [this]
  split
  ·rename_i τ hq;cases hq;exact absurd e (hs τ)
  ·rfl
theorem zg8 (h:c.le d) (p:Plan): ∀ (σ:St) (r),zaL c bar p σ=some r→zaL d bar p σ=some r:=by
 induction p with
 | fin=>exact fun _ _ e=>e
 | seq i s p ih=>exact zf4 h ih
 | one i s p ih=>exact fun σ r e=>zf4 (i:=i) (s:=s) h ih σ r e
 | alt i s p q ih ih2 =>
  intro σ r e
  rw [zaz] at e ⊢
  split at e
  ·rename_i a b h1 h2
   rw [zf4 h ih σ _ h1,ih2 σ _ h2]
   exact e
  ·cases e
theorem zlG {b1 b2:EH→Option (AExit×EH)} (h: ∀ s r,b1 s=some r→b2 s=some r): ∀ (n m:Nat) (s:EH) (r),n≤m→zkv b1 n s=some r→zkv b2 m s=some r
 | 0,_,_,_,_,e=>by cases e
 | n+1,0,_,_,l,_=>by omega
 | n+1,m+1,s,r,l,e=>by
  simp only [zkv] at e ⊢
  split at e
  ·rename_i τ hs;rw [h _ _ hs];exact zlG h n m τ r (by omega) e
  ·rename_i hs
   have:=h s r e
   rw [this]
   split
   ·rename_i τ hq;cases hq;exact absurd e (hs τ)
   ·rfl
theorem zkA (h:c.le d) {n m:Nat} (l:n≤m): ∀ (a:ACode) (s:EH) (r),ev c bar n a s=some r→ev d bar m a s=some r
 | .skip,_,_,e=>e
 | .region ops,s,r,e=>by
  simp only [ev] at e ⊢
  split at e
  ·rename_i x σ hs;rw [zh0 h _ _ _ hs];exact e
  ·cases e
 | .draw p,s,r,e=>by
  simp only [ev] at e ⊢
  split at e
  ·rename_i x σ hs;rw [zg8 h _ _ _ hs];exact e
  ·cases e
 | .seq a b,s,r,e=>by
  simp only [ev] at e ⊢
  split at e
  ·rename_i τ hs;rw [zkA h l a _ _ hs];exact zkA h l b τ r e
  ·rename_i hs
   have:=zkA h l a s r e
   rw [this]
   split
   ·rename_i τ hq;cases hq;exact absurd e (hs τ)
   ·rfl
 | .cond clr x a b,s,r,e=>by
  simp only [ev] at e ⊢
  split at e
  ·exact zkA h l a _ _ e
  ·exact zkA h l b _ _ e
  ·cases e
 | .block id a,s,r,e=>by
  simp only [ev] at e ⊢
  split at e
  ·rename_i i τ hs;rw [zkA h l a _ _ hs];exact e
  ·rename_i hs
   have:=zkA h l a s r e
   rw [this]
   split
   ·rename_i i τ hq;cases hq;exact absurd e (hs i τ)
   ·rfl
 | .loop a,s,r,e=>zlG (fun s r=>zkA h l a s r) n m s r l e
 | .exit _,_,_,e=>e
 | .ret,_,_,e=>e
theorem zsO (h:c.le d) {n m:Nat} (l:n≤m) (F:AFunc) (as:List AV) (H:Heap) (r) (e:zwV c n bar F as H=some r):zwV d m bar F as H=some r:=by
 simp only [zwV] at e ⊢
 cases hb:Nat.beq as.length F.np<;>rw [hb] at e<;>simp only [cond_true,cond_false] at e ⊢
 ·cases e
 ·split at e
  ·rename_i s hs;rw [zkA h l _ _ _ hs];exact e
  ·rename_i s hs;rw [zkA h l _ _ _ hs];exact e
  ·rename_i v s hs;rw [zkA h l _ _ _ hs];exact e
  ·cases e
theorem zuN {n0:Nat} {H:Heap} {x y:Option (Out×Heap)} (h: ∀ r,x=some r→y=some r) (r) (e:zeI n0 H x=some r):zeI n0 H y=some r:=by
 cases x with
 | none=>simp [zeI] at e
 | some a=>rw [h a rfl];exact e
end mono
def zbD (sp:Nat→(Nat→CallF)→Nat→CallF):Prop:= ∀ n m (c d:Nat→CallF) bar,n≤m→(∀ b,CallF.le (c b) (d b))→CallF.le (sp n c bar) (sp m d bar)
section
variable {fs:Nat→Option AFunc} {sp:Nat→(Nat→CallF)→Nat→CallF}
theorem zet (hs:zbD sp): ∀ (n m:Nat) (bar:Nat),n≤m→CallF.le (run fs sp n bar) (run fs sp m bar)
 | 0,_,_,_,_,_,_,_,e=>by cases e
 | n+1,0,_,l,_,_,_,_,_=>by omega
 | n+1,m+1,bar,l,f,as,H,r,e=>by
  have ih:=fun b=>zet hs n m b (by omega)
  simp only [run] at e ⊢
  split at e
  ·rename_i hf;exact hs n m _ _ bar (by omega) ih f as H r e
  ·rename_i F hf
   cases hp:F.pure<;>rw [hp] at e<;>simp only [cond_true,cond_false] at e ⊢
   ·exact zsO (ih bar) (by omega) F as H r e
   ·cases hc:zdv as<;>rw [hc] at e<;>simp only [cond_true,cond_false] at e ⊢
    ·exact zuN (fun r e=>zsO (ih _) (by omega) F as H r e) r e
    ·exact zuN (fun r e=>zsO (ih _) (by omega) F as [] r e) r e
theorem zuz (hs:zbD sp) (bar f:Nat) (as:List AV) (H:Heap):Mono (fun n=>run fs sp n bar f as H) :=
 fun n m a l e=>zet hs n m bar l f as H a e
variable (fs sp) in
noncomputable def Rn (bar:Nat):CallF:=fun f as H=>limit fun n=>run fs sp n bar f as H
variable (fs sp) in
noncomputable def evI (bar:Nat) (a:ACode) (s:EH):Option (AExit×EH):=limit fun n=>ev (run fs sp n bar) bar n a s
variable (fs sp) in
noncomputable def zDj (bar:Nat) (F:AFunc) (as:List AV) (H:Heap):Option (Out×Heap) :=
 bif Nat.beq as.length F.np then
  match evI fs sp bar F.body (zat F.vars as,H) with
  | some (.norm,s)=>match zeH s F.res with
   | some v=>some (.ret v,s.2)
   | none=>none
  | some (.ret,s)=>match zeH s F.res with
   | some v=>some (.ret v,s.2)
   | none=>none
  | some (.pan v,s)=>some (.pan v,s.2)
  | _=>none
 else none
theorem zyx (hs:zbD sp) (bar:Nat) (a:ACode) (s:EH):Mono (fun n=>ev (run fs sp n bar) bar n a s) :=
 fun n m r l e=>zkA (zet hs n m bar l) l a s r e
theorem zBQ (hs:zbD sp) (bar:Nat) (a:ACode) (s:EH) (n m:Nat) (r) (l:n≤m) (e:ev (run fs sp n bar) bar n a s=some r):ev (run fs sp m bar) bar m a s=some r:=zyx hs bar a s n m r l e
theorem zgR (hs:zbD sp) {bar f as H r}:Rn fs sp bar f as H=some r↔ ∃ n,run fs sp n bar f as H=some r:=zfA (zuz hs bar f as H)
theorem za1 (hs:zbD sp) {bar a s r}:evI fs sp bar a s=some r↔ ∃ n,ev (run fs sp n bar) bar n a s=some r:=zfA (zyx hs bar a s)
theorem zqM (hs:zbD sp) (n bar:Nat):CallF.le (run fs sp n bar) (Rn fs sp bar):=fun _ _ _ _ e=>(zgR hs).2 ⟨n,e⟩
theorem zrf (hs:zbD sp) (bar:Nat) (op:AOp) (σ:St) (r) (e:zbb (Rn fs sp bar) bar op σ=some r): ∃ n,zbb (run fs sp n bar) bar op σ=some r:=by
 cases op
 case call f xs =>
  simp only [zbb] at e ⊢
  split at e
  ·rename_i as σ' ha
   split at e
   ·rename_i v H hc;obtain ⟨n,hn⟩:=(zgR hs).1 hc;exact ⟨n,by rw [hn];exact e⟩
   ·rename_i v H hc;obtain ⟨n,hn⟩:=(zgR hs).1 hc;exact ⟨n,by rw [hn];exact e⟩
   ·cases e
  ·cases e
 case callv x xs =>
  simp only [zbb] at e ⊢
  split at e
  ·rename_i f cap hx
   split at e
   ·rename_i as σ' ha
    split at e
    ·rename_i v H hc;obtain ⟨n,hn⟩:=(zgR hs).1 hc;exact ⟨n,by rw [hn];exact e⟩
    ·rename_i v H hc;obtain ⟨n,hn⟩:=(zgR hs).1 hc;exact ⟨n,by rw [hn];exact e⟩
    ·cases e
   ·cases e
  ·cases e
 all_goals exact ⟨0,e⟩
theorem zhR (hs:zbD sp) (bar:Nat) (s:AStep) (σ:St) (r) (e:zcN (Rn fs sp bar) bar s σ=some r): ∃ n,zcN (run fs sp n bar) bar s σ=some r:=by
 simp only [zcN] at e ⊢
 split at e
 ·split at e
  ·rename_i a τ ho;obtain ⟨n,hn⟩:=zrf hs _ _ _ _ ho;exact ⟨n,by rw [hn];exact e⟩
  ·rename_i a τ ho;obtain ⟨n,hn⟩:=zrf hs _ _ _ _ ho;exact ⟨n,by rw [hn];exact e⟩
  ·cases e
 ·exact ⟨0,e⟩
 ·cases e
theorem zkY (hs:zbD sp) (bar:Nat): ∀ (l:List AStep) (σ:St) (r),zaN (Rn fs sp bar) bar l σ=some r→ ∃ n,zaN (run fs sp n bar) bar l σ=some r
 | [],_,_,e=>⟨0,e⟩
 | s::l, σ,r,e=>by
  simp only [zaN] at e ⊢
  split at e
  ·rename_i τ h1
   obtain ⟨n,hn⟩:=zhR hs bar s σ _ h1
   obtain ⟨m,hm⟩:=zkY hs bar l τ r e
   refine ⟨max n m,?_⟩
   rw [zhQ (zet hs n (max n m) bar (Nat.le_max_left ..)) _ _ _ hn]
   exact zh0 (zet hs m (max n m) bar (Nat.le_max_right ..)) _ _ _ hm
  ·rename_i h1
   obtain ⟨n,hn⟩:=zhR hs bar s σ r e
   refine ⟨n,?_⟩
   rw [hn]
   split
   ·rename_i τ hq;cases hq;exact absurd e (h1 τ)
   ·rfl
theorem zeK (hs:zbD sp) (bar:Nat) {i:Nat} {s:AStep} {p:Plan} (ih: ∀ (σ:St) (r),zaL (Rn fs sp bar) bar p σ=some r→ ∃ n,zaL (run fs sp n bar) bar p σ=some r) (σ:St) (r)
  (e:zaL (Rn fs sp bar) bar (.seq i s p) σ=some r): ∃ n,zaL (run fs sp n bar) bar (.seq i s p) σ=some r:=by
 simp only [zaL] at e ⊢
 split at e
 ·rename_i τ h1
  obtain ⟨n,hn⟩:=zhR hs bar s σ _ h1
  obtain ⟨m,hm⟩:=ih τ r e
  refine ⟨max n m,?_⟩
  rw [zhQ (zet hs n (max n m) bar (Nat.le_max_left ..)) _ _ _ hn]
  exact zg8 (zet hs m (max n m) bar (Nat.le_max_right ..)) _ _ _ hm
 ·rename_i h1
  obtain ⟨n,hn⟩:=zhR hs bar s σ r e
  refine ⟨n,?_⟩
  rw [hn]
  split
  ·rename_i τ hq;cases hq;exact absurd e (h1 τ)
  ·rfl
theorem ztr (hs:zbD sp) (bar:Nat) (p:Plan): ∀ (σ:St) (r),zaL (Rn fs sp bar) bar p σ=some r→ ∃ n,zaL (run fs sp n bar) bar p σ=some r:=by
 induction p with
 | fin=>exact fun _ _ e=>⟨0,e⟩
 | seq i s p ih=>exact zeK hs bar ih
 | one i s p ih=>exact fun σ r e=>zeK (i:=i) (s:=s) hs bar ih σ r e
 | alt i s p q ih ih2 =>
  intro σ r e
  simp only [zaz] at e ⊢
  split at e
  ·rename_i a b h1 h2
   obtain ⟨n,hn⟩:=zeK hs bar ih σ _ h1
   obtain ⟨m,hm⟩:=ih2 σ _ h2
   refine ⟨max n m,?_⟩
   rw [zg8 (zet hs n (max n m) bar (Nat.le_max_left ..)) _ _ _ hn,zg8 (zet hs m (max n m) bar (Nat.le_max_right ..)) _ _ _ hm]
   exact e
  ·cases e
-- the equations
theorem zcx (bar:Nat) (s:EH):evI fs sp bar .skip s=some (.norm,s):=zbk _
theorem zBS (bar id:Nat) (s:EH):evI fs sp bar (.exit id) s=some (.exit id,s):=zbk _
theorem zGc (bar:Nat) (s:EH):evI fs sp bar .ret s=some (.ret,s):=zbk _
theorem zwx (hs:zbD sp) (bar:Nat) (ops:List AStep) (s:EH):evI fs sp bar (.region ops) s=(match zaN (Rn fs sp bar) bar ops ⟨s.1,[],[],s.2⟩ with
  | some (e, σ)=>some (e,(σ.env, σ.H))
  | none=>none):=by
 apply Option.ext
 intro r
 rw [za1 hs]
 constructor
 ·intro ⟨n,hn⟩
  simp only [ev] at hn
  split at hn
  ·rename_i e σ h1;rw [zh0 (zqM hs n bar) _ _ _ h1];exact hn
  ·cases hn
 ·intro h
  split at h
  ·rename_i e σ h1
   obtain ⟨n,hn⟩:=zkY hs bar _ _ _ h1
   exact ⟨n,by simp only [ev];rw [hn];exact h⟩
  ·cases h
theorem zBT (hs:zbD sp) (bar:Nat) (p:Plan) (s:EH):evI fs sp bar (.draw p) s=(match zaL (Rn fs sp bar) bar p ⟨s.1,[],[],s.2⟩ with
  | some (e, σ)=>some (e,(σ.env, σ.H))
  | none=>none):=by
 apply Option.ext
 intro r
 rw [za1 hs]
 constructor
 ·intro ⟨n,hn⟩
  simp only [ev] at hn
  split at hn
  ·rename_i e σ h1;rw [zg8 (zqM hs n bar) _ _ _ h1];exact hn
  ·cases hn
 ·intro h
  split at h
  ·rename_i e σ h1
   obtain ⟨n,hn⟩:=ztr hs bar _ _ _ h1
   exact ⟨n,by simp only [ev];rw [hn];exact h⟩
  ·cases h
theorem zGb (hs:zbD sp) (bar:Nat) (a b:ACode) (s:EH):evI fs sp bar (.seq a b) s=(match evI fs sp bar a s with
  | some (.norm,s)=>evI fs sp bar b s
  | r=>r):=by
 apply Option.ext
 intro r
 rw [za1 hs]
 constructor
 ·intro ⟨n,hn⟩
  simp only [ev] at hn
  split at hn
  ·rename_i τ h1;rw [(za1 hs).2 ⟨n,h1⟩];exact (za1 hs).2 ⟨n,hn⟩
  ·rename_i h1
   rw [(za1 hs).2 ⟨n,hn⟩]
   split
   ·rename_i τ hq;cases hq;exact absurd hn (h1 τ)
   ·rfl
 ·intro h
  split at h
  ·rename_i τ h1
   obtain ⟨n,hn⟩:=(za1 hs).1 h1
   obtain ⟨m,hm⟩:=(za1 hs).1 h
   refine ⟨max n m,?_⟩
   simp only [ev]
   rw [zBQ hs bar a s n (max n m) _ (Nat.le_max_left ..) hn]
   exact zBQ hs bar b τ m (max n m) _ (Nat.le_max_right ..) hm
  ·rename_i h1
   obtain ⟨n,hn⟩:=(za1 hs).1 h
   refine ⟨n,?_⟩
   simp only [ev]
   rw [hn]
   split
   ·rename_i τ hq;cases hq;exact absurd h (h1 τ)
   ·rfl
theorem zBU (hs:zbD sp) (bar:Nat) (clr:Bool) (c:Opd) (x y:ACode) (s:EH):evI fs sp bar (.cond clr c x y) s=(match zwB s clr c with
  | some (true,s)=>evI fs sp bar x s
  | some (false,s)=>evI fs sp bar y s
  | none=>none):=by
 apply Option.ext
 intro r
 rw [za1 hs]
 simp only [ev]
 cases hc:zwB s clr c with
 | none=>simp
 | some q =>
  obtain ⟨b,s'⟩:=q
  cases b
  ·exact (za1 hs).symm
  ·exact (za1 hs).symm
theorem zyz (hs:zbD sp) (bar id:Nat) (c:ACode) (s:EH):evI fs sp bar (.block id c) s=(match evI fs sp bar c s with
  | some (.exit i,s)=>bif Nat.beq i id then some (.norm,s) else some (.exit i,s)
  | r=>r):=by
 apply Option.ext
 intro r
 rw [za1 hs]
 constructor
 ·intro ⟨n,hn⟩
  simp only [ev] at hn
  split at hn
  ·rename_i i τ h1;rw [(za1 hs).2 ⟨n,h1⟩];exact hn
  ·rename_i h1
   rw [(za1 hs).2 ⟨n,hn⟩]
   split
   ·rename_i i τ hq;cases hq;exact absurd hn (h1 i τ)
   ·rfl
 ·intro h
  split at h
  ·rename_i i τ h1
   obtain ⟨n,hn⟩:=(za1 hs).1 h1
   refine ⟨n,?_⟩
   simp only [ev]
   rw [hn];exact h
  ·rename_i h1
   obtain ⟨n,hn⟩:=(za1 hs).1 h
   refine ⟨n,?_⟩
   simp only [ev]
   rw [hn]
   split
   ·rename_i i τ hq;cases hq;exact absurd h (h1 i τ)
   ·rfl
theorem zBR (hs:zbD sp) (bar:Nat) (c:ACode) (s:EH):evI fs sp bar (.loop c) s=(match evI fs sp bar c s with
  | some (.norm,s)=>evI fs sp bar (.loop c) s
  | r=>r):=by
 apply Option.ext
 intro r
 rw [za1 hs]
 constructor
 ·intro ⟨n,hn⟩
  cases n with
  | zero=>simp [ev,zkv] at hn
  | succ n =>
   simp only [ev,zkv] at hn
   split at hn
   ·rename_i τ h1
    rw [(za1 hs).2 ⟨n+1,h1⟩]
    refine (za1 hs).2 ⟨n+1,?_⟩
    simp only [ev]
    exact zlG (fun _ _ h=>h) n (n+1) τ r (by omega) hn
   ·rename_i h1
    rw [(za1 hs).2 ⟨n+1,hn⟩]
    split
    ·rename_i τ hq;cases hq;exact absurd hn (h1 τ)
    ·rfl
 ·intro h
  split at h
  ·rename_i τ h1
   obtain ⟨n,hn⟩:=(za1 hs).1 h1
   obtain ⟨m,hm⟩:=(za1 hs).1 h
   refine ⟨max n m+1,?_⟩
   simp only [ev,zkv]
   rw [zBQ hs bar c s n (max n m+1) _ (by omega) hn]
   simp only [ev] at hm
   exact zlG (fun s r=>zkA (zet hs m (max n m+1) bar (by omega)) (by omega) c s r) m (max n m) τ r (by omega) hm
  ·rename_i h1
   obtain ⟨n,hn⟩:=(za1 hs).1 h
   refine ⟨n+1,?_⟩
   simp only [ev,zkv]
   rw [zBQ hs bar c s n (n+1) _ (by omega) hn]
   split
   ·rename_i τ hq;cases hq;exact absurd h (h1 τ)
   ·rfl
theorem zja (hs:zbD sp) {bar F as H r}:zDj fs sp bar F as H=some r↔ ∃ n,zwV (run fs sp n bar) n bar F as H=some r:=by
 simp only [zDj,zwV]
 cases hb:Nat.beq as.length F.np<;>simp only [cond_true,cond_false]
 ·simp
 ·constructor
  ·intro h
   split at h
   ·rename_i s h1;obtain ⟨n,hn⟩:=(za1 hs).1 h1;exact ⟨n,by rw [hn];exact h⟩
   ·rename_i s h1;obtain ⟨n,hn⟩:=(za1 hs).1 h1;exact ⟨n,by rw [hn];exact h⟩
   ·rename_i v s h1;obtain ⟨n,hn⟩:=(za1 hs).1 h1;exact ⟨n,by rw [hn];exact h⟩
   ·cases h
  ·intro ⟨n,h⟩
   split at h
   ·rename_i s h1;rw [(za1 hs).2 ⟨n,h1⟩];exact h
   ·rename_i s h1;rw [(za1 hs).2 ⟨n,h1⟩];exact h
   ·rename_i v s h1;rw [(za1 hs).2 ⟨n,h1⟩];exact h
   ·cases h
theorem zjb {n0:Nat} {H:Heap} {x:Option (Out×Heap)} {r}:zeI n0 H x=some r↔ ∃ q,x=some q∧zeI n0 H (some q)=some r:=by
 cases x with
 | none=>simp [zeI]
 | some q=>simp
theorem zDb (hs:zbD sp) {f:Nat} {F:AFunc} (hf:fs f=some F) (bar:Nat) (as:List AV) (H:Heap):Rn fs sp bar f as H =
  bif F.pure then (bif zdv as then zeI 0 H (zDj fs sp 0 F as []) else zeI H.length H (zDj fs sp H.length F as H)) else zDj fs sp bar F as H:=by
 apply Option.ext
 intro r
 rw [zgR hs]
 have key:(∃ n,run fs sp n bar f as H=some r)↔ ∃ n,run fs sp (n+1) bar f as H=some r:=by
  constructor
  ·intro ⟨n,hn⟩;exact ⟨n,zuz hs bar f as H n (n+1) r (by omega) hn⟩
  ·intro ⟨n,hn⟩;exact ⟨_,hn⟩
 rw [key]
 simp only [run,hf]
 cases F.pure<;>simp only [cond_true,cond_false]
 ·rw [zja hs]
 ·cases zdv as<;>simp only [cond_true,cond_false]
  ·rw [zjb]
   constructor
   ·intro ⟨n,hn⟩
    obtain ⟨q,h1,h2⟩:=zjb.1 hn
    exact ⟨q,(zja hs).2 ⟨n,h1⟩,h2⟩
   ·intro ⟨q,h1,h2⟩
    obtain ⟨n,hn⟩:=(zja hs).1 h1
    exact ⟨n,by rw [hn];exact h2⟩
  ·rw [zjb]
   constructor
   ·intro ⟨n,hn⟩
    obtain ⟨q,h1,h2⟩:=zjb.1 hn
    exact ⟨q,(zja hs).2 ⟨n,h1⟩,h2⟩
   ·intro ⟨q,h1,h2⟩
    obtain ⟨n,hn⟩:=(zja hs).1 h1
    exact ⟨n,by rw [hn];exact h2⟩
theorem znu (hs:zbD sp) {f:Nat} (hf:fs f=none) (bar:Nat) (as:List AV) (H:Heap):Rn fs sp bar f as H=limit fun n=>sp n (run fs sp n) bar f as H:=by
 have hm:Mono fun n=>sp n (run fs sp n) bar f as H:=fun n m a l e=>hs n m _ _ bar l (fun b=>zet hs n m b l) f as H a e
 apply Option.ext
 intro r
 rw [zgR hs,zfA hm]
 constructor
 ·intro ⟨n,hn⟩
  cases n with
  | zero=>cases hn
  | succ n=>simp only [run,hf] at hn;exact ⟨n,hn⟩
 ·intro ⟨n,hn⟩
  exact ⟨n+1,by simp only [run,hf];exact hn⟩
end
end Go.Ak
namespace Go.Ak
def zlm:Nat→Nat→Nat→List Nat
 | 0,_,_=> []
 | n+1,t,m=>bif Nat.beq m 0 then [] else bif Nat.beq (m%2) 1 then t::zlm n (t+1) (m/2) else zlm n (t+1) (m/2)
def mkE (m:Nat) (v:Nat→AV):List (Nat×AV):=(zlm m 0 m).map fun t=>(t,v t)
def st (v:Nat→AV) (t:Nat) (a:AV):Nat→AV:=fun u=>if u=t then a else v u
def noV:Nat→AV:=fun _=> .undef
theorem ziq (v:Nat→AV) (t:Nat) (a:AV) (u:Nat):st v t a u=if u=t then a else v u:=rfl
theorem zg1 (a b:Nat):Nat.beq a b=decide (a=b):=by
 cases h:Nat.beq a b
 ·exact (decide_eq_false (Nat.ne_of_beq_eq_false h)).symm
 ·exact (decide_eq_true (Nat.eq_of_beq_eq_true h)).symm
theorem zuW (a b:Nat):Nat.ble a b=decide (a≤b):=by
 cases h:Nat.ble a b
 ·exact (decide_eq_false (fun k=>by rw [Nat.ble_eq_true_of_le k] at h;cases h)).symm
 ·exact (decide_eq_true (Nat.le_of_ble_eq_true h)).symm
theorem zuV (a b:Nat):Nat.blt a b=decide (a<b):=by
 unfold Nat.blt;rw [zuW];rfl
theorem zbA (k:Nat) (a:AV) (r:List (Nat×AV)) (t:Nat):look ((k,a)::r) t=if k=t then a else look r t:=by
 simp only [look,zg1];by_cases h:k=t<;>simp [h]
theorem zcA (k:Nat) (r:List Nat) (t:Nat):ver (k::r) t=if k=t then ver r t+1 else ver r t:=by
 simp only [ver,zg1];by_cases h:k=t<;>simp [h]
theorem zpI: ∀ (n t m u:Nat),u∈zlm n t m→t≤u
 | 0,_,_,_,h=>by simp [zlm] at h
 | n+1,t,m,u,h=>by
  simp only [zlm] at h
  cases h0:Nat.beq m 0<;>rw [h0] at h<;>simp only [cond_true,cond_false] at h
  ·cases h1:Nat.beq (m%2) 1<;>rw [h1] at h<;>simp only [cond_true,cond_false] at h
   ·have:=zpI n _ _ u h;omega
   ·rcases List.mem_cons.1 h with e | h
    ·omega
    ·have:=zpI n _ _ u h;omega
  ·cases h
theorem zu1 (v:Nat→AV): ∀ (l:List Nat) (t:Nat),look (l.map fun t=>(t,v t)) t=if t∈l then v t else .undef
 | [],_=>by simp [look]
 | k::l,t=>by
  rw [List.map_cons,zbA,zu1 v l t]
  by_cases h:k=t
  ·subst h;simp
  ·have: ¬ t=k:=fun e=>h e.symm
   simp [h,this]
theorem zrA: ∀ (n t m u:Nat),m<2^n→(u∈zlm n t m↔t≤u∧(m >>> (u-t))%2=1)
 | 0,t,m,u,h=>by
  have:m=0:=by simpa using h
  subst this;simp [zlm]
 | n+1,t,m,u,h=>by
  simp only [zlm,zg1]
  by_cases h0:m=0
  ·subst h0;simp
  ·have hd:m/2<2^n:=by rw [Nat.pow_succ] at h;omega
   have ih:=zrA n (t+1) (m/2) u hd
   have hsh: ∀ k,(m/2) >>> k=m >>> (k+1):=fun k=>by
    rw [Nat.shiftRight_eq_div_pow,Nat.shiftRight_eq_div_pow,Nat.div_div_eq_div_mul,Nat.pow_succ,Nat.mul_comm]
   rw [hsh] at ih
   by_cases hu:u=t
   ·subst hu
    have: ¬ u+1≤u:=by omega
    simp only [this,false_and,iff_false] at ih
    by_cases h1:m%2=1<;>simp [h0,h1,ih]
   ·by_cases hl:t≤u
    ·have e:u-(t+1)+1=u-t:=by omega
     rw [e] at ih
     have hl':t+1≤u:=by omega
     simp only [hl',true_and] at ih
     by_cases h1:m%2=1<;>simp [h0,h1,ih,hu,hl]
    ·have hl': ¬ t+1≤u:=by omega
     simp only [hl',false_and,iff_false] at ih
     by_cases h1:m%2=1<;>simp [h0,h1,ih,hu,hl]
theorem zcD (m:Nat) (v:Nat→AV) (t:Nat):look (mkE m v) t=if (m >>> t)%2=1 then v t else .undef:=by
 unfold mkE
 rw [zu1]
 have:=zrA m 0 m t Nat.lt_two_pow_self
 simp only [Nat.zero_le,true_and,Nat.sub_zero] at this
 simp only [this]
theorem ziD: ∀ (n t m:Nat),(zlm n t m).Nodup
 | 0,_,_=>by simp [zlm]
 | n+1,t,m=>by
  simp only [zlm]
  cases h0:Nat.beq m 0<;>simp only [cond_true,cond_false]
  ·cases h1:Nat.beq (m%2) 1<;>simp only [cond_true,cond_false]
   ·exact ziD n _ _
   ·exact List.nodup_cons.2 ⟨fun h=>by have:=zpI _ _ _ _ h;omega,ziD n _ _⟩
  ·simp
theorem zw2 (v:Nat→AV) (t:Nat) (a:AV): ∀ (l:List Nat),l.Nodup→upd (l.map fun t=>(t,v t)) t a=l.map fun u=>(u,st v t a u)
 | [],_=>rfl
 | k::l,h=>by
  obtain ⟨h1,h2⟩:=List.nodup_cons.1 h
  simp only [List.map_cons,upd,zg1]
  by_cases e:k=t
  ·subst e
   have:(l.map fun u=>(u,st v k a u))=l.map fun u=>(u,v u):=List.map_congr_left fun u hu=>by
    have:u≠k:=fun e=>h1 (e▸hu)
    simp [st,this]
   rw [this];simp [st]
  ·simp [e,st,zw2 v t a l h2]
theorem zde (m:Nat) (v:Nat→AV) (t:Nat) (a:AV):upd (mkE m v) t a=mkE m (st v t a):=zw2 v t a _ (ziD _ _ _)
section
variable {fs:Nat→Option AFunc} {sp:Nat→(Nat→CallF)→Nat→CallF} {hs:zbD sp} {bar:Nat}
def Wp (x:Option (AExit×EH)) (Q:AExit→EH→Prop):Prop:= ∃ e s,x=some (e,s)∧Q e s
theorem Wp.mono {x:Option (AExit×EH)} {Q R:AExit→EH→Prop} (h:Wp x Q) (k: ∀ e s,Q e s→R e s):Wp x R:=by
 obtain ⟨e,s,h1,h2⟩:=h;exact ⟨e,s,h1,k e s h2⟩
theorem zbm {e:AExit} {s:EH} {Q:AExit→EH→Prop}:Wp (some (e,s)) Q↔Q e s:=by
 constructor
 ·intro ⟨e',s',h1,h2⟩;cases h1;exact h2
 ·intro h;exact ⟨e,s,rfl,h⟩
theorem zhL {Q:AExit→EH→Prop}:Wp none Q↔False:=by
 constructor
 ·intro ⟨_,_,h,_⟩;cases h
 ·exact False.elim
def andThen (f:EH→Option (AExit×EH)) (Q:AExit→EH→Prop) (e:AExit) (s:EH):Prop :=
 match e with
 | .norm=>Wp (f s) Q
 | e=>Q e s
def zlh (id:Nat) (Q:AExit→EH→Prop) (e:AExit) (s:EH):Prop :=
 match e with
 | .exit i=>if i=id then Q .norm s else Q (.exit i) s
 | e=>Q e s
variable (hs)
theorem zd7 {s:EH} {Q}:Wp (evI fs sp bar .skip s) Q↔Q .norm s:=by rw [zcx,zbm]
theorem zd8 {id:Nat} {s:EH} {Q}:Wp (evI fs sp bar (.exit id) s) Q↔Q (.exit id) s:=by rw [zBS,zbm]
theorem zfV {s:EH} {Q}:Wp (evI fs sp bar .ret s) Q↔Q .ret s:=by rw [zGc,zbm]
include hs in
theorem zad {a b:ACode} {s:EH} {Q}:Wp (evI fs sp bar (.seq a b) s) Q↔Wp (evI fs sp bar a s) (andThen (evI fs sp bar b) Q):=by
 rw [zGb hs]
 cases h:evI fs sp bar a s with
 | none=>rw [zhL,zhL]
 | some q =>
  obtain ⟨e,s'⟩:=q
  rw [zbm]
  cases e<;>simp only [andThen]
  all_goals rw [zbm]
include hs in
theorem zab {id:Nat} {c:ACode} {s:EH} {Q}:Wp (evI fs sp bar (.block id c) s) Q↔Wp (evI fs sp bar c s) (zlh id Q):=by
 rw [zyz hs]
 cases h:evI fs sp bar c s with
 | none=>rw [zhL,zhL]
 | some q =>
  obtain ⟨e,s'⟩:=q
  rw [zbm]
  cases e<;>simp only [zlh]
  case exit i =>
   simp only [zg1]
   by_cases h:i=id<;>simp [h,zbm]
  all_goals rw [zbm]
include hs in
theorem zHg {c:ACode} {s:EH} {Q}:Wp (evI fs sp bar (.loop c) s) Q↔Wp (evI fs sp bar c s) (andThen (evI fs sp bar (.loop c)) Q):=by
 rw [zBR hs]
 cases h:evI fs sp bar c s with
 | none=>rw [zhL,zhL]
 | some q =>
  obtain ⟨e,s'⟩:=q
  rw [zbm]
  cases e<;>simp only [andThen]
  all_goals rw [zbm]
include hs in
theorem zaj {c b:ACode} (h:c=b) {s:EH} {Q}:Wp (evI fs sp bar (.loop c) s) Q↔Wp (evI fs sp bar b s) (andThen (evI fs sp bar (.loop c)) Q):=by
 subst h;exact zHg hs
include hs in
theorem zac {clr:Bool} {t:Nat} {x y:ACode} {m:Nat} {v:Nat→AV} {H:Heap} {Q} {b:Bool} (hb:look (mkE m v) t= .bool b):Wp (evI fs sp bar (.cond clr (.v t) x y) (mkE m v,H)) Q ↔
  Wp (evI fs sp bar (bif b then x else y) (mkE m (bif clr then st v t .undef else v),H)) Q:=by
 rw [zBU hs]
 simp only [zwB,hb]
 cases clr<;>cases b<;>simp [zde]
def Ws (x:Option (AExit×St)) (Q:AExit→EH→Prop):Prop:= ∃ e σ,x=some (e, σ)∧Q e (σ.env, σ.H)
theorem zc2 {e:AExit} {σ:St} {Q:AExit→EH→Prop}:Ws (some (e, σ)) Q↔Q e (σ.env, σ.H):=by
 constructor
 ·intro ⟨e',s',h1,h2⟩;cases h1;exact h2
 ·intro h;exact ⟨e, σ,rfl,h⟩
theorem zAE {Q:AExit→EH→Prop}:Ws none Q↔False:=by
 constructor
 ·intro ⟨_,_,h,_⟩;cases h
 ·exact False.elim
include hs in
theorem zaa {ops:List AStep} {E:List (Nat×AV)} {H:Heap} {Q}:Wp (evI fs sp bar (.region ops) (E,H)) Q↔Ws (zaN (Rn fs sp bar) bar ops ⟨E,[],[],H⟩) Q:=by
 rw [zwx hs]
 cases h:zaN (Rn fs sp bar) bar ops ⟨E,[],[],H⟩ with
 | none=>rw [zhL,zAE]
 | some q=>obtain ⟨e, σ⟩:=q;rw [zbm,zc2]
include hs in
theorem zai {p:Plan} {E:List (Nat×AV)} {H:Heap} {Q}:Wp (evI fs sp bar (.draw p) (E,H)) Q↔Ws (zaL (Rn fs sp bar) bar p ⟨E,[],[],H⟩) Q:=by
 rw [zBT hs]
 cases h:zaL (Rn fs sp bar) bar p ⟨E,[],[],H⟩ with
 | none=>rw [zhL,zAE]
 | some q=>obtain ⟨e, σ⟩:=q;rw [zbm,zc2]
theorem zaG {f:EH→Option (AExit×EH)} {Q} {s:EH}:andThen f Q .norm s↔Wp (f s) Q:=Iff.rfl
theorem za9 {f:EH→Option (AExit×EH)} {Q} {s:EH}:andThen f Q .ret s↔Q .ret s:=Iff.rfl
theorem za0 {f:EH→Option (AExit×EH)} {Q} {i:Nat} {s:EH}:andThen f Q (.exit i) s↔Q (.exit i) s:=Iff.rfl
theorem zba {f:EH→Option (AExit×EH)} {Q} {a:AV} {s:EH}:andThen f Q (.pan a) s↔Q (.pan a) s:=Iff.rfl
theorem zbs {id:Nat} {Q:AExit→EH→Prop} {s:EH}:zlh id Q .norm s↔Q .norm s:=Iff.rfl
theorem zbK {id:Nat} {Q:AExit→EH→Prop} {s:EH}:zlh id Q .ret s↔Q .ret s:=Iff.rfl
theorem zbL {id:Nat} {Q:AExit→EH→Prop} {a:AV} {s:EH}:zlh id Q (.pan a) s↔Q (.pan a) s:=Iff.rfl
theorem zbg {id:Nat} {Q:AExit→EH→Prop} {i:Nat} {s:EH}:zlh id Q (.exit i) s↔if i=id then Q .norm s else Q (.exit i) s:=Iff.rfl
def fin (res:List ARes) (Q:Out→Heap→Prop) (e:AExit) (s:EH):Prop :=
 match e with
 | .norm | .ret=> ∃ v,zeH s res=some v∧Q (.ret v) s.2
 | .pan v=>Q (.pan v) s.2
 | .exit _=>False
theorem zcJ {res:List ARes} {Q} {s:EH}:fin res Q .norm s↔ ∃ v,zeH s res=some v∧Q (.ret v) s.2:=Iff.rfl
theorem zdJ {res:List ARes} {Q} {s:EH}:fin res Q .ret s↔ ∃ v,zeH s res=some v∧Q (.ret v) s.2:=Iff.rfl
theorem zdK {res:List ARes} {Q} {s:EH} {v:AV}:fin res Q (.pan v) s↔Q (.pan v) s.2:=Iff.rfl
def Wc (x:Option (Out×Heap)) (Q:Out→Heap→Prop):Prop:= ∃ o H,x=some (o,H)∧Q o H
theorem Wc.mono {x:Option (Out×Heap)} {Q R:Out→Heap→Prop} (h:Wc x Q) (k: ∀ e s,Q e s→R e s):Wc x R:=by
 obtain ⟨e,s,h1,h2⟩:=h;exact ⟨e,s,h1,k e s h2⟩
theorem zh8 {x:Option (Out×Heap)} {o:Out} {H:Heap}:Wc x (fun p K=>p=o∧K=H)↔x=some (o,H):=by
 constructor
 ·intro ⟨p,K,h,h1,h2⟩;subst h1 h2;exact h
 ·intro h;exact ⟨o,H,h,rfl,rfl⟩
theorem zsM {F:AFunc} {as:List AV} {H:Heap} {Q} (hn:Nat.beq as.length F.np=true) (h:Wp (evI fs sp bar F.body (zat F.vars as,H)) (fin F.res Q)):Wc (zDj fs sp bar F as H) Q:=by
 obtain ⟨e,s,h1,h2⟩:=h
 simp only [zDj,hn,cond_true,h1]
 cases e with
 | norm=>obtain ⟨v,h3,h4⟩:=h2;simp only [h3];exact ⟨_,_,rfl,h4⟩
 | ret=>obtain ⟨v,h3,h4⟩:=h2;simp only [h3];exact ⟨_,_,rfl,h4⟩
 | pan v=>exact ⟨_,_,rfl,h2⟩
 | exit i=>exact h2.elim
include hs in
theorem zaO {f:Nat} {F:AFunc} (hf:fs f=some F) {as:List AV} {H:Heap} {Q} (hp:F.pure=false) (hn:Nat.beq as.length F.np=true) (h:Wp (evI fs sp bar F.body (zat F.vars as,H)) (fin F.res Q)):Wc (Rn fs sp bar f as H) Q:=by
 rw [zDb hs hf,hp]
 exact zsM hn h
def thaw (n0:Nat) (Q:Out→Prop) (o:Out) (H:Heap):Prop :=
 match o with
 | .ret v=> ∃ u,frz n0 H v=some u∧Q (.ret u)
 | .pan v=> ∃ u,frz n0 H v=some u∧Q (.pan u)
theorem zcB {n0:Nat} {Q:Out→Prop} {v:AV} {H:Heap}:thaw n0 Q (.ret v) H↔ ∃ u,frz n0 H v=some u∧Q (.ret u):=Iff.rfl
theorem zcC {n0:Nat} {Q:Out→Prop} {v:AV} {H:Heap}:thaw n0 Q (.pan v) H↔ ∃ u,frz n0 H v=some u∧Q (.pan u):=Iff.rfl
theorem zuM {n0:Nat} {H:Heap} {x:Option (Out×Heap)} {Q:Out→Prop} (h:Wc x (thaw n0 Q)):Wc (zeI n0 H x) (fun o K=>Q o∧K=H):=by
 obtain ⟨o,K,h1,h2⟩:=h
 subst h1
 cases o with
 | ret v=>obtain ⟨u,h3,h4⟩:=h2;exact ⟨.ret u,H,by simp only [zeI,h3],h4,rfl⟩
 | pan v=>obtain ⟨u,h3,h4⟩:=h2;exact ⟨.pan u,H,by simp only [zeI,h3],h4,rfl⟩
include hs in
theorem zAF {f:Nat} {F:AFunc} (hf:fs f=some F) {as:List AV} {H:Heap} {Q} (hp:F.pure=true) (hc:zdv as=true) (hn:Nat.beq as.length F.np=true) (h:Wp (evI fs sp 0 F.body (zat F.vars as,[])) (fin F.res (thaw 0 Q))) :
  Wc (Rn fs sp bar f as H) (fun o K=>Q o∧K=H):=by
 rw [zDb hs hf,hp,hc]
 exact zuM (zsM hn h)
include hs in
theorem zvA {f:Nat} {F:AFunc} (hf:fs f=some F) {as:List AV} {H:Heap} {Q} (hp:F.pure=true) (hc:zdv as=false) (hn:Nat.beq as.length F.np=true) (h:Wp (evI fs sp H.length F.body (zat F.vars as,H)) (fin F.res (thaw H.length Q))) :
  Wc (Rn fs sp bar f as H) (fun o K=>Q o∧K=H):=by
 rw [zDb hs hf,hp,hc]
 exact zuM (zsM hn h)
include hs in
theorem zao {f:Nat} {F:AFunc} (hf:fs f=some F) {as:List AV} {H:Heap} {r:AV} (hp:F.pure=true) (hc:zdv as=true) (hn:Nat.beq as.length F.np=true) (h:Wp (evI fs sp 0 F.body (zat F.vars as,[])) (fin F.res (thaw 0 (· = .ret r)))) :
  Rn fs sp bar f as H=some (.ret r,H):=zh8.1 (zAF hs hf hp hc hn h)
include hs in
theorem zcX {f:Nat} {F:AFunc} (hf:fs f=some F) {as:List AV} {H:Heap} {r:AV} (hp:F.pure=true) (hc:zdv as=false) (hn:Nat.beq as.length F.np=true) (h:Wp (evI fs sp H.length F.body (zat F.vars as,H)) (fin F.res (thaw H.length (· = .ret r)))) :
  Rn fs sp bar f as H=some (.ret r,H):=zh8.1 (zvA hs hf hp hc hn h)
end
theorem zal (n:Int) (h: -9223372036854775808≤n∧n≤9223372036854775807):IntKind.i64.wrap n=n:=by
 have h1:(2:Int)^64=18446744073709551616:=by decide
 have h2:(2:Int)^63=9223372036854775808:=by decide
 simp only [IntKind.wrap,IntKind.bits,IntKind.signed,h1,h2,Bool.true_and,decide_eq_true_eq,Nat.reduceSub]
 split<;>omega
theorem zcF (sz:Nat):zpn sz []=true:=rfl
theorem zbM (sz:Nat) (e:AV) (l:List AV):zpn sz (e::l)=Nat.beq e.cells.length (step sz):=rfl
theorem zcI (n:Nat) (H:Heap) (b:Bool):frz n H (.bool b)=some (.bool b):=by simp [frz]
theorem zdI (n:Nat) (H:Heap) (k:IntKind) (i:Int):frz n H (.int k i)=some (.int k i):=by simp [frz]
theorem zdH (n:Nat) (H:Heap) (s:List UInt8):frz n H (.str s)=some (.str s):=by simp [frz]
theorem zcG (n:Nat) (H:Heap):frz n H .nils=some .nils:=by simp [frz]
theorem zcH (n:Nat) (H:Heap):frz n H .nilp=some .nilp:=by simp [frz]
def hget (H:Heap) (i:Nat):Option (Option (List AV)):=H[i]?
theorem zdl (H:Heap) (i:Nat):H[i]? = hget H i:=rfl
theorem zas {H:Heap} {i:Nat} {x:Option (List AV)} (h:hget H i=some x):i<H.length:=(List.getElem?_eq_some_iff.1 h).1
theorem za5 {H:Heap} {i:Nat} (l:Heap) (h:i<H.length):hget (H++l) i=hget H i:=List.getElem?_append_left h
theorem zbp (H:Heap) (x:Option (List AV)):hget (H ++ [x]) H.length=some x:=by simp [hget]
theorem zjg (H:Heap) (x:Option (List AV)) (n:Nat) (h:n=H.length):hget (H ++ [x]) n=some x:=by subst h;exact zbp H x
theorem zaw {H:Heap} {i k:Nat} (x:Option (List AV)) (h:i≠k):hget (H.set i x) k=hget H k:=List.getElem?_set_ne h
theorem zae {H:Heap} {i:Nat} (x:Option (List AV)) (h:i<H.length):hget (H.set i x) i=some x:=List.getElem?_set_self h
theorem zaE (a:Option (List AV)) (l:Heap):hget (a::l) 0=some a:=rfl
theorem zaF (a:Option (List AV)) (l:Heap) (n:Nat):hget (a::l) (n+1)=hget l n:=rfl
theorem zcE (n:Nat):hget [] n=none:=by simp [hget]
abbrev num (n:Nat):AV:= .int .i64 n
end Go.Ak
namespace Go.Ak
theorem zIT (x0 x1 x2:AV):zat a164.vars [x0,x1,x2]=mkE 1181745668122461868007 (st (st (st noV 0 x0) 1 x1) 2 x2):=rfl
theorem env8 (x0:AV):zat a8.vars [x0]=mkE 61 (st noV 0 x0):=rfl
theorem zkZ (x0 x1:AV):zat a157.vars [x0,x1]=mkE 2233384077299 (st (st noV 0 x0) 1 x1):=rfl
theorem zDx (x0:AV):zat a160.vars [x0]=mkE 5 (st noV 0 x0):=rfl
theorem env161:zat a161.vars []=mkE 3 noV:=rfl
theorem zIS:zat a165.vars []=mkE 1 noV:=rfl
theorem zyB (x0:AV):zat a166.vars [x0]=mkE 7 (st noV 0 x0):=rfl
theorem zIR (x0 x1 x2:AV):zat a167.vars [x0,x1,x2]=mkE 2229191 (st (st (st noV 0 x0) 1 x1) 2 x2):=rfl
theorem zDw (x0 x1 x2 x3:AV):zat a168.vars [x0,x1,x2,x3]=mkE 33551 (st (st (st (st noV 0 x0) 1 x1) 2 x2) 3 x3):=rfl
theorem zIQ (x0:AV):zat a169.vars [x0]=mkE 5 (st noV 0 x0):=rfl
theorem zIP (x0 x1:AV):zat a170.vars [x0,x1]=mkE 4210803 (st (st noV 0 x0) 1 x1):=rfl
theorem zIN (x0:AV):zat a172.vars [x0]=mkE 5 (st noV 0 x0):=rfl
theorem zIO (x0 x1:AV):zat a171.vars [x0,x1]=mkE 17523 (st (st noV 0 x0) 1 x1):=rfl
theorem env14 (x0:AV):zat a14.vars [x0]=mkE 269484285 (st noV 0 x0):=rfl
theorem env38 (x0:AV):zat a38.vars [x0]=mkE 7 (st noV 0 x0):=rfl
theorem env10 (x0:AV):zat a10.vars [x0]=mkE 33620477 (st noV 0 x0):=rfl
theorem zIM (x0:AV):zat a180.vars [x0]=mkE 5 (st noV 0 x0):=rfl
theorem zIU (x0 x1:AV):zat a153.vars [x0,x1]=mkE 34051443 (st (st noV 0 x0) 1 x1):=rfl
theorem zIA (x0 x1:AV):zat a95.vars [x0,x1]=mkE 115 (st (st noV 0 x0) 1 x1):=rfl
theorem zIK (x0 x1 x2:AV):zat a188.vars [x0,x1,x2]=mkE 8391 (st (st (st noV 0 x0) 1 x1) 2 x2):=rfl
theorem zIL (x0:AV):zat a185.vars [x0]=mkE 5 (st noV 0 x0):=rfl
theorem env44 (x0:AV):zat a44.vars [x0]=mkE 1049213 (st noV 0 x0):=rfl
theorem env45 (x0:AV):zat a45.vars [x0]=mkE 1103 (st noV 0 x0):=rfl
theorem env63 (x0:AV):zat a63.vars [x0]=mkE 7 (st noV 0 x0):=rfl
theorem env34 (x0:AV):zat a34.vars [x0]=mkE 2367 (st noV 0 x0):=rfl
theorem env42 (x0:AV):zat a42.vars [x0]=mkE 39 (st noV 0 x0):=rfl
theorem zDz (x0 x1:AV):zat a104.vars [x0,x1]=mkE 4339 (st (st noV 0 x0) 1 x1):=rfl
theorem zIJ (x0 x1:AV):zat a194.vars [x0,x1]=mkE 19 (st (st noV 0 x0) 1 x1):=rfl
theorem zII (x0:AV):zat a195.vars [x0]=mkE 67108989 (st noV 0 x0):=rfl
theorem env69 (x0 x1:AV):zat a69.vars [x0,x1]=mkE 8307 (st (st noV 0 x0) 1 x1):=rfl
theorem env70 (x0 x1 x2:AV):zat a70.vars [x0,x1,x2]=mkE 2722944318552834909416890706682699579855 (st (st (st noV 0 x0) 1 x1) 2 x2):=rfl
theorem env71 (x0:AV):zat a71.vars [x0]=mkE 2361255369402436685855 (st noV 0 x0):=rfl
theorem env85 (x0 x1 x2:AV):zat a85.vars [x0,x1,x2]=mkE 549760008655 (st (st (st noV 0 x0) 1 x1) 2 x2):=rfl
theorem env86 (x0 x1:AV):zat a86.vars [x0,x1]=mkE 2099 (st (st noV 0 x0) 1 x1):=rfl
theorem env57 (x0:AV):zat a57.vars [x0]=mkE 39 (st noV 0 x0):=rfl
theorem env59 (x0 x1 x2:AV):zat a59.vars [x0,x1,x2]=mkE 19343108262865700173913047 (st (st (st noV 0 x0) 1 x1) 2 x2):=rfl
theorem zID (x0 x1:AV):zat a58.vars [x0,x1]=mkE 27 (st (st noV 0 x0) 1 x1):=rfl
theorem env65 (x0 x1 x2:AV):zat a65.vars [x0,x1,x2]=mkE 1267650600670987429023578062959 (st (st (st noV 0 x0) 1 x1) 2 x2):=rfl
theorem env66 (x0:AV):zat a66.vars [x0]=mkE 263952017659567 (st noV 0 x0):=rfl
theorem env123 (x0 x1:AV):zat a123.vars [x0,x1]=mkE 19 (st (st noV 0 x0) 1 x1):=rfl
theorem env43 (x0 x1 x2:AV):zat a43.vars [x0,x1,x2]=mkE 2148535239 (st (st (st noV 0 x0) 1 x1) 2 x2):=rfl
theorem zIH (x0:AV):zat a203.vars [x0]=mkE 5 (st noV 0 x0):=rfl
theorem zIG (x0:AV):zat a204.vars [x0]=mkE 349129794133781029338228097773851226701821 (st noV 0 x0):=rfl
theorem env92 (x0 x1:AV):zat a92.vars [x0,x1]=mkE 33554547 (st (st noV 0 x0) 1 x1):=rfl
theorem zIB (x0:AV):zat a93.vars [x0]=mkE 524293 (st noV 0 x0):=rfl
theorem env3 (x0 x1:AV):zat a3.vars [x0,x1]=mkE 2392674742044787 (st (st noV 0 x0) 1 x1):=rfl
theorem env87 (x0 x1:AV):zat a87.vars [x0,x1]=mkE 67109107 (st (st noV 0 x0) 1 x1):=rfl
theorem zIC (x0 x1:AV):zat a88.vars [x0,x1]=mkE 262259 (st (st noV 0 x0) 1 x1):=rfl
theorem zGd (x0 x1:AV):zat a89.vars [x0,x1]=mkE 70643760244403 (st (st noV 0 x0) 1 x1):=rfl
theorem env81 (x0:AV):zat a81.vars [x0]=mkE 7 (st noV 0 x0):=rfl
theorem env82 (x0:AV):zat a82.vars [x0]=mkE 584262617007 (st noV 0 x0):=rfl
theorem env83 (x0 x1 x2:AV):zat a83.vars [x0,x1,x2]=mkE 126102713711727575 (st (st (st noV 0 x0) 1 x1) 2 x2):=rfl
theorem env91 (x0 x1:AV):zat a91.vars [x0,x1]=mkE 19 (st (st noV 0 x0) 1 x1):=rfl
theorem env90 (x0 x1 x2:AV):zat a90.vars [x0,x1,x2]=mkE 31 (st (st (st noV 0 x0) 1 x1) 2 x2):=rfl
theorem env35 (x0 x1 x2:AV):zat a35.vars [x0,x1,x2]=mkE 199 (st (st (st noV 0 x0) 1 x1) 2 x2):=rfl
theorem zIF (x0 x1:AV):zat a213.vars [x0,x1]=mkE 19 (st (st noV 0 x0) 1 x1):=rfl
theorem zIE (x0 x1:AV):zat a216.vars [x0,x1]=mkE 131187 (st (st noV 0 x0) 1 x1):=rfl
theorem zJl (x0 x1:AV):zat a101.vars [x0,x1]=mkE 98735055699304187507286263408835596128243 (st (st noV 0 x0) 1 x1):=rfl
theorem zDA (x0 x1:AV):zat a102.vars [x0,x1]=mkE 4874663954868102531948795 (st (st noV 0 x0) 1 x1):=rfl
theorem zIz (x0:AV):zat a98.vars [x0]=mkE 8205 (st noV 0 x0):=rfl
theorem env99 (x0 x1:AV):zat a99.vars [x0,x1]=mkE 76677619 (st (st noV 0 x0) 1 x1):=rfl
theorem zJm (x0 x1:AV):zat a100.vars [x0,x1]=mkE 66483 (st (st noV 0 x0) 1 x1):=rfl
theorem env37 (x0 x1 x2 x3:AV):zat a37.vars [x0,x1,x2,x3]=mkE 2379663764704762803983 (st (st (st (st noV 0 x0) 1 x1) 2 x2) 3 x3):=rfl
theorem env60 (x0 x1:AV):zat a60.vars [x0,x1]=mkE 3 (st (st noV 0 x0) 1 x1):=rfl
theorem zDy (x0 x1 x2:AV):zat a107.vars [x0,x1,x2]=mkE 1031 (st (st (st noV 0 x0) 1 x1) 2 x2):=rfl
theorem zJi (x0 x1:AV):zat a108.vars [x0,x1]=mkE 240225565480938577807985484469345695599948758954541043 (st (st noV 0 x0) 1 x1):=rfl
theorem zJh (x0:AV):zat a109.vars [x0]=mkE 13 (st noV 0 x0):=rfl
theorem zJg:zat a110.vars []=mkE 1 noV:=rfl
theorem zJf (x0:AV):zat a111.vars [x0]=mkE 137439019037 (st noV 0 x0):=rfl
theorem zJk (x0 x1:AV):zat a105.vars [x0,x1]=mkE 723267678280255871351330443251 (st (st noV 0 x0) 1 x1):=rfl
theorem zJj (x0 x1:AV):zat a106.vars [x0,x1]=mkE 549758435827 (st (st noV 0 x0) 1 x1):=rfl
theorem env61 (x0 x1 x2 x3:AV):zat a61.vars [x0,x1,x2,x3]=mkE 39614082438300250541364643599 (st (st (st (st noV 0 x0) 1 x1) 2 x2) 3 x3):=rfl
theorem env62 (x0 x1:AV):zat a62.vars [x0,x1]=mkE 23 (st (st noV 0 x0) 1 x1):=rfl
theorem zI8 (x0 x1:AV):zat a119.vars [x0,x1]=mkE 275 (st (st noV 0 x0) 1 x1):=rfl
theorem zfF (x0 x1:AV):zat a120.vars [x0,x1]=mkE 83402540892580794972557710289011187 (st (st noV 0 x0) 1 x1):=rfl
theorem zI7 (x0 x1:AV):zat a121.vars [x0,x1]=mkE 10486899 (st (st noV 0 x0) 1 x1):=rfl
theorem zI6 (x0:AV):zat a122.vars [x0]=mkE 1048735 (st noV 0 x0):=rfl
theorem zJe (x0 x1 x2:AV):zat a113.vars [x0,x1,x2]=mkE 7 (st (st (st noV 0 x0) 1 x1) 2 x2):=rfl
theorem zJd (x0 x1:AV):zat a114.vars [x0,x1]=mkE 2342153315636223987 (st (st noV 0 x0) 1 x1):=rfl
theorem zJc (x0:AV):zat a115.vars [x0]=mkE 7 (st noV 0 x0):=rfl
theorem zJa (x0:AV):zat a117.vars [x0]=mkE 5 (st noV 0 x0):=rfl
theorem zJb (x0:AV):zat a116.vars [x0]=mkE 369100829 (st noV 0 x0):=rfl
theorem zI9 (x0:AV):zat a118.vars [x0]=mkE 16777981 (st noV 0 x0):=rfl
theorem env84 (x0 x1:AV):zat a84.vars [x0,x1]=mkE 23 (st (st noV 0 x0) 1 x1):=rfl
theorem zI5 (x0 x1:AV):zat a124.vars [x0,x1]=mkE 19 (st (st noV 0 x0) 1 x1):=rfl
theorem zI4 (x0:AV):zat a125.vars [x0]=mkE 328829003598998184994543613 (st noV 0 x0):=rfl
theorem zI3 (x0 x1:AV):zat a126.vars [x0,x1]=mkE 255 (st (st noV 0 x0) 1 x1):=rfl
theorem zI2 (x0:AV):zat a127.vars [x0]=mkE 63 (st noV 0 x0):=rfl
theorem zI1 (x0 x1 x2:AV):zat a128.vars [x0,x1,x2]=mkE 79 (st (st (st noV 0 x0) 1 x1) 2 x2):=rfl
theorem zI0 (x0 x1:AV):zat a133.vars [x0,x1]=mkE 19 (st (st noV 0 x0) 1 x1):=rfl
theorem zIZ (x0:AV):zat a134.vars [x0]=mkE 4221 (st noV 0 x0):=rfl
theorem zIY (x0:AV):zat a135.vars [x0]=mkE 72103773534683229 (st noV 0 x0):=rfl
theorem zIX (x0 x1 x2:AV):zat a136.vars [x0,x1,x2]=mkE 8399 (st (st (st noV 0 x0) 1 x1) 2 x2):=rfl
theorem zIW (x0 x1:AV):zat a137.vars [x0,x1]=mkE 19 (st (st noV 0 x0) 1 x1):=rfl
theorem zIV (x0:AV):zat a138.vars [x0]=mkE 89478493 (st noV 0 x0):=rfl
end Go.Ak
