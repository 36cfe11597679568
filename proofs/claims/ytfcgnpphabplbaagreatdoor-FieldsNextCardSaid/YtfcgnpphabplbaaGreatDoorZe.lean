/- The functions that the law reaches, in the evaluator's words (checked against the loaded program in another part of the claim), and the evaluator without a bound. -/
import Derived.Test.YtfcgnpphabplbaaGreatDoorZa
set_option linter.unusedVariables false
set_option linter.unusedSimpArgs false
set_option maxRecDepth 100000
namespace Go.Ak
abbrev SL:=List AStep
def sR (l:SL) (c:ACode):ACode:=.seq (.region l) c
def sT (l:SL):ACode:=.seq (.region l) .ret
def cV (n:Nat) (a b:ACode):ACode:=.cond true (.v n) a b
def bL (n:Nat) (c:ACode):ACode:=.block n (.loop c)
def mvV (a b:Nat):AStep:=⟨.l a,none, .mov (.v b)⟩
def mvL (a b:Nat):AStep:=⟨.l a,none, .mov (.l b)⟩
def mgV (a g:Nat) (t:Bool) (b:Nat):AStep:=⟨.l a,some (.l g,t), .mov (.v b)⟩
def mgL (a g:Nat) (t:Bool) (b:Nat):AStep:=⟨.l a,some (.l g,t), .mov (.l b)⟩
def asL (a n b:Nat):AStep:=⟨.v a,none, .asg n (.l b)⟩
def asI (a n:Nat) (k:Int):AStep:=⟨.v a,none, .asg n (.c (.int .i64 k))⟩
def asB (a n:Nat) (k:Bool):AStep:=⟨.v a,none, .asg n (.c (.bool k))⟩
def ldN (a b:Nat):AStep:=⟨.l a,none, .load none (.l b)⟩
def ldV (a k b:Nat):AStep:=⟨.l a,none, .load (some k) (.v b)⟩
def ldL (a k b:Nat):AStep:=⟨.l a,none, .load (some k) (.l b)⟩
def ldG (a g:Nat) (t:Bool) (b:Nat):AStep:=⟨.l a,some (.l g,t), .load none (.l b)⟩
def stV (k a b:Nat):AStep:=⟨.no,none, .store (some k) (.v a) (.l b)⟩
def stL (a b:Nat):AStep:=⟨.no,none, .store none (.l a) (.l b)⟩
def fdL (a i b:Nat):AStep:=⟨.l a,none, .faddr i (.l b)⟩
def fdV (a i b:Nat):AStep:=⟨.l a,none, .faddr i (.v b)⟩
def fdG (a g:Nat) (t:Bool) (i b:Nat):AStep:=⟨.l a,some (.l g,t), .faddr i (.v b)⟩
def fgL (a g:Nat) (t:Bool) (i b:Nat):AStep:=⟨.l a,some (.l g,t), .faddr i (.l b)⟩
def nlC (a b:Nat):AStep:=⟨.l a,none, .nilchk (.l b)⟩
def nlG (a g:Nat) (t:Bool) (b:Nat):AStep:=⟨.l a,some (.l g,t), .nilchk (.l b)⟩
def bnI (a:Nat) (o:BinOp) (b:Nat) (k:Int):AStep:=⟨.l a,none, .bin o (.l b) (.c (.int .i64 k))⟩
def bvI (a:Nat) (o:BinOp) (b:Nat) (k:Int):AStep:=⟨.v a,none, .bin o (.l b) (.c (.int .i64 k))⟩
def bnL (a:Nat) (o:BinOp) (b d:Nat):AStep:=⟨.l a,none, .bin o (.l b) (.l d)⟩
def bvL (a:Nat) (o:BinOp) (b d:Nat):AStep:=⟨.v a,none, .bin o (.l b) (.l d)⟩
def bxI (a:Nat) (o:BinOp) (b:Nat) (k:Int):AStep:=⟨.l a,none, .bin o (.v b) (.c (.int .i64 k))⟩
def bxU (a:Nat) (o:BinOp) (b:Nat) (k:Int):AStep:=⟨.l a,none, .bin o (.v b) (.c (.int .u8 k))⟩
def bgI (a g:Nat) (t:Bool) (o:BinOp) (b:Nat) (k:Int):AStep:=⟨.l a,some (.l g,t), .bin o (.l b) (.c (.int .i64 k))⟩
def bgL (a g:Nat) (t:Bool) (o:BinOp) (b d:Nat):AStep:=⟨.l a,some (.l g,t), .bin o (.l b) (.l d)⟩
def exT (a i b:Nat):AStep:=⟨.l a,none, .ext i (.l b)⟩
def lnS (a:Nat) (t:Bool) (b:Nat):AStep:=⟨.l a,none, .len t (.l b)⟩
def lgS (a g:Nat) (t u:Bool) (b:Nat):AStep:=⟨.l a,some (.l g,t), .len u (.l b)⟩
def clA (a f b:Nat):AStep:=⟨.l a,none, .call f [.pl (.l b)]⟩
def clB (a f b d:Nat):AStep:=⟨.l a,none, .call f [.pl (.l b), .pl (.l d)]⟩
def clC (a f b d e:Nat):AStep:=⟨.l a,none, .call f [.pl (.l b), .pl (.l d), .pl (.l e)]⟩
def clI (a f b d:Nat) (k:Int):AStep:=⟨.l a,none, .call f [.pl (.l b), .pl (.l d), .pl (.c (.int .i64 k))]⟩
def pkT (a b d:Nat):AStep:=⟨.l a,none, .pick (.l b) (.c (.bool true)) (.l d)⟩
def pkF (a b d:Nat):AStep:=⟨.l a,none, .pick (.l b) (.l d) (.c (.bool false))⟩
def pvT (a b d:Nat):AStep:=⟨.v a,none, .pick (.l b) (.c (.bool true)) (.l d)⟩
def pvF (a b d:Nat):AStep:=⟨.v a,none, .pick (.l b) (.l d) (.c (.bool false))⟩
def pgT (a g:Nat) (t:Bool) (b d:Nat):AStep:=⟨.l a,some (.l g,t), .pick (.l b) (.c (.bool true)) (.l d)⟩
def pgF (a g:Nat) (t:Bool) (b d:Nat):AStep:=⟨.l a,some (.l g,t), .pick (.l b) (.l d) (.c (.bool false))⟩
def ixL (a k b d:Nat):AStep:=⟨.l a,none, .iaddr k (.l b) (.l d)⟩
def axV (a k i b d:Nat):AStep:=⟨.l a,none, .aaddr k i (.v b) (.l d)⟩
def bxV (a b:Nat):AStep:=⟨.v a,none, .boxL (.v b)⟩
def apL (a k b d:Nat):AStep:=⟨.l a,none, .append false k (.l b) (.l d)⟩
def zu0:SL:= [asB 6 6 false]
def zuZ:SL:= [mvV 15 0,lnS 16 true 15,bnI 17 .gtr 16 30,mvL 18 17,mgV 19 18 false 2,⟨.l 20,some (.l 18,false), .call 160 [.pl (.l 19)]⟩,⟨.l 21,some (.l 18,false), .un .not (.l 20)⟩,pvT 22 18 21]
def zuY:SL:= [⟨.l 23,none, .call 161 []⟩,asL 6 6 23]
def zDS:SL:= [mvV 25 0,mvV 26 1,mvV 27 2,clC 28 80 25 26 27,mvL 24 28,exT 29 0 24,exT 30 1 24,exT 31 2 24,exT 32 3 24,asL 7 7 29,asL 8 8 30,asL 9 9 31,asL 10 10 32]
def zDR:SL:= [mvV 34 0,mvV 35 1,mvV 36 2,clC 37 151 34 35 36,mvL 33 37,exT 38 0 33,exT 39 1 33,exT 40 2 33,exT 41 3 33,asL 11 11 38,asL 12 12 39,asL 13 13 40,asL 14 14 41]
def zDQ:SL:= [mvV 42 7,mvV 43 11,bnL 44 .eql 42 43,mvL 45 44,mgV 46 45 true 8,mgV 47 45 true 12,bgL 48 45 true .eql 46 47,pkF 49 45 48,mvL 50 49,mgV 51 50 true 9,mgV 52 50 true 13,⟨.l 53,some (.l 50,true), .eq false 0 (.l 51) (.l 52)⟩,pkF 54 50 53,mvL 55 54,mgV 56 55 true 10,mgV 57 55 true 14,bgL 58 55 true .eql 56 57,pkF 59 55 58,mvL 60 59,⟨.l 61,some (.l 60,true), .call 161 []⟩,pkF 62 60 61,asL 6 6 62]
def a159:AFunc:=⟨3,[0,1,2,6,7,8,9,10,11,12,13,14,22],[.tmp 6],(sR zu0 (.seq (sR zuZ (cV 22 (sT zuY) .skip)) (sR zDS (sR zDR (sT zDQ))))),true⟩
def a8r0:SL:= [asB 2 2 false]
def a8r1:SL:= [mvV 7 0,clA 8 14 7,mvL 6 8,exT 9 0 6,exT 10 1 6,exT 11 2 6,⟨.v 3,none, .allocL [.int .i64 0, .int .u64 0, .int .u64 0, .int .u64 0, .int .u64 0, .int .i64 0, .int .i64 0, .nils]⟩,stV 8 3 9,asL 4 4 10,asL 5 5 11]
def a8r2:SL:= [mvV 12 5,bnI 13 .neq 12 0,mvL 14 13,⟨.l 15,some (.l 14,false), .load (some 8) (.v 3)⟩,⟨.l 16,some (.l 14,false), .call 38 [.pl (.l 15)]⟩,pkT 17 14 16,asL 2 2 17]
def a8:AFunc:=⟨1,[0,2,3,4,5],[.tmp 2],(sR a8r0 (sR a8r1 (sT a8r2))),true⟩
def zMm:SL:= [⟨.v 4,none, .asg 4 (.c .nils)⟩,asI 5 5 0,asI 6 6 0]
def zMl:SL:= [mvV 11 1,⟨.l 12,none, .bin .eql (.l 11) (.c (.str [32]))⟩,asL 10 10 12]
def zMk:SL:= [mvV 13 0,clA 14 180 13,asL 4 4 14,asI 5 5 0,asI 6 6 0]
def zMj:SL:= [mvV 16 1,⟨.l 17,none, .bin .eql (.l 16) (.c (.str []))⟩,asL 15 15 17]
def zMi:SL:= [mvV 18 0,clA 19 181 18,asL 4 4 19,asI 5 5 0,asI 6 6 0]
def zMh:SL:= [mvV 21 1,lnS 22 true 21,bnI 23 .gtr 22 1,mvL 24 23,mgV 25 24 false 1,⟨.l 26,some (.l 24,false), .bin .eql (.l 25) (.c (.str [92]))⟩,pkT 27 24 26,asL 20 20 27]
def zMg:SL:= [mvV 29 1,clA 30 10 29,mvL 28 30,exT 31 0 28,exT 32 1 28,exT 33 2 28,asL 7 7 31,asL 8 8 32,asL 9 9 33]
def zMf:SL:= [mvV 34 9,bvI 35 .neq 34 0]
def zMe:SL:= [mvV 36 8,mvV 37 9,⟨.v 4,none, .asg 4 (.c .nils)⟩,asL 5 8 36,asL 6 9 37]
def zMd:SL:= [mvV 38 7,mvV 39 0,clB 40 153 38 39,asL 4 4 40,asI 5 5 0,asI 6 6 0]
def zHw:SL:= [mvV 42 0,⟨.l 43,none, .bin .eql (.l 42) (.c (.str []))⟩,asL 41 41 43]
def zHv:SL:= [⟨.v 4,none, .asg 4 (.c .nils)⟩,asI 5 5 0,asI 6 6 0]
def zHu:SL:= [mvV 44 0,mvV 45 1,clB 46 182 44 45,asL 4 4 46,asI 5 5 0,asI 6 6 0]
def a157:AFunc:=⟨2,[0,1,4,5,6,7,8,9,10,15,20,35,41],[.tmp 4, .tmp 5, .tmp 6],(sR zMm (.seq (.block 0 (sR zMl (cV 10 (sT zMk) (sR zMj (cV 15 (sT zMi) (sR zMh (cV 20 (sR zMg (.seq (sR zMf (cV 35 (sT zMe) .skip)) (sT zMd))) (sR zHw (cV 41 (sT zHv) .skip))))))))) (sT zHu))),false⟩
def zy9:SL:= [asB 2 2 false]
def zy8:SL:= [mvV 3 0,lnS 4 true 3,bnI 5 .lss 4 2,mvL 6 5,mgV 7 6 false 0,⟨.l 8,some (.l 6,false), .call 8 [.pl (.l 7)]⟩,pkT 9 6 8,asL 2 2 9]
def a160:AFunc:=⟨1,[0,2],[.tmp 2],(sR zy9 (sT zy8)),true⟩
def zMc:SL:= [asB 0 0 false]
def zMb:SL:= [⟨.l 2,none, .call 165 []⟩,asL 1 1 2]
def zMa:SL:= [mvV 3 1,⟨.l 4,none, .eq true 1 (.l 3) (.c .nilp)⟩,mvL 5 4,mgV 6 5 true 1,⟨.l 7,some (.l 5,true), .call 167 [.pl (.l 6), .pl (.c (.str [32,97,32,98,32])), .pl (.c (.str [32]))]⟩,bgI 8 5 true .eql 7 0,pkF 9 5 8,mvL 10 9,mgV 11 10 true 1,⟨.l 12,some (.l 10,true), .call 169 [.pl (.l 11)]⟩,bgI 13 10 true .eql 12 2,pkF 14 10 13,mvL 15 14,mgV 16 15 true 1,⟨.l 17,some (.l 15,true), .call 168 [.pl (.l 16), .pl (.c (.int .i64 4)), .pl (.c (.str [100])), .pl (.c (.str [45]))]⟩,bgI 18 15 true .eql 17 0,pkF 19 15 18,mvL 20 19,mgV 21 20 true 1,⟨.l 22,some (.l 20,true), .call 172 [.pl (.l 21)]⟩,⟨.l 23,some (.l 20,true), .bin .eql (.l 22) (.c (.str [97,45,98,45,45,100]))⟩,pkF 24 20 23,asL 0 0 24]
def a161:AFunc:=⟨0,[0,1],[.tmp 0],(sR zMc (sR zMb (sT zMa))),true⟩
def zmn:SL:= [⟨.v 6,none, .asg 6 (.c (.str []))⟩,asI 7 7 0,asB 8 8 false,asI 9 9 0]
def zmm:SL:= [mvV 20 1,bnI 21 .lss 20 0,mvL 22 21,mgV 23 22 false 1,mgV 24 22 false 0,lgS 25 22 false true 24,bgL 26 22 false .geq 23 25,pkT 27 22 26,asL 19 19 27]
def zml:SL:= [⟨.v 6,none, .asg 6 (.c (.str []))⟩,asI 7 7 0,asB 8 8 false,asI 9 9 0]
def ztr:SL:= [mvV 29 2,⟨.l 30,none, .bin .eql (.l 29) (.c (.str []))⟩,asL 28 28 30]
def ztq:SL:= [mvV 31 0,mvV 32 1,clB 33 94 31 32,exT 34 0 33,exT 35 1 33,exT 36 2 33,exT 37 3 33,asL 6 6 34,asL 7 7 35,asL 8 8 36,asL 9 9 37]
def zwr:SL:= [mvV 39 2,lnS 40 true 39,bnI 41 .eql 40 1,mvL 42 41,mgV 43 42 true 2,⟨.l 44,some (.l 42,true), .bin .neq (.l 43) (.c (.str [92]))⟩,pkF 45 42 44,asL 38 38 45]
def zwq:SL:= [mvV 47 0,mvV 48 1,⟨.l 49,none, .slice none (.l 47) (some (.l 48)) none⟩,mvV 50 2,clB 51 95 49 50,mvL 46 51,exT 52 0 46,exT 53 1 46,exT 54 2 46,asL 10 10 52,asL 11 11 53,asL 12 12 54]
def zwp:SL:= [mvV 55 1,mvV 56 10,lnS 57 true 56,bnL 58 .add 55 57,asL 13 13 58]
def zwo:SL:= [mvV 59 12,⟨.v 60,none, .un .not (.l 59)⟩]
def zwn:SL:= [mvV 61 10,mvV 62 13,asL 6 10 61,asL 7 13 62,asB 8 8 true,asI 9 9 0]
def zoj:SL:= [mvV 63 10,mvV 64 1,mvV 65 10,lnS 66 true 65,bnL 67 .add 64 66,bnI 68 .add 67 1,asL 6 10 63,asL 7 7 68,asB 8 8 true,asI 9 9 0]
def zuO:SL:= [mvV 70 2,clA 71 10 70,mvL 69 71,exT 72 0 69,exT 73 1 69,exT 74 2 69,asL 14 14 72,asL 15 15 73,asL 16 16 74]
def zuN:SL:= [mvV 75 16,bvI 76 .neq 75 0]
def zuM:SL:= [mvV 77 16,⟨.v 6,none, .asg 6 (.c (.str []))⟩,asI 7 7 0,asB 8 8 false,asL 9 16 77]
def zyH:SL:= [mvV 78 14,mvV 79 0,mvV 80 1,⟨.l 81,none, .slice none (.l 79) (some (.l 80)) none⟩,clB 82 11 78 81,asL 17 17 82]
def zyG:SL:= [mvV 83 17,⟨.l 84,none, .call 97 [.pl (.l 83), .pl (.c (.fn 96 []))]⟩,asL 18 18 84]
def zyF:SL:= [mvV 85 18,bvI 86 .lss 85 0]
def zyE:SL:= [mvV 87 0,mvV 88 1,⟨.l 89,none, .slice none (.l 87) (some (.l 88)) none⟩,mvV 90 0,lnS 91 true 90,asL 6 6 89,asL 7 7 91,asB 8 8 true,asI 9 9 0]
def zDo:Plan:=(.seq 0 (mvV 92 0) (.seq 1 (mvV 93 1) (.seq 2 (mvV 94 1) (.seq 3 (mvV 95 17) (.seq 4 (mvV 96 18) (.seq 5 (ixL 97 2 95 96) (.seq 6 ⟨.l 98,none, .aaddr 2 0 (.l 97) (.c (.int .i64 0))⟩ (.seq 7 (ldN 99 98) (.seq 8 (bnL 100 .add 94 99) (.seq 9 ⟨.l 101,none, .slice none (.l 92) (some (.l 93)) (some (.l 100))⟩ (.seq 10 (mvV 102 1) (.seq 11 (mvV 103 17) (.seq 12 (mvV 104 18) (.seq 13 (ixL 105 2 103 104) (.seq 14 ⟨.l 106,none, .aaddr 2 0 (.l 105) (.c (.int .i64 1))⟩ (.seq 15 (ldN 107 106) (.seq 16 (bnL 108 .add 102 107) (.seq 17 (asL 6 6 101) (.seq 18 (asL 7 7 108) (.seq 19 (asB 8 8 true) (.seq 20 (asI 9 9 0) .fin)))))))))))))))))))))
def a80:AFunc:=⟨3,[0,1,2,6,7,8,9,10,11,12,13,14,15,16,17,18,19,28,38,60,76,86],[.tmp 6, .tmp 7, .tmp 8, .tmp 9],(sR zmn (.seq (.block 0 (sR zmm (cV 19 (sT zml) (sR ztr (cV 28 (sT ztq) (sR zwr (cV 38 (sR zwq (.seq (sR zwp (sR zwo (cV 60 (sT zwn) .skip))) (sT zoj))) .skip))))))) (sR zuO (.seq (sR zuN (cV 76 (sT zuM) .skip)) (sR zyH (sR zyG (.seq (sR zyF (cV 86 (sT zyE) .skip)) (.seq (.draw zDo) .ret)))))))),true⟩
def zkY:SL:= [⟨.v 6,none, .asg 6 (.c (.str []))⟩,asI 7 7 0,asB 8 8 false,asI 9 9 0]
def zkX:SL:= [mvV 18 1,bnI 19 .lss 18 0,mvL 20 19,mgV 21 20 false 1,mgV 22 20 false 0,lgS 23 20 false true 22,bgL 24 20 false .geq 21 23,pvT 25 20 24]
def zkW:SL:= [⟨.v 6,none, .asg 6 (.c (.str []))⟩,asI 7 7 0,asB 8 8 false,asI 9 9 0]
def zoo:SL:= [mvV 26 2,⟨.v 27,none, .bin .eql (.l 26) (.c (.str []))⟩]
def zon:SL:= [mvV 28 0,mvV 29 1,clB 30 154 28 29,⟨.v 31,none, .bin .eql (.l 30) (.c (.int .u8 10))⟩]
def zom:SL:= [mvV 32 1,bnI 33 .add 32 1,asL 1 1 33]
def a151l6:ACode:=(.seq (sR zon (cV 31 .skip (.exit 0))) (.block 1 (.region zom)))
def zro:SL:= [mvV 34 1,mvV 35 0,lnS 36 true 35,bvL 37 .eql 34 36]
def zrn:SL:= [mvV 38 1,⟨.v 6,none, .asg 6 (.c (.str []))⟩,asL 7 1 38,asB 8 8 false,asI 9 9 0]
def zu4:SL:= [mvV 39 1,asL 10 10 39]
def zhA:SL:= [mvV 40 10,mvV 41 0,lnS 42 true 41,bnL 43 .lss 40 42,mvL 44 43,mgV 45 44 true 0,mgV 46 44 true 10,⟨.l 47,some (.l 44,true), .sidx (.l 45) (.l 46)⟩,⟨.l 48,some (.l 44,true), .bin .eql (.l 47) (.c (.int .u8 10))⟩,mgL 49 44 true 48,mgV 50 49 true 10,mgV 51 49 true 0,lgS 52 49 true true 51,bgI 53 49 true .sub 52 1,bgL 54 49 true .eql 50 53,mgL 55 49 true 54,mgV 56 55 false 0,mgV 57 55 false 10,bgI 58 55 false .add 57 1,⟨.l 59,some (.l 55,false), .sidx (.l 56) (.l 58)⟩,⟨.l 60,some (.l 55,false), .bin .eql (.l 59) (.c (.int .u8 10))⟩,pgT 61 49 true 55 60,pgF 62 44 true 49 61,⟨.l 63,some (.l 44,true), .un .not (.l 62)⟩,pvF 64 44 63]
def zhz:SL:= [mvV 65 10,bnI 66 .add 65 1,asL 10 10 66]
def a151l12:ACode:=(.seq (sR zhA (cV 64 .skip (.exit 2))) (.block 3 (.region zhz)))
def zpG:SL:= [mvV 67 10,asL 11 11 67]
def zkH:SL:= [mvV 68 0,mvV 69 11,clB 70 154 68 69,⟨.v 71,none, .bin .eql (.l 70) (.c (.int .u8 10))⟩]
def zkG:SL:= [mvV 72 11,bnI 73 .add 72 1,asL 11 11 73]
def a151l16:ACode:=(.seq (sR zkH (cV 71 .skip (.exit 4))) (.block 5 (.region zkG)))
def zpF:SL:= [mvV 74 0,mvV 75 1,mvV 76 10,⟨.l 77,none, .slice none (.l 74) (some (.l 75)) (some (.l 76))⟩,mvV 78 11,asL 6 6 77,asL 7 11 78,asB 8 8 true,asI 9 9 0]
def zmB:SL:= [mvV 79 2,lnS 80 true 79,bnI 81 .eql 80 1,mvL 82 81,mgV 83 82 true 2,⟨.l 84,some (.l 82,true), .bin .neq (.l 83) (.c (.str [92]))⟩,pvF 85 82 84]
def ztw:SL:= [mvV 86 1,asL 12 12 86]
def zpE:SL:= [mvV 87 12,mvV 88 0,lnS 89 true 88,bvL 90 .lss 87 89]
def zpH:Plan:=(.seq 0 (mvV 93 0) (.seq 1 (mvV 94 12) (.seq 2 ⟨.l 95,none, .sidx (.l 93) (.l 94)⟩ (.seq 3 (mvV 96 2) (.seq 4 ⟨.l 97,none, .sidx (.l 96) (.c (.int .i64 0))⟩ (.seq 5 (bvL 98 .eql 95 97) .fin))))))
def zpD:SL:= [mvV 99 0,mvV 100 1,mvV 101 12,⟨.l 102,none, .slice none (.l 99) (some (.l 100)) (some (.l 101))⟩,mvV 103 12,bnI 104 .add 103 1,asL 6 6 102,asL 7 7 104,asB 8 8 true,asI 9 9 0]
def zpC:SL:= [mvV 91 12,bnI 92 .add 91 1,asL 12 12 92]
def a151l24:ACode:=(.seq (sR zpE (cV 90 .skip (.exit 6))) (.seq (.block 7 (.seq (.draw zpH) (cV 98 (sT zpD) .skip))) (.region zpC)))
def zzm:SL:= [mvV 105 0,mvV 106 1,⟨.l 107,none, .slice none (.l 105) (some (.l 106)) none⟩,mvV 108 0,lnS 109 true 108,asL 6 6 107,asL 7 7 109,asB 8 8 true,asI 9 9 0]
def ztv:SL:= [mvV 111 2,clA 112 14 111,mvL 110 112,exT 113 0 110,exT 114 1 110,exT 115 2 110,⟨.v 13,none, .allocL [.int .i64 0, .int .u64 0, .int .u64 0, .int .u64 0, .int .u64 0, .int .i64 0, .int .i64 0, .nils]⟩,stV 8 13 113,asL 14 14 114,asL 15 15 115]
def ztu:SL:= [mvV 116 15,bvI 117 .neq 116 0]
def ztt:SL:= [mvV 118 15,⟨.v 6,none, .asg 6 (.c (.str []))⟩,asI 7 7 0,asB 8 8 false,asL 9 15 118]
def zzn:Plan:=(.seq 0 (ldV 119 8 13) (.seq 1 (mvV 120 0) (.seq 2 (mvV 121 1) (.seq 3 ⟨.l 122,none, .slice none (.l 120) (some (.l 121)) none⟩ (.one 4 (clB 123 143 119 122) (.seq 5 (asL 16 16 123) .fin))))))
def zzl:SL:= [asI 17 17 0]
def zpB:SL:= [mvV 124 17,mvV 125 16,lnS 126 false 125,bvL 127 .lss 124 126]
def zty:Plan:=(.seq 0 (mvV 130 16) (.seq 1 (mvV 131 17) (.seq 2 (ixL 132 2 130 131) (.seq 3 ⟨.l 133,none, .aaddr 2 0 (.l 132) (.c (.int .i64 0))⟩ (.seq 4 (ldN 134 133) (.seq 5 (mvV 135 16) (.seq 6 (mvV 136 17) (.seq 7 (ixL 137 2 135 136) (.seq 8 ⟨.l 138,none, .aaddr 2 0 (.l 137) (.c (.int .i64 1))⟩ (.seq 9 (ldN 139 138) (.seq 10 (bvL 140 .lss 134 139) .fin)))))))))))
def ztx:Plan:=(.seq 0 (mvV 141 0) (.seq 1 (mvV 142 1) (.seq 2 (mvV 143 1) (.seq 3 (mvV 144 16) (.seq 4 (mvV 145 17) (.seq 5 (ixL 146 2 144 145) (.seq 6 ⟨.l 147,none, .aaddr 2 0 (.l 146) (.c (.int .i64 0))⟩ (.seq 7 (ldN 148 147) (.seq 8 (bnL 149 .add 143 148) (.seq 9 ⟨.l 150,none, .slice none (.l 141) (some (.l 142)) (some (.l 149))⟩ (.seq 10 (mvV 151 1) (.seq 11 (mvV 152 16) (.seq 12 (mvV 153 17) (.seq 13 (ixL 154 2 152 153) (.seq 14 ⟨.l 155,none, .aaddr 2 0 (.l 154) (.c (.int .i64 1))⟩ (.seq 15 (ldN 156 155) (.seq 16 (bnL 157 .add 151 156) (.seq 17 (asL 6 6 150) (.seq 18 (asL 7 7 157) (.seq 19 (asB 8 8 true) (.seq 20 (asI 9 9 0) .fin)))))))))))))))))))))
def zts:SL:= [mvV 128 17,bnI 129 .add 128 1,asL 17 17 129]
def a151l35:ACode:=(.seq (sR zpB (cV 127 .skip (.exit 8))) (.seq (.block 9 (.seq (.draw zty) (cV 140 (.seq (.draw ztx) .ret) .skip))) (.region zts)))
def zzk:SL:= [mvV 158 0,mvV 159 1,⟨.l 160,none, .slice none (.l 158) (some (.l 159)) none⟩,mvV 161 0,lnS 162 true 161,asL 6 6 160,asL 7 7 162,asB 8 8 true,asI 9 9 0]
def a151:AFunc:=⟨3,[0,1,2,6,7,8,9,10,11,12,13,14,15,16,17,25,27,31,37,64,71,85,90,98,117,127,140],[.tmp 6, .tmp 7, .tmp 8, .tmp 9],(sR zkY (.seq (sR zkX (cV 25 (sT zkW) .skip)) (.seq (sR zoo (cV 27 (.seq (bL 0 a151l6) (.seq (sR zro (cV 37 (sT zrn) .skip)) (sR zu4 (.seq (bL 2 a151l12) (sR zpG (.seq (bL 4 a151l16) (sT zpF))))))) .skip)) (.seq (sR zmB (cV 85 (.seq (sR ztw (bL 6 a151l24)) (sT zzm)) .skip)) (sR ztv (.seq (sR ztu (cV 117 (sT ztt) .skip)) (.seq (.draw zzn) (.seq (sR zzl (bL 8 a151l35)) (sT zzk))))))))),true⟩
def zL9:SL:= [⟨.v 0,none, .asg 0 (.c .nilp)⟩]
def zL8:SL:= [⟨.l 1,none, .build [.str [], .nils] []⟩,⟨.l 2,none, .boxH (.l 1)⟩,asL 0 0 2]
def a165:AFunc:=⟨0,[0],[.tmp 0],(sR zL9 (sT zL8)),false⟩
def zL7:SL:= [asI 6 6 0]
def zL6:SL:= [mvV 11 1,mvV 12 2,clB 13 157 11 12,mvL 10 13,exT 14 0 10,exT 15 1 10,exT 16 2 10,asL 7 7 14,asL 8 8 15,asL 9 9 16]
def zL5:SL:= [mvV 18 9,bnI 19 .neq 18 0,asL 17 17 19]
def zL4:SL:= [mvV 20 9,asL 6 9 20]
def zL3:SL:= [mvV 22 7,lnS 23 false 22,bnI 24 .gtr 23 100,asL 21 21 24]
def zL2:SL:= [asI 6 6 2]
def zL1:SL:= [mvV 25 0,mvV 26 0,mvV 27 1,mvV 28 7,nlC 29 25,fdL 30 0 29,stL 30 27,nlC 31 26,fdL 32 1 31,stL 32 28]
def zL0:SL:= [asI 6 6 0]
def a167:AFunc:=⟨3,[0,1,2,6,7,8,9,17,21],[.tmp 6],(sR zL7 (sR zL6 (.seq (.block 0 (sR zL5 (cV 17 (sT zL4) (sR zL3 (cV 21 (sT zL2) .skip))))) (sR zL1 (sT zL0))))),false⟩
def zLZ:SL:= [asI 8 8 0]
def zLY:SL:= [mvV 10 1,bnI 11 .lss 10 1,mvL 12 11,mgV 13 12 false 1,bgI 14 12 false .gtr 13 100,pvT 15 12 14]
def zLX:SL:= [asI 8 8 90]
def zLW:SL:= [mvV 16 0,mvV 17 1,mvV 18 0,nlC 19 18,fdL 20 1 19,ldN 21 20,lnS 22 false 21,⟨.l 23,none, .maxI (.l 17) (.l 22)⟩,clB 24 187 16 23,asL 9 9 24]
def zLV:SL:= [mvV 25 9,mvV 26 1,bnI 27 .sub 26 1,mvV 28 2,ixL 29 0 25 27,stL 29 28]
def zLU:SL:= [mvV 30 0,mvV 31 9,mvV 32 3,clC 33 188 30 31 32,asL 8 8 33]
def a168:AFunc:=⟨4,[0,1,2,3,8,9,15],[.tmp 8],(sR zLZ (.seq (sR zLY (cV 15 (sT zLX) .skip)) (sR zLW (sR zLV (sT zLU))))),false⟩
def zLT:SL:= [asI 2 2 0]
def zLS:SL:= [mvV 3 0,nlC 4 3,fdL 5 1 4,ldN 6 5,lnS 7 false 6,asL 2 2 7]
def a169:AFunc:=⟨1,[0,2],[.tmp 2],(sR zLT (sT zLS)),true⟩
def zLR:SL:= [⟨.v 2,none, .asg 2 (.c (.str []))⟩]
def zLQ:SL:= [mvV 3 0,nlC 4 3,fdL 5 0 4,ldN 6 5,asL 2 2 6]
def a172:AFunc:=⟨1,[0,2],[.tmp 2],(sR zLR (sT zLQ)),true⟩
def zzu:SL:= [⟨.v 2,none, .allocL [.int .i64 0, .int .u64 0, .int .u64 0, .int .u64 0, .int .u64 0, .int .i64 0, .int .i64 0, .nils]⟩,asI 3 3 0,asI 4 4 0]
def zzt:SL:= [mvV 9 0,clA 10 44 9,mvL 8 10,exT 11 0 8,exT 12 1 8,exT 13 2 8,⟨.v 5,none, .allocL [.int .i64 0, .int .u64 0, .int .u64 0, .int .u64 0, .int .u64 0, .int .i64 0, .int .i64 0, .nils]⟩,stV 8 5 11,asL 6 6 12,asL 7 7 13]
def zzs:SL:= [mvV 14 7,bnI 15 .eql 14 0,mvL 16 15,⟨.l 17,some (.l 16,true), .load (some 8) (.v 5)⟩,⟨.l 18,some (.l 16,true), .call 45 [.pl (.l 17)]⟩,bgI 19 16 true .eql 18 0,pvF 20 16 19]
def zzr:SL:= [⟨.l 21,none, .build [.int .i64 0, .int .u64 0, .int .u64 0, .int .u64 0, .int .u64 0, .int .i64 0, .int .i64 0, .nils] []⟩,stV 8 2 21,asI 3 3 0,asI 4 4 1]
def zzq:SL:= [mvV 22 7,bnI 23 .eql 22 0,mvL 24 23,⟨.l 25,some (.l 24,true), .load (some 8) (.v 5)⟩,⟨.l 26,some (.l 24,true), .call 45 [.pl (.l 25)]⟩,bgI 27 24 true .gtr 26 500,pvF 28 24 27]
def zzp:SL:= [⟨.l 29,none, .build [.int .i64 0, .int .u64 0, .int .u64 0, .int .u64 0, .int .u64 0, .int .i64 0, .int .i64 0, .nils] []⟩,stV 8 2 29,asI 3 3 0,asI 4 4 2]
def zzo:SL:= [ldV 30 8 5,mvV 31 6,mvV 32 7,stV 8 2 30,asL 3 6 31,asL 4 7 32]
def a14:AFunc:=⟨1,[0,2,3,4,5,6,7,20,28],[.cell 2 (some 8), .tmp 3, .tmp 4],(sR zzu (sR zzt (.seq (sR zzs (cV 20 (sT zzr) .skip)) (.seq (sR zzq (cV 28 (sT zzp) .skip)) (sT zzo))))),true⟩
def zCP:SL:= [bxV 1 0,asB 2 2 false]
def zCO:SL:= [ldV 3 8 1,clA 4 63 3,mvL 5 4,⟨.l 6,some (.l 5,true), .load (some 8) (.v 1)⟩,⟨.l 7,some (.l 5,true), .call 45 [.pl (.l 6)]⟩,bgI 8 5 true .leq 7 300,pkF 9 5 8,asL 2 2 9]
def a38:AFunc:=⟨1,[0,1,2],[.tmp 2],(sR zCP (sT zCO)),true⟩
def zzX:SL:= [⟨.v 2,none, .asg 2 (.c .nilp)⟩,asI 3 3 0,asI 4 4 0]
def zzW:SL:= [mvV 10 0,clA 11 41 10,mvL 9 11,exT 12 0 9,exT 13 1 9,exT 14 2 9,⟨.v 5,none, .allocL [.int .i64 0, .int .u64 0, .int .u64 0, .int .u64 0, .int .u64 0, .int .i64 0, .int .i64 0, .nils]⟩,stV 8 5 12,asL 6 6 13,asL 7 7 14]
def zzV:SL:= [mvV 15 7,bvI 16 .neq 15 0]
def zzU:SL:= [mvV 17 6,mvV 18 7,⟨.v 2,none, .asg 2 (.c .nilp)⟩,asL 3 6 17,asL 4 7 18]
def zCY:SL:= [ldV 20 8 5,clA 21 34 20,mvL 19 21,exT 22 0 19,exT 23 1 19,asL 8 8 22,asL 7 7 23]
def zCX:SL:= [mvV 24 7,bvI 25 .neq 24 0]
def zCW:SL:= [mvV 26 7,⟨.v 2,none, .asg 2 (.c .nilp)⟩,asI 3 3 0,asL 4 7 26]
def zMn:SL:= [mvV 27 0,mvV 28 8,ldV 29 8 5,clA 30 42 29,⟨.l 31,none, .build [.str [], .nilp, .int .i64 0] [(0,1,(.l 27)),(1,1,(.l 28)),(2,1,(.l 30))]⟩,⟨.l 32,none, .boxH (.l 31)⟩,asL 2 2 32,asI 3 3 0,asI 4 4 0]
def a10:AFunc:=⟨1,[0,2,3,4,5,6,7,8,16,25],[.tmp 2, .tmp 3, .tmp 4],(sR zzX (sR zzW (.seq (sR zzV (cV 16 (sT zzU) .skip)) (sR zCY (.seq (sR zCX (cV 25 (sT zCW) .skip)) (sT zMn)))))),false⟩
def zLP:SL:= [⟨.v 2,none, .asg 2 (.c .nils)⟩]
def zLO:SL:= [mvV 3 0,⟨.l 4,none, .call 191 [.pl (.l 3), .pl (.c (.fn 190 []))]⟩,asL 2 2 4]
def a180:AFunc:=⟨1,[0,2],[.tmp 2],(sR zLP (sT zLO)),false⟩
def zGD:SL:= [⟨.v 4,none, .asg 4 (.c (.str []))⟩,asI 5 5 0,asB 6 6 false,asI 7 7 0]
def zGC:SL:= [mvV 10 1,mvV 11 0,mvV 12 1,clB 13 103 11 12,bnL 14 .add 10 13,asL 1 1 14]
def zGB:SL:= [mvV 15 1,mvV 16 0,lnS 17 true 16,bvL 18 .eql 15 17]
def zGA:SL:= [mvV 19 1,⟨.v 4,none, .asg 4 (.c (.str []))⟩,asL 5 1 19,asB 6 6 false,asI 7 7 0]
def zKn:SL:= [mvV 20 1,asL 8 8 20]
def zwm:SL:= [mvV 21 8,mvV 22 0,lnS 23 true 22,bvL 24 .lss 21 23]
def zyC:SL:= [mvV 27 0,mvV 28 8,clB 29 103 27 28,asL 9 9 29]
def zyB:SL:= [mvV 30 9,bnI 31 .gtr 30 1,mvL 32 31,mgV 33 32 false 9,bgI 34 32 false .eql 33 1,mgL 35 32 false 34,mgV 36 35 true 8,mgV 37 35 true 0,lgS 38 35 true true 37,bgI 39 35 true .sub 38 1,bgL 40 35 true .eql 36 39,pgF 41 32 false 35 40,pvT 42 32 41]
def zyA:SL:= [mvV 43 0,mvV 44 1,mvV 45 8,⟨.l 46,none, .slice none (.l 43) (some (.l 44)) (some (.l 45))⟩,mvV 47 8,mvV 48 9,bnL 49 .add 47 48,asL 4 4 46,asL 5 5 49,asB 6 6 true,asI 7 7 0]
def zGz:SL:= [mvV 25 8,bnI 26 .add 25 1,asL 8 8 26]
def a94l10:ACode:=(.seq (sR zwm (cV 24 .skip (.exit 0))) (.seq (.block 1 (sR zyC (sR zyB (cV 42 (sT zyA) .skip)))) (.region zGz)))
def zDn:SL:= [mvV 50 0,mvV 51 1,⟨.l 52,none, .slice none (.l 50) (some (.l 51)) none⟩,mvV 53 0,lnS 54 true 53,asL 4 4 52,asL 5 5 54,asB 6 6 true,asI 7 7 0]
def a94:AFunc:=⟨2,[0,1,4,5,6,7,8,9,18,24,42],[.tmp 4, .tmp 5, .tmp 6, .tmp 7],(sR zGD (sR zGC (.seq (sR zGB (cV 18 (sT zGA) .skip)) (.seq (sR zKn (bL 0 a94l10)) (sT zDn))))),true⟩
def zyz:SL:= [⟨.v 4,none, .asg 4 (.c (.str []))⟩,⟨.v 5,none, .asg 5 (.c (.str []))⟩,asB 6 6 false]
def zyy:SL:= [mvV 7 0,mvV 8 1,clB 9 104 7 8,exT 10 0 9,exT 11 1 9,exT 12 2 9,asL 4 4 10,asL 5 5 11,asL 6 6 12]
def a95:AFunc:=⟨2,[0,1,4,5,6],[.tmp 4, .tmp 5, .tmp 6],(sR zyz (sT zyy)),true⟩
def zGw:SL:= [asI 4 4 0]
def zGv:SL:= [mvV 6 0,⟨.v 7,none, .len false (.l 6)⟩,asI 8 8 0]
def zyx:SL:= [⟨.v 9,none, .bin .lss (.v 8) (.v 7)⟩]
def zBY:SL:= [mvV 10 8,asL 5 5 10]
def zBX:SL:= [mvV 11 1,mvV 12 0,mvV 13 5,ixL 14 2 12 13,ldL 15 2 14,⟨.v 16,none, .callv (.l 11) [.pl (.l 15)]⟩]
def zBW:SL:= [mvV 17 5,asL 4 5 17]
def zBV:SL:= [bxI 18 .add 8 1,asL 8 8 18]
def a97l7:ACode:=(sR zyx (.seq (cV 9 .skip (.exit 0)) (.seq (.block 1 (sR zBY (sR zBX (cV 16 (sT zBW) .skip)))) (.region zBV))))
def zGu:SL:= [asI 4 4 (-1)]
def a97:AFunc:=⟨2,[0,1,4,5,7,8,9,16],[.tmp 4],(sR zGw (.seq (sR zGv (bL 0 a97l7)) (sT zGu))),false⟩
def zGy:SL:= [bxV 1 0,asB 2 2 false]
def zGx:SL:= [⟨.l 3,none, .aaddr 2 0 (.v 1) (.c (.int .i64 0))⟩,ldN 4 3,⟨.l 5,none, .aaddr 2 0 (.v 1) (.c (.int .i64 1))⟩,ldN 6 5,bnL 7 .lss 4 6,asL 2 2 7]
def a96:AFunc:=⟨1,[0,1,2],[.tmp 2],(sR zGy (sT zGx)),true⟩
def zzg:SL:= [⟨.v 4,none, .asg 4 (.c (.int .u8 0))⟩]
def zzf:SL:= [mvV 5 1,mvV 6 0,lnS 7 true 6,bvL 8 .lss 5 7]
def zze:SL:= [mvV 9 0,mvV 10 1,⟨.l 11,none, .sidx (.l 9) (.l 10)⟩,asL 4 4 11]
def zzd:SL:= [⟨.v 4,none, .asg 4 (.c (.int .u8 0))⟩]
def a154:AFunc:=⟨2,[0,1,4,8],[.tmp 4],(sR zzg (.seq (sR zzf (cV 8 (sT zze) .skip)) (sT zzd))),true⟩
def zD2:SL:= [bxV 2 0,⟨.v 4,none, .asg 4 (.c .nils)⟩]
def zD1:SL:= [⟨.l 11,none, .bslice false (.agg [.int .i64 0, .int .i64 0]) 0 []⟩,ldV 12 8 2,mvV 13 1,clB 14 46 12 13,asL 5 5 11,asI 6 6 0,asL 7 7 14]
def zmC:SL:= [mvV 15 6,mvV 16 1,lnS 17 true 16,bvL 18 .leq 15 17]
def zor:SL:= [mvV 20 7,mvV 21 6,clB 22 152 20 21,mvL 19 22,exT 23 0 19,exT 24 1 19,exT 25 2 19,asL 8 8 23,asL 9 9 24,asL 10 10 25]
def zoq:SL:= [mvV 26 10,⟨.v 27,none, .un .not (.l 26)⟩]
def zop:SL:= [mvV 28 5,asL 4 5 28]
def zrq:SL:= [mvV 29 8,mvV 30 9,bnL 31 .eql 29 30,mvL 32 31,mgV 33 32 true 5,lgS 34 32 true false 33,bgI 35 32 true .gtr 34 0,pkF 36 32 35,mvL 37 36,mgV 38 37 true 5,mgV 39 37 true 5,lgS 40 37 true false 39,bgI 41 37 true .sub 40 1,⟨.l 42,some (.l 37,true), .iaddr 2 (.l 38) (.l 41)⟩,⟨.l 43,some (.l 37,true), .aaddr 2 0 (.l 42) (.c (.int .i64 1))⟩,ldG 44 37 true 43,mgV 45 37 true 8,bgL 46 37 true .eql 44 45,pvF 47 37 46]
def zrp:SL:= [mvV 48 8,bnI 49 .add 48 1,asL 6 6 49]
def zu5:SL:= [mvV 50 5,mvV 51 8,mvV 52 9,⟨.l 53,none, .build [.int .i64 0, .int .i64 0] [(0,1,(.l 51)),(1,1,(.l 52))]⟩,⟨.l 54,none, .bslice false (.agg [.int .i64 0, .int .i64 0]) 1 [(0,(.l 53))]⟩,apL 55 2 50 54,mvV 56 9,asL 5 5 55,asL 6 6 56]
def a143l9:ACode:=(.seq (sR zmC (cV 18 .skip (.exit 0))) (.block 1 (sR zor (.seq (sR zoq (cV 27 (sT zop) .skip)) (sR zrq (cV 47 (.region zrp) (.region zu5)))))))
def zzv:SL:= [mvV 57 5,asL 4 5 57]
def a143:AFunc:=⟨2,[0,1,2,4,5,6,7,8,9,10,18,27,47],[.tmp 4],(sR zD2 (sR zD1 (.seq (bL 0 a143l9) (sT zzv)))),true⟩
def zLN:SL:= [asI 6 6 0]
def zLM:SL:= [mvV 8 1,mvV 9 2,clB 10 194 8 9,asL 7 7 10]
def zLL:SL:= [mvV 11 7,lnS 12 true 11,bvI 13 .gtr 12 65536]
def zLK:SL:= [asI 6 6 2]
def zLJ:SL:= [mvV 14 0,mvV 15 0,mvV 16 7,mvV 17 1,nlC 18 14,fdL 19 0 18,stL 19 16,nlC 20 15,fdL 21 1 20,stL 21 17]
def zLI:SL:= [asI 6 6 0]
def a188:AFunc:=⟨3,[0,1,2,6,7,13],[.tmp 6],(sR zLN (sR zLM (.seq (sR zLL (cV 13 (sT zLK) .skip)) (sR zLJ (sT zLI))))),false⟩
def zCI:SL:= [⟨.v 2,none, .allocL [.int .i64 0, .int .u64 0, .int .u64 0, .int .u64 0, .int .u64 0, .int .i64 0, .int .i64 0, .nils]⟩,asI 3 3 0,asI 4 4 0]
def zCH:SL:= [mvV 7 0,lnS 8 true 7,bvI 9 .gtr 8 400]
def zCG:SL:= [⟨.l 10,none, .build [.int .i64 0, .int .u64 0, .int .u64 0, .int .u64 0, .int .u64 0, .int .i64 0, .int .i64 0, .nils] []⟩,stV 8 2 10,asI 3 3 0,asI 4 4 2]
def zHl:SL:= [mvV 11 0,⟨.l 12,none, .build [.str [], .int .i64 0, .int .i64 0, .int .i64 0] [(0,1,(.l 11))]⟩,⟨.l 13,none, .boxH (.l 12)⟩,asL 5 5 13]
def zHk:SL:= [mvV 14 5,⟨.l 15,none, .call 69 [.pl (.l 14), .pl (.c (.int .i64 0))]⟩,⟨.v 6,none, .allocL [.int .i64 0, .int .u64 0, .int .u64 0, .int .u64 0, .int .u64 0, .int .i64 0, .int .i64 0, .nils]⟩,stV 8 6 15]
def zHj:SL:= [mvV 16 5,nlC 17 16,fdL 18 3 17,ldN 19 18,bvI 20 .neq 19 0]
def zHm:Plan:=(.seq 0 ⟨.l 21,none, .build [.int .i64 0, .int .u64 0, .int .u64 0, .int .u64 0, .int .u64 0, .int .i64 0, .int .i64 0, .nils] []⟩ (.seq 1 (mvV 22 5) (.seq 2 (nlC 23 22) (.seq 3 (fdL 24 2 23) (.seq 5 (mvV 26 5) (.seq 6 (nlC 27 26) (.seq 7 (fdL 28 3 27) (.alt 4 (ldN 25 24) (.alt 8 (ldN 29 28) (.one 9 (stV 8 2 21) (.seq 10 (asL 3 3 25) (.seq 11 (asL 4 4 29) .fin))) (.one 9 (stV 8 2 21) (.seq 8 (ldN 29 28) (.seq 10 (asL 3 3 25) (.seq 11 (asL 4 4 29) .fin))))) (.alt 8 (ldN 29 28) (.alt 4 (ldN 25 24) (.one 9 (stV 8 2 21) (.seq 10 (asL 3 3 25) (.seq 11 (asL 4 4 29) .fin))) (.one 9 (stV 8 2 21) (.seq 4 (ldN 25 24) (.seq 10 (asL 3 3 25) (.seq 11 (asL 4 4 29) .fin))))) (.one 9 (stV 8 2 21) (.seq 4 (ldN 25 24) (.seq 8 (ldN 29 28) (.seq 10 (asL 3 3 25) (.seq 11 (asL 4 4 29) .fin))))))))))))))
def zHi:SL:= [ldV 30 8 6,stV 8 2 30,asI 3 3 0,asI 4 4 0]
def a44:AFunc:=⟨1,[0,2,3,4,5,6,9,20],[.cell 2 (some 8), .tmp 3, .tmp 4],(sR zCI (.seq (sR zCH (cV 9 (sT zCG) .skip)) (sR zHl (sR zHk (.seq (sR zHj (cV 20 (.seq (.draw zHm) .ret) .skip)) (sT zHi)))))),true⟩
def zCF:SL:= [bxV 1 0,asI 2 2 0]
def zCE:SL:= [ldV 4 8 1,⟨.l 5,none, .call 70 [.pl (.l 4), .pl (.c (.int .i64 (-1))), .pl (.c (.int .i64 1))]⟩,⟨.v 6,none, .un .not (.l 5)⟩]
def zCD:SL:= [asI 2 2 0]
def zCC:SL:= [ldV 7 8 1,clA 8 71 7,asL 3 3 8]
def zCB:SL:= [mvV 9 3,bvI 10 .gtr 9 500]
def zCA:SL:= [asI 3 3 500]
def zCz:SL:= [mvV 11 3,bnI 12 .add 11 1,asL 2 2 12]
def a45:AFunc:=⟨1,[0,1,2,3,6,10],[.tmp 2],(sR zCF (.seq (sR zCE (cV 6 (sT zCD) .skip)) (sR zCC (.seq (sR zCB (cV 10 (.region zCA) .skip)) (sT zCz))))),true⟩
def zLf:SL:= [bxV 1 0,asB 2 2 false]
def zLe:SL:= [ldV 3 8 1,⟨.l 4,none, .call 85 [.pl (.l 3), .pl (.c (.int .i64 150)), .pl (.c (.int .i64 400))]⟩,bnI 5 .leq 4 400,asL 2 2 5]
def a63:AFunc:=⟨1,[0,1,2],[.tmp 2],(sR zLf (sT zLe)),true⟩
def zCV:SL:= [bxV 1 0,⟨.v 2,none, .asg 2 (.c .nilp)⟩,asI 3 3 0]
def zCU:SL:= [ldV 6 8 1,clA 7 57 6,asL 4 4 7]
def zCT:SL:= [mvV 9 4,bnI 10 .eql 9 0,asL 8 8 10]
def zCS:SL:= [⟨.v 2,none, .asg 2 (.c .nilp)⟩,asI 3 3 1]
def zCR:SL:= [mvV 12 4,bnI 13 .gtr 12 500,asL 11 11 13]
def zCQ:SL:= [⟨.v 2,none, .asg 2 (.c .nilp)⟩,asI 3 3 2]
def zLE:SL:= [⟨.l 14,none, .build [.nils, .int .i64 0] []⟩,⟨.l 15,none, .boxH (.l 14)⟩,asL 5 5 15]
def zLF:Plan:=(.seq 0 (mvV 16 5) (.seq 1 (mvV 17 5) (.seq 3 (mvV 19 5) (.seq 4 ⟨.l 20,none, .build [.int .i64 0, .int .u64 0, .int .u64 0, .int .u64 0, .int .u64 0, .int .i64 0, .int .i64 0] [(0,1,(.c (.int .i64 4)))]⟩ (.alt 2 (ldV 18 8 1) (.one 5 (clB 21 58 19 20) (.one 6 (clC 22 59 17 18 21) (.seq 7 (nlC 23 16) (.seq 8 (fdL 24 1 23) (.one 9 (stL 24 22) .fin))))) (.one 5 (clB 21 58 19 20) (.seq 2 (ldV 18 8 1) (.one 6 (clC 22 59 17 18 21) (.seq 7 (nlC 23 16) (.seq 8 (fdL 24 1 23) (.one 9 (stL 24 22) .fin)))))))))))
def zLD:SL:= [mvV 25 5,asL 2 5 25,asI 3 3 0]
def a34:AFunc:=⟨1,[0,1,2,3,4,5,8,11],[.tmp 2, .tmp 3],(sR zCV (sR zCU (.seq (.block 0 (sR zCT (cV 8 (sT zCS) (sR zCR (cV 11 (sT zCQ) .skip))))) (sR zLE (.seq (.draw zLF) (sT zLD)))))),false⟩
def zLv:SL:= [bxV 1 0,asI 2 2 0]
def zLu:SL:= [ldV 3 8 1,⟨.l 4,none, .call 65 [.pl (.l 3), .pl (.c (.int .i64 (-1))), .pl (.c (.int .i64 1))]⟩,⟨.v 5,none, .un .not (.l 4)⟩]
def zLt:SL:= [asI 2 2 0]
def zLs:SL:= [ldV 6 8 1,clA 7 66 6,asL 2 2 7]
def a42:AFunc:=⟨1,[0,1,2,5],[.tmp 2],(sR zLv (.seq (sR zLu (cV 5 (sT zLt) .skip)) (sT zLs))),true⟩
def zEM:SL:= [asI 4 4 0]
def zEL:SL:= [asI 5 5 0]
def zu8:SL:= [mvV 6 1,mvV 7 5,bnL 8 .add 6 7,mvV 9 0,lnS 10 true 9,bnL 11 .lss 8 10,mvL 12 11,mgV 13 12 true 0,mgV 14 12 true 1,mgV 15 12 true 5,bgL 16 12 true .add 14 15,⟨.l 17,some (.l 12,true), .sidx (.l 13) (.l 16)⟩,⟨.l 18,some (.l 12,true), .bin .eql (.l 17) (.c (.int .u8 10))⟩,pvF 19 12 18]
def zEK:SL:= [mvV 20 5,bnI 21 .add 20 1,asL 5 5 21]
def a103l4:ACode:=(.seq (sR zu8 (cV 19 .skip (.exit 0))) (.block 1 (.region zEK)))
def zEJ:SL:= [mvV 22 5,asL 4 5 22]
def a103:AFunc:=⟨2,[0,1,4,5,19],[.tmp 4],(sR zEM (sR zEL (.seq (bL 0 a103l4) (sT zEJ)))),true⟩
def zrO:SL:= [⟨.v 4,none, .asg 4 (.c (.str []))⟩,⟨.v 5,none, .asg 5 (.c (.str []))⟩,asB 6 6 false]
def zrN:SL:= [mvV 8 0,mvV 9 1,clB 10 112 8 9,asL 7 7 10]
def zrM:SL:= [mvV 11 7,bvI 12 .geq 11 0]
def zrP:Plan:=(.seq 0 (mvV 13 0) (.seq 1 (mvV 14 7) (.seq 2 ⟨.l 15,none, .slice none (.l 13) none (some (.l 14))⟩ (.seq 3 (mvV 16 0) (.seq 4 (mvV 17 7) (.seq 5 (mvV 18 1) (.seq 6 (lnS 19 true 18) (.seq 7 (bnL 20 .add 17 19) (.seq 8 ⟨.l 21,none, .slice none (.l 16) (some (.l 20)) none⟩ (.seq 9 (asL 4 4 15) (.seq 10 (asL 5 5 21) (.seq 11 (asB 6 6 true) .fin))))))))))))
def zrL:SL:= [mvV 22 0,asL 4 0 22,⟨.v 5,none, .asg 5 (.c (.str []))⟩,asB 6 6 false]
def a104:AFunc:=⟨2,[0,1,4,5,6,7,12],[.tmp 4, .tmp 5, .tmp 6],(sR zrO (.seq (sR zrN (sR zrM (cV 12 (.seq (.draw zrP) .ret) .skip))) (sT zrL))),true⟩
def zLm:SL:= [bxV 2 0,⟨.v 4,none, .asg 4 (.c .nils)⟩]
def zLl:SL:= [⟨.l 14,none, .bslice false (.nils) 0 []⟩,asL 5 5 14]
def zLk:SL:= [asI 6 6 0]
def zHh:SL:= [mvV 15 6,mvV 16 1,lnS 17 true 16,bvL 18 .leq 15 17]
def zLj:SL:= [mvV 21 1,lnS 22 true 21,bnI 23 .add 22 1,⟨.l 24,none, .mslice false (.bool false) (.l 23) (.l 23)⟩,asL 7 7 24]
def zmA:SL:= [mvV 25 7,mvV 26 6,fdV 27 0 2,ldN 28 27,bnI 29 .eql 28 0,mvL 30 29,fdG 31 30 false 0 2,ldG 32 30 false 31,bgI 33 30 false .eql 32 2,mgL 34 30 false 33,mgV 35 34 true 6,bgI 36 34 true .eql 35 0,pgF 37 30 false 34 36,pkT 38 30 37,mvL 39 38,fdG 40 39 false 0 2,ldG 41 39 false 40,bgI 42 39 false .eql 41 3,mgL 43 39 false 42,mgV 44 43 true 6,mgV 45 43 true 1,lgS 46 43 true true 45,bgL 47 43 true .eql 44 46,pgF 48 39 false 43 47,pkT 49 39 48,mvL 50 49,fdG 51 50 false 0 2,ldG 52 50 false 51,bgI 53 50 false .eql 52 4,pkT 54 50 53,mvL 55 54,fdG 56 55 false 0 2,ldG 57 55 false 56,bgI 58 55 false .eql 57 6,pkT 59 55 58,ixL 60 0 25 26,stL 60 59]
def zCx:SL:= [fdV 61 0 2,ldN 62 61,bnI 63 .eql 62 1,mvL 64 63,mgV 65 64 true 6,mgV 66 64 true 1,lgS 67 64 true true 66,bgL 68 64 true .lss 65 67,pvF 69 64 68]
def zCy:Plan:=(.seq 0 (mvV 70 7) (.seq 1 (mvV 71 6) (.seq 2 (bnI 72 .add 71 1) (.seq 3 (fdV 73 1 2) (.seq 4 (ldL 74 4 73) (.seq 6 (mvV 76 1) (.seq 7 (mvV 77 6) (.seq 8 ⟨.l 78,none, .sidx (.l 76) (.l 77)⟩ (.one 5 (clA 75 72 74) (.seq 9 ⟨.l 79,none, .aidx 256 none (.l 75) (.l 78)⟩ (.seq 10 (ixL 80 0 70 72) (.one 11 (stL 80 79) .fin))))))))))))
def zCw:SL:= [mvV 81 5,mvV 82 7,⟨.l 83,none, .bslice false (.nils) 1 [(0,(.l 82))]⟩,apL 84 0 81 83,asL 5 5 84]
def zCv:SL:= [mvV 19 6,bnI 20 .add 19 1,asL 6 6 20]
def a46l10:ACode:=(.seq (sR zHh (cV 18 .skip (.exit 0))) (.seq (.block 1 (sR zLj (sR zmA (.seq (sR zCx (cV 69 (.draw zCy) .skip)) (.region zCw))))) (.region zCv)))
def zrm:SL:= [fdV 85 0 2,ldN 86 85,bvI 87 .eql 86 4]
def zrl:SL:= [asI 8 8 0]
def zol:SL:= [mvV 88 8,fdV 89 7 2,ldN 90 89,lnS 91 false 90,bvL 92 .lss 88 91]
def zrk:SL:= [mvV 95 5,fdV 96 7 2,ldN 97 96,mvV 98 8,ixL 99 8 97 98,ldL 100 8 99,mvV 101 1,clB 102 46 100 101,clB 103 73 95 102,asL 5 5 103]
def zrj:SL:= [mvV 93 8,bnI 94 .add 93 1,asL 8 8 94]
def a46l16:ACode:=(.seq (sR zol (cV 92 .skip (.exit 2))) (.seq (.block 3 (.region zrk)) (.region zrj)))
def zri:SL:= [fdV 104 0 2,ldN 105 104,bvI 106 .eql 105 5]
def zrh:SL:= [asI 9 9 0]
def zok:SL:= [mvV 107 9,fdV 108 7 2,ldN 109 108,lnS 110 false 109,bvL 111 .lss 107 110]
def zrg:SL:= [mvV 114 5,fdV 115 7 2,ldN 116 115,mvV 117 9,ixL 118 8 116 117,ldL 119 8 118,mvV 120 1,clB 121 46 119 120,clB 122 74 114 121,asL 5 5 122]
def zrf:SL:= [mvV 112 9,bnI 113 .add 112 1,asL 9 9 113]
def a46l22:ACode:=(.seq (sR zok (cV 111 .skip (.exit 4))) (.seq (.block 5 (.region zrg)) (.region zrf)))
def zre:SL:= [fdV 123 0 2,ldN 124 123,bvI 125 .eql 124 6]
def zDO:SL:= [fdV 126 7 2,ldN 127 126,⟨.l 128,none, .iaddr 8 (.l 127) (.c (.int .i64 0))⟩,ldL 129 8 128,mvV 130 1,clB 131 46 129 130,asL 10 10 131]
def zDN:SL:= [asI 11 11 0]
def zy4:SL:= [mvV 132 11,fdV 133 5 2,ldN 134 133,bvL 135 .lss 132 134]
def zDM:SL:= [mvV 138 5,mvV 139 10,clB 140 73 138 139,asL 5 5 140]
def zDL:SL:= [mvV 136 11,bnI 137 .add 136 1,asL 11 11 137]
def a46l29:ACode:=(.seq (sR zy4 (cV 135 .skip (.exit 6))) (.seq (.block 7 (.region zDM)) (.region zDL)))
def zuX:SL:= [fdV 141 6 2,ldN 142 141,bvI 143 .lss 142 0]
def zuW:SL:= [mvV 144 5,mvV 145 10,clA 146 75 145,clB 147 73 144 146,asL 4 4 147]
def zy3:SL:= [mvV 148 5,asL 12 12 148]
def zy2:SL:= [fdV 149 5 2,ldN 150 149,asL 13 13 150]
def zy1:SL:= [mvV 151 13,fdV 152 6 2,ldN 153 152,bvL 154 .lss 151 153]
def zDK:SL:= [mvV 157 12,mvV 158 10,clB 159 73 157 158,asL 12 12 159]
def zDJ:SL:= [mvV 160 5,mvV 161 12,clB 162 74 160 161,asL 5 5 162]
def zDI:SL:= [mvV 155 13,bnI 156 .add 155 1,asL 13 13 156]
def a46l38:ACode:=(.seq (sR zy1 (cV 154 .skip (.exit 8))) (.seq (.block 9 (sR zDK (.region zDJ))) (.region zDI)))
def zuV:SL:= [mvV 163 5,asL 4 5 163]
def a46:AFunc:=⟨2,[0,1,2,4,5,6,7,8,9,10,11,12,13,18,69,87,92,106,111,125,135,143,154],[.tmp 4],(sR zLm (sR zLl (.seq (sR zLk (bL 0 a46l10)) (.seq (sR zrm (cV 87 (sR zrl (bL 2 a46l16)) .skip)) (.seq (sR zri (cV 106 (sR zrh (bL 4 a46l22)) .skip)) (.seq (sR zre (cV 125 (sR zDO (.seq (sR zDN (bL 6 a46l29)) (.seq (sR zuX (cV 143 (sT zuW) .skip)) (sR zy3 (sR zy2 (bL 8 a46l38)))))) .skip)) (sT zuV))))))),true⟩
def zD0:SL:= [asI 4 4 0,asI 5 5 0,asB 6 6 false]
def zDZ:SL:= [mvV 9 1,asL 7 7 9]
def zu3:SL:= [mvV 10 7,mvV 11 0,lnS 12 false 11,bvL 13 .lss 10 12]
def zzj:SL:= [mvV 16 0,mvV 17 7,ixL 18 0 16 17,ldN 19 18,clA 20 155 19,asL 8 8 20]
def zzi:SL:= [mvV 21 8,bvI 22 .geq 21 0]
def zzh:SL:= [mvV 23 7,mvV 24 8,asL 4 7 23,asL 5 8 24,asB 6 6 true]
def zDY:SL:= [mvV 14 7,bnI 15 .add 14 1,asL 7 7 15]
def a152l7:ACode:=(.seq (sR zu3 (cV 13 .skip (.exit 0))) (.seq (.block 1 (sR zzj (sR zzi (cV 22 (sT zzh) .skip)))) (.region zDY)))
def zDX:SL:= [asI 4 4 0,asI 5 5 0,asB 6 6 false]
def a152:AFunc:=⟨2,[0,1,4,5,6,7,8,13,22],[.tmp 4, .tmp 5, .tmp 6],(sR zD0 (.seq (sR zDZ (bL 0 a152l7)) (sT zDX))),true⟩
def zLH:SL:= [⟨.v 4,none, .asg 4 (.c (.str []))⟩]
def zLG:SL:= [mvV 5 0,mvV 6 1,clB 7 202 5 6,asL 4 4 7]
def a194:AFunc:=⟨2,[0,1,4],[.tmp 4],(sR zLH (sT zLG)),false⟩
def zHc:SL:= [⟨.v 4,none, .allocL [.int .i64 0, .int .u64 0, .int .u64 0, .int .u64 0, .int .u64 0, .int .i64 0, .int .i64 0, .nils]⟩]
def zHb:SL:= [mvV 7 0,mvV 8 1,clB 9 92 7 8,⟨.l 10,none, .bslice false (.agg [.int .i64 0, .int .u64 0, .int .u64 0, .int .u64 0, .int .u64 0, .int .i64 0, .int .i64 0, .nils]) 1 [(0,(.l 9))]⟩,asL 5 5 10]
def zyW:SL:= [mvV 11 0,clA 12 93 11,bvI 13 .eql 12 124]
def zHa:SL:= [mvV 14 0,nlC 15 14,fdL 16 1 15,ldN 17 16,bnI 18 .add 17 1,nlC 19 14,fdL 20 1 19,stL 20 18]
def zG9:SL:= [mvV 21 0,mvV 22 1,clB 23 92 21 22,⟨.v 6,none, .allocL [.int .i64 0, .int .u64 0, .int .u64 0, .int .u64 0, .int .u64 0, .int .i64 0, .int .i64 0, .nils]⟩,stV 8 6 23]
def zG8:SL:= [mvV 24 5,ldV 25 8 6,⟨.l 26,none, .bslice false (.agg [.int .i64 0, .int .u64 0, .int .u64 0, .int .u64 0, .int .u64 0, .int .i64 0, .int .i64 0, .nils]) 1 [(0,(.l 25))]⟩,apL 27 8 24 26,asL 5 5 27]
def a69l6:ACode:=(.seq (sR zyW (cV 13 .skip (.exit 0))) (.block 1 (sR zHa (sR zG9 (.region zG8)))))
def zG7:SL:= [mvV 28 5,⟨.l 29,none, .call 3 [.pl (.c (.int .i64 5)), .pl (.l 28)]⟩,stV 8 4 29]
def a69:AFunc:=⟨2,[0,1,4,5,6,13],[.cell 4 (some 8)],(sR zHc (sR zHb (.seq (bL 0 a69l6) (sT zG7)))),false⟩
def zLb:SL:= [bxV 3 0,asB 6 6 false]
def zLa:SL:= [fdV 9 0 3,ldN 10 9,asL 7 7 10]
def zih:SL:= [mvV 11 2,bnI 12 .gtr 11 100,mvL 13 12,mgV 14 13 false 7,bgI 15 13 false .lss 14 0,pkT 16 13 15,mvL 17 16,mgV 18 17 false 7,bgI 19 17 false .gtr 18 6,pkT 20 17 19,mvL 21 20,mgV 22 21 false 7,bgI 23 21 false .neq 22 1,mgL 24 21 false 23,fdG 25 24 true 1 3,⟨.l 26,some (.l 24,true), .load (some 4) (.l 25)⟩,⟨.l 27,some (.l 24,true), .build [.int .u64 0, .int .u64 0, .int .u64 0, .int .u64 0] []⟩,⟨.l 28,some (.l 24,true), .eqG true (List.replicate 4 1) (.l 26) (.l 27)⟩,pgF 29 21 false 24 28,pkT 30 21 29,mvL 31 30,mgV 32 31 false 7,bgI 33 31 false .neq 32 6,mgL 34 31 false 33,fdG 35 34 true 5 3,ldG 36 34 true 35,bgI 37 34 true .neq 36 0,mgL 38 34 true 37,fdG 39 38 false 6 3,ldG 40 38 false 39,bgI 41 38 false .neq 40 0,pgT 42 34 true 38 41,pgF 43 31 false 34 42,pkT 44 31 43,mvL 45 44,mgV 46 45 false 7,bgI 47 45 false .lss 46 4,mgL 48 45 false 47,fdG 49 48 true 7 3,ldG 50 48 true 49,lgS 51 48 true false 50,bgI 52 48 true .gtr 51 0,pgF 53 45 false 48 52,pvT 54 45 53]
def zK9:SL:= [asB 6 6 false]
def zpu:SL:= [mvV 55 7,bnI 56 .eql 55 0,mvL 57 56,mgV 58 57 true 1,bgI 59 57 true .eql 58 4,pkF 60 57 59,mvL 61 60,mgV 62 61 false 7,bgI 63 61 false .eql 62 4,mgL 64 61 false 63,mgV 65 64 false 7,bgI 66 64 false .eql 65 5,pgT 67 61 false 64 66,mgL 68 61 false 67,mgV 69 68 true 7,mgV 70 68 true 1,bgL 71 68 true .eql 69 70,mgL 72 68 true 71,fdG 73 72 false 7 3,ldG 74 72 false 73,lgS 75 72 false false 74,bgI 76 72 false .lss 75 2,pgT 77 68 true 72 76,pgF 78 61 false 68 77,pvT 79 61 78]
def zK8:SL:= [asB 6 6 false]
def zmo:SL:= [mvV 80 7,bnI 81 .eql 80 6,mvL 82 81,fdG 83 82 true 7 3,ldG 84 82 true 83,lgS 85 82 true false 84,bgI 86 82 true .neq 85 1,mgL 87 82 true 86,fdG 88 87 false 5 3,ldG 89 87 false 88,bgI 90 87 false .lss 89 0,pgT 91 82 true 87 90,mgL 92 82 true 91,fdG 93 92 false 5 3,ldG 94 92 false 93,bgI 95 92 false .gtr 94 50,pgT 96 82 true 92 95,mgL 97 82 true 96,fdG 98 97 false 6 3,ldG 99 97 false 98,bgI 100 97 false .gtr 99 50,pgT 101 82 true 97 100,mgL 102 82 true 101,fdG 103 102 false 6 3,ldG 104 102 false 103,fdG 105 102 false 5 3,ldG 106 102 false 105,bgL 107 102 false .lss 104 106,mgL 108 102 false 107,fdG 109 108 true 6 3,ldG 110 108 true 109,bgI 111 108 true .neq 110 (-1),pgF 112 102 false 108 111,pgT 113 82 true 102 112,pvF 114 82 113]
def zK7:SL:= [asB 6 6 false]
def zK6:SL:= [asI 8 8 0]
def zCo:SL:= [mvV 115 8,fdV 116 7 3,ldN 117 116,lnS 118 false 117,bvL 119 .lss 115 118]
def zyV:SL:= [fdV 122 7 3,ldN 123 122,mvV 124 8,ixL 125 8 123 124,ldL 126 8 125,mvV 127 7,mvV 128 2,bnI 129 .add 128 1,clC 130 70 126 127 129,⟨.v 131,none, .un .not (.l 130)⟩]
def zyU:SL:= [asB 6 6 false]
def zyT:SL:= [mvV 120 8,bnI 121 .add 120 1,asL 8 8 121]
def a70l13:ACode:=(.seq (sR zCo (cV 119 .skip (.exit 0))) (.seq (.block 1 (sR zyV (cV 131 (sT zyU) .skip))) (.region zyT)))
def zDz:SL:= [asB 6 6 true]
def a70:AFunc:=⟨3,[0,1,2,3,6,7,8,54,79,114,119,131],[.tmp 6],(sR zLb (sR zLa (.seq (sR zih (cV 54 (sT zK9) .skip)) (.seq (sR zpu (cV 79 (sT zK8) .skip)) (.seq (sR zmo (cV 114 (sT zK7) .skip)) (.seq (sR zK6 (bL 0 a70l13)) (sT zDz))))))),true⟩
def zyS:SL:= [bxV 1 0,asI 2 2 0]
def zyR:SL:= [fdV 5 0 1,ldN 6 5,bnI 7 .geq 6 1,mvL 8 7,fdG 9 8 true 0 1,ldG 10 8 true 9,bgI 11 8 true .leq 10 3,pvF 12 8 11]
def zyQ:SL:= [asI 2 2 1]
def zK5:SL:= [asI 3 3 0]
def zK4:SL:= [asI 4 4 0]
def zCn:SL:= [mvV 13 4,fdV 14 7 1,ldN 15 14,lnS 16 false 15,bvL 17 .lss 13 16]
def zG6:SL:= [mvV 20 3,fdV 21 7 1,ldN 22 21,mvV 23 4,ixL 24 8 22 23,ldL 25 8 24,clA 26 71 25,bnL 27 .add 20 26,asL 3 3 27]
def zG5:SL:= [mvV 28 3,bvI 29 .gtr 28 500]
def zG4:SL:= [asI 2 2 1000]
def zG3:SL:= [mvV 18 4,bnI 19 .add 18 1,asL 4 4 19]
def a71l10:ACode:=(.seq (sR zCn (cV 17 .skip (.exit 0))) (.seq (.block 1 (sR zG6 (sR zG5 (cV 29 (sT zG4) .skip)))) (.region zG3)))
def zrd:SL:= [fdV 30 0 1,ldN 31 30,bvI 32 .eql 31 5]
def zrc:SL:= [mvV 33 3,fdV 34 7 1,ldN 35 34,lnS 36 false 35,bnL 37 .add 33 36,bnI 38 .sub 37 1,asL 3 3 38]
def zrb:SL:= [fdV 39 0 1,ldN 40 39,bnI 41 .eql 40 6,mvL 42 41,fdG 43 42 true 6 1,ldG 44 42 true 43,bgI 45 42 true .lss 44 0,pvF 46 42 45]
def zra:SL:= [fdV 47 5 1,ldN 48 47,mvV 49 3,bnL 50 .mul 48 49,mvV 51 3,bnL 52 .add 50 51,bnI 53 .add 52 1,asL 3 3 53]
def zq9:SL:= [fdV 54 0 1,ldN 55 54,bvI 56 .eql 55 6]
def zq8:SL:= [fdV 57 5 1,ldN 58 57,mvV 59 3,bnL 60 .mul 58 59,fdV 61 6 1,ldN 62 61,fdV 63 5 1,ldN 64 63,bnL 65 .sub 62 64,mvV 66 3,bnI 67 .add 66 1,bnL 68 .mul 65 67,bnL 69 .add 60 68,asL 3 3 69]
def zuT:SL:= [mvV 70 3,bvI 71 .gtr 70 500]
def zuS:SL:= [asI 2 2 1000]
def zuR:SL:= [mvV 72 3,asL 2 3 72]
def a71:AFunc:=⟨1,[0,1,2,3,4,12,17,29,32,46,56,71],[.tmp 2],(sR zyS (.seq (sR zyR (cV 12 (sT zyQ) .skip)) (sR zK5 (.seq (sR zK4 (bL 0 a71l10)) (.seq (sR zrd (cV 32 (.region zrc) .skip)) (.seq (sR zrb (cV 46 (.region zra) (sR zq9 (cV 56 (.region zq8) .skip)))) (.seq (sR zuT (cV 71 (sT zuS) .skip)) (sT zuR)))))))),true⟩
def zKB:SL:= [bxV 3 0,asI 6 6 0]
def zKA:SL:= [asI 7 7 1]
def zKz:SL:= [asI 8 8 0]
def zyD:SL:= [mvV 9 8,fdV 10 7 3,ldN 11 10,lnS 12 false 11,bnL 13 .lss 9 12,mvL 14 13,mgV 15 14 true 7,mgV 16 14 true 2,bgL 17 14 true .leq 15 16,pkF 18 14 17,mvL 19 18,mgV 20 19 true 1,bgI 21 19 true .gtr 20 0,pvF 22 19 21]
def zCi:SL:= [mvV 25 7,fdV 26 7 3,ldN 27 26,mvV 28 8,ixL 29 8 27 28,ldL 30 8 29,mvV 31 1,bnI 32 .sub 31 1,mvV 33 2,mvV 34 7,bnL 35 .sub 33 34,clC 36 85 30 32 35,bnL 37 .add 25 36,asL 7 7 37]
def zCh:SL:= [mvV 23 8,bnI 24 .add 23 1,asL 8 8 24]
def a85l6:ACode:=(.seq (sR zyD (cV 22 .skip (.exit 0))) (.seq (.block 1 (.region zCi)) (.region zCh)))
def zGM:SL:= [mvV 38 1,bvI 39 .leq 38 0]
def zGL:SL:= [mvV 40 2,bnI 41 .add 40 1,asL 6 6 41]
def zGK:SL:= [mvV 42 7,asL 6 7 42]
def a85:AFunc:=⟨3,[0,1,2,3,6,7,8,22,39],[.tmp 6],(sR zKB (sR zKA (.seq (sR zKz (bL 0 a85l6)) (.seq (sR zGM (cV 39 (sT zGL) .skip)) (sT zGK))))),true⟩
def zGJ:SL:= [⟨.v 4,none, .allocL [.int .i64 0, .int .u64 0, .int .u64 0, .int .u64 0, .int .u64 0, .int .i64 0, .int .i64 0, .nils]⟩]
def zGI:SL:= [mvV 6 0,mvV 7 1,clB 8 87 6 7,⟨.l 9,none, .bslice false (.agg [.int .i64 0, .int .u64 0, .int .u64 0, .int .u64 0, .int .u64 0, .int .i64 0, .int .i64 0, .nils]) 1 [(0,(.l 8))]⟩,asL 5 5 9]
def zCg:SL:= [mvV 10 0,⟨.v 11,none, .call 88 [.pl (.l 10), .pl (.c (.int .u8 124))]⟩]
def zGH:SL:= [mvV 12 5,mvV 13 0,mvV 14 1,clB 15 87 13 14,⟨.l 16,none, .bslice false (.agg [.int .i64 0, .int .u64 0, .int .u64 0, .int .u64 0, .int .u64 0, .int .i64 0, .int .i64 0, .nils]) 1 [(0,(.l 15))]⟩,apL 17 8 12 16,asL 5 5 17]
def a86l4:ACode:=(.seq (sR zCg (cV 11 .skip (.exit 0))) (.block 1 (.region zGH)))
def zKy:SL:= [mvV 18 5,⟨.l 19,none, .call 89 [.pl (.c (.int .i64 5)), .pl (.l 18)]⟩,stV 8 4 19]
def a86:AFunc:=⟨2,[0,1,4,5,11],[.cell 4 (some 8)],(sR zGJ (sR zGI (.seq (bL 0 a86l4) (sT zKy)))),false⟩
def zCu:SL:= [bxV 1 0,asI 2 2 0]
def zCt:SL:= [ldV 3 8 1,clA 4 81 3,⟨.v 5,none, .un .not (.l 4)⟩]
def zCs:SL:= [asI 2 2 0]
def zCr:SL:= [ldV 6 8 1,clA 7 82 6,⟨.l 8,none, .minI (.l 7) (.c (.int .i64 500))⟩,bnI 9 .add 8 1,asL 2 2 9]
def a57:AFunc:=⟨1,[0,1,2,5],[.tmp 2],(sR zCu (.seq (sR zCt (cV 5 (sT zCs) .skip)) (sT zCr))),true⟩
def zlg:SL:= [bxV 4 1,asI 6 6 0]
def zlf:SL:= [fdV 10 0 4,⟨.v 11,none, .load none (.l 10)⟩]
def zle:SL:= [bxI 13 .eql 11 1,asL 12 12 13]
def zld:SL:= [mvV 14 0,fdV 15 1 4,ldL 16 4 15,mvV 17 2,⟨.l 18,none, .build [.int .i64 0, .int .u64 0, .int .u64 0, .int .u64 0, .int .u64 0, .int .i64 0, .int .i64 0] [(0,1,(.c (.int .i64 0))),(1,4,(.l 16)),(5,1,(.l 17))]⟩,clB 19 58 14 18,asL 6 6 19]
def zlc:SL:= [bxI 21 .eql 11 2,asL 20 20 21]
def zlb:SL:= [mvV 22 0,mvV 23 2,⟨.l 24,none, .build [.int .i64 0, .int .u64 0, .int .u64 0, .int .u64 0, .int .u64 0, .int .i64 0, .int .i64 0] [(0,1,(.c (.int .i64 1))),(5,1,(.l 23))]⟩,clB 25 58 22 24,asL 6 6 25]
def zla:SL:= [bxI 27 .eql 11 3,asL 26 26 27]
def zk9:SL:= [mvV 28 0,mvV 29 2,⟨.l 30,none, .build [.int .i64 0, .int .u64 0, .int .u64 0, .int .u64 0, .int .u64 0, .int .i64 0, .int .i64 0] [(0,1,(.c (.int .i64 2))),(5,1,(.l 29))]⟩,clB 31 58 28 30,asL 6 6 31]
def zk8:SL:= [bxI 33 .eql 11 4,asL 32 32 33]
def zk7:SL:= [fdV 34 7 4,ldN 35 34,lnS 36 false 35,bnI 37 .sub 36 1,asL 7 7 37]
def zfi:SL:= [mvV 38 7,bvI 39 .geq 38 0]
def zfh:SL:= [mvV 42 0,fdV 43 7 4,ldN 44 43,mvV 45 7,ixL 46 8 44 45,ldL 47 8 46,mvV 48 2,clC 49 59 42 47 48,asL 2 2 49]
def zfg:SL:= [mvV 40 7,bnI 41 .sub 40 1,asL 7 7 41]
def a59l13:ACode:=(.seq (sR zfi (cV 39 .skip (.exit 1))) (.seq (.block 2 (.region zfh)) (.region zfg)))
def zgP:SL:= [bxI 51 .eql 11 5,asL 50 50 51]
def zgO:SL:= [mvV 52 0,fdV 53 7 4,ldN 54 53,fdV 55 7 4,ldN 56 55,lnS 57 false 56,bnI 58 .sub 57 1,ixL 59 8 54 58,ldL 60 8 59,mvV 61 2,clC 62 59 52 60 61,asL 8 8 62]
def zgN:SL:= [fdV 63 7 4,ldN 64 63,lnS 65 false 64,bnI 66 .sub 65 2,asL 9 9 66]
def zff:SL:= [mvV 67 9,bvI 68 .geq 67 0]
def zfe:SL:= [mvV 71 0,mvV 72 0,fdV 73 7 4,ldN 74 73,mvV 75 9,ixL 76 8 74 75,ldL 77 8 76,mvV 78 2,clC 79 59 72 77 78,mvV 80 8,⟨.l 81,none, .build [.int .i64 0, .int .u64 0, .int .u64 0, .int .u64 0, .int .u64 0, .int .i64 0, .int .i64 0] [(0,1,(.c (.int .i64 3))),(5,1,(.l 79)),(6,1,(.l 80))]⟩,clB 82 58 71 81,asL 8 8 82]
def zfd:SL:= [mvV 69 9,bnI 70 .sub 69 1,asL 9 9 70]
def a59l20:ACode:=(.seq (sR zff (cV 68 .skip (.exit 3))) (.seq (.block 4 (.region zfe)) (.region zfd)))
def zgM:SL:= [mvV 83 8,asL 6 8 83]
def zgL:SL:= [bxI 85 .eql 11 6,asL 84 84 85]
def zgK:SL:= [mvV 86 0,ldV 87 8 4,mvV 88 2,clC 89 83 86 87 88,asL 6 6 89]
def zgJ:SL:= [mvV 90 2,asL 6 2 90]
def a59:AFunc:=⟨3,[0,1,2,4,6,7,8,9,11,12,20,26,32,39,50,68,84],[.tmp 6],(sR zlg (.seq (sR zlf (.block 0 (sR zle (cV 12 (sT zld) (sR zlc (cV 20 (sT zlb) (sR zla (cV 26 (sT zk9) (sR zk8 (cV 32 (sR zk7 (bL 1 a59l13)) (sR zgP (cV 50 (sR zgO (.seq (sR zgN (bL 3 a59l20)) (sT zgM))) (sR zgL (cV 84 (sT zgK) .skip)))))))))))))) (sT zgJ))),false⟩
def zHf:SL:= [bxV 3 1,asI 4 4 0]
def zHg:Plan:=(.seq 0 (mvV 5 0) (.seq 1 (mvV 6 0) (.seq 2 (nlC 7 6) (.seq 3 (fdL 8 0 7) (.seq 5 (ldV 10 7 3) (.alt 4 (ldN 9 8) (.one 6 ⟨.l 11,none, .bslice false (.agg [.int .i64 0, .int .u64 0, .int .u64 0, .int .u64 0, .int .u64 0, .int .i64 0, .int .i64 0]) 1 [(0,(.l 10))]⟩ (.one 7 ⟨.l 12,none, .append true 7 (.l 9) (.l 11)⟩ (.seq 8 (nlC 13 5) (.seq 9 (fdL 14 0 13) (.one 10 (stL 14 12) .fin))))) (.one 6 ⟨.l 11,none, .bslice false (.agg [.int .i64 0, .int .u64 0, .int .u64 0, .int .u64 0, .int .u64 0, .int .i64 0, .int .i64 0]) 1 [(0,(.l 10))]⟩ (.seq 4 (ldN 9 8) (.one 7 ⟨.l 12,none, .append true 7 (.l 9) (.l 11)⟩ (.seq 8 (nlC 13 5) (.seq 9 (fdL 14 0 13) (.one 10 (stL 14 12) .fin))))))))))))
def zHe:SL:= [mvV 15 0,nlC 16 15,fdL 17 0 16,ldN 18 17,lnS 19 false 18,bnI 20 .sub 19 1,asL 4 4 20]
def a58:AFunc:=⟨2,[0,1,3,4],[.tmp 4],(sR zHf (.seq (.draw zHg) (sT zHe))),false⟩
def zLd:SL:= [⟨.v 3,none, .boxH (.v 0)⟩,⟨.v 5,none, .boxH (.v 2)⟩,asB 6 6 false]
def zmw:SL:= [⟨.l 7,none, .load none (.v 5)⟩,bnI 8 .gtr 7 100,mvL 9 8,fdG 10 9 false 0 3,ldG 11 9 false 10,bgI 12 9 false .neq 11 1,mgL 13 9 false 12,fdG 14 13 true 1 3,⟨.l 15,some (.l 13,true), .load (some 4) (.l 14)⟩,⟨.l 16,some (.l 13,true), .build [.int .u64 0, .int .u64 0, .int .u64 0, .int .u64 0] []⟩,⟨.l 17,some (.l 13,true), .eqG true (List.replicate 4 1) (.l 15) (.l 16)⟩,pgF 18 9 false 13 17,pkT 19 9 18,mvL 20 19,fdG 21 20 false 0 3,ldG 22 20 false 21,bgI 23 20 false .neq 22 6,mgL 24 20 false 23,fdG 25 24 true 5 3,ldG 26 24 true 25,bgI 27 24 true .neq 26 0,mgL 28 24 true 27,fdG 29 28 false 6 3,ldG 30 28 false 29,bgI 31 28 false .neq 30 0,pgT 32 24 true 28 31,pgF 33 20 false 24 32,pvT 34 20 33]
def zk6:SL:= [asB 6 6 false]
def zmv:SL:= [fdV 35 0 3,⟨.v 36,none, .load none (.l 35)⟩]
def zmu:SL:= [bxI 38 .eql 36 0,asL 37 37 38]
def zmt:SL:= [fdV 39 7 3,ldN 40 39,lnS 41 false 40,bnI 42 .eql 41 0,mvL 43 42,mgV 44 43 true 1,bgI 45 43 true .neq 44 4,pkF 46 43 45,asL 6 6 46]
def zms:SL:= [bxI 48 .eql 36 1,asL 47 47 48]
def zmr:SL:= [bxI 49 .eql 36 2,asL 47 47 49]
def zmq:SL:= [bxI 50 .eql 36 3,asL 47 47 50]
def zmp:SL:= [fdV 51 7 3,ldN 52 51,lnS 53 false 52,bnI 54 .eql 53 0,asL 6 6 54]
def zhy:SL:= [bxI 56 .eql 36 4,asL 55 55 56]
def zhx:SL:= [bxI 57 .eql 36 5,asL 55 55 57]
def zhw:SL:= [mvV 58 1,fdV 59 0 3,ldN 60 59,bnL 61 .eql 58 60,mvL 62 61,fdG 63 62 false 7 3,ldG 64 62 false 63,lgS 65 62 false false 64,bgI 66 62 false .lss 65 2,pvT 67 62 66]
def zhv:SL:= [asB 6 6 false]
def zhu:SL:= [bxI 69 .eql 36 6,asL 68 68 69]
def zdL:SL:= [fdV 70 7 3,ldN 71 70,lnS 72 false 71,bnI 73 .neq 72 1,mvL 74 73,fdG 75 74 false 5 3,ldG 76 74 false 75,bgI 77 74 false .lss 76 0,pkT 78 74 77,mvL 79 78,fdG 80 79 false 5 3,ldG 81 79 false 80,bgI 82 79 false .gtr 81 50,pkT 83 79 82,mvL 84 83,fdG 85 84 false 6 3,ldG 86 84 false 85,bgI 87 84 false .neq 86 (-1),mgL 88 84 false 87,fdG 89 88 true 6 3,ldG 90 88 true 89,fdG 91 88 true 5 3,ldG 92 88 true 91,bgL 93 88 true .lss 90 92,mgL 94 88 true 93,fdG 95 94 false 6 3,ldG 96 94 false 95,bgI 97 94 false .gtr 96 50,pgT 98 88 true 94 97,pgF 99 84 false 88 98,pvT 100 84 99]
def zgI:SL:= [asB 6 6 false]
def zgH:SL:= [asB 6 6 false]
def zgG:SL:= [fdV 101 7 3,ldN 102 101,⟨.l 103,none, .mkfn 90 [(.v 3),(.v 5)]⟩,clB 104 91 102 103,⟨.l 105,none, .un .not (.l 104)⟩,asL 6 6 105]
def a65:AFunc:=⟨3,[0,1,2,3,5,6,34,36,37,47,55,67,68,100],[.tmp 6],(sR zLd (.seq (sR zmw (cV 34 (sT zk6) .skip)) (.seq (sR zmv (.block 0 (sR zmu (cV 37 (sT zmt) (.seq (sR zms (.cond false (.v 47) .skip (sR zmr (.cond false (.v 47) .skip (.region zmq))))) (.cond false (.v 47) (sT zmp) (.seq (sR zhy (.cond false (.v 55) .skip (.region zhx))) (.cond false (.v 55) (sR zhw (cV 67 (sT zhv) .skip)) (sR zhu (cV 68 (sR zdL (cV 100 (sT zgI) .skip)) (sT zgH))))))))))) (sT zgG)))),true⟩
def zwv:SL:= [bxV 1 0,asI 2 2 0]
def zwu:SL:= [asI 3 3 0]
def zwt:SL:= [fdV 8 0 1,⟨.v 9,none, .load none (.l 8)⟩]
def zws:SL:= [bxI 11 .eql 9 1,asL 10 10 11]
def zyY:SL:= [asI 2 2 1]
def zyX:SL:= [bxI 13 .eql 9 6,asL 12 12 13]
def zCq:Plan:=(.seq 0 (fdV 14 5 1) (.seq 2 (fdV 16 7 1) (.seq 3 (ldN 17 16) (.seq 4 ⟨.l 18,none, .iaddr 8 (.l 17) (.c (.int .i64 0))⟩ (.seq 5 (ldL 19 8 18) (.alt 1 (ldN 15 14) (.one 6 (clA 20 66 19) (.seq 7 (bnL 21 .mul 15 20) (.seq 8 (asL 2 2 21) .fin))) (.one 6 (clA 20 66 19) (.seq 1 (ldN 15 14) (.seq 7 (bnL 21 .mul 15 20) (.seq 8 (asL 2 2 21) .fin))))))))))
def zCp:SL:= [bxI 23 .eql 9 4,asL 22 22 23]
def zLc:SL:= [fdV 24 7 1,⟨.v 25,none, .load none (.l 24)⟩,⟨.v 26,none, .len false (.v 25)⟩,asI 27 27 0]
def zHd:SL:= [⟨.v 28,none, .bin .lss (.v 27) (.v 26)⟩]
def zDH:SL:= [⟨.l 29,none, .iaddr 8 (.v 25) (.v 27)⟩,ldL 30 8 29,⟨.v 5,none, .allocL [.int .i64 0, .int .u64 0, .int .u64 0, .int .u64 0, .int .u64 0, .int .i64 0, .int .i64 0, .nils]⟩,stV 8 5 30]
def zDG:SL:= [mvV 31 3,ldV 32 8 5,clA 33 66 32,bnL 34 .add 31 33,asL 3 3 34]
def zDF:SL:= [bxI 35 .add 27 1,asL 27 27 35]
def a66l13:ACode:=(sR zHd (.seq (cV 28 .skip (.exit 1)) (.seq (.block 2 (sR zDH (.region zDG))) (.region zDF))))
def zy0:SL:= [bxI 37 .eql 9 5,asL 36 36 37]
def zDE:SL:= [fdV 38 7 1,ldN 39 38,⟨.l 40,none, .iaddr 8 (.l 39) (.c (.int .i64 0))⟩,ldL 41 8 40,clA 42 66 41,asL 3 3 42]
def zDD:SL:= [fdV 43 7 1,⟨.v 44,none, .load none (.l 43)⟩,⟨.v 45,none, .len false (.v 44)⟩,asI 46 46 0]
def zyZ:SL:= [⟨.v 47,none, .bin .lss (.v 46) (.v 45)⟩]
def zDC:SL:= [⟨.l 48,none, .iaddr 8 (.v 44) (.v 46)⟩,ldL 49 8 48,⟨.v 7,none, .allocL [.int .i64 0, .int .u64 0, .int .u64 0, .int .u64 0, .int .u64 0, .int .i64 0, .int .i64 0, .nils]⟩,stV 8 7 49]
def zDB:SL:= [mvV 50 3,ldV 51 8 7,clA 52 66 51,⟨.l 53,none, .minI (.l 50) (.l 52)⟩,asL 3 3 53]
def zDA:SL:= [bxI 54 .add 46 1,asL 46 46 54]
def a66l21:ACode:=(sR zyZ (.seq (cV 47 .skip (.exit 3)) (.seq (.block 4 (sR zDC (.region zDB))) (.region zDA))))
def zuU:SL:= [mvV 55 3,asL 2 3 55]
def a66:AFunc:=⟨1,[0,1,2,3,5,7,9,10,12,22,25,26,27,28,36,44,45,46,47],[.tmp 2],(sR zwv (sR zwu (.seq (sR zwt (.block 0 (sR zws (cV 10 (sT zyY) (sR zyX (cV 12 (.seq (.draw zCq) .ret) (sR zCp (cV 22 (sR zLc (bL 1 a66l13)) (sR zy0 (cV 36 (sR zDE (sR zDD (bL 3 a66l21))) .skip)))))))))) (sT zuU)))),true⟩
def zLr:SL:= [asI 6 6 0,asI 7 7 0,asB 8 8 false]
def zLq:SL:= [mvV 10 2,bvI 11 .lss 10 0]
def zLp:SL:= [asI 6 6 0,asI 7 7 0,asB 8 8 false]
def zy5:SL:= [mvV 12 2,mvV 13 0,nlC 14 13,fdL 15 2 14,ldN 16 15,bnL 17 .add 12 16,mvV 18 1,lnS 19 true 18,bvL 20 .leq 17 19]
def zHp:SL:= [mvV 23 0,nlC 24 23,fdL 25 1 24,ldN 26 25,mvV 27 1,mvV 28 2,clC 29 35 26 27 28,asL 9 9 29]
def zHo:SL:= [mvV 30 9,bvI 31 .geq 30 0]
def zHn:SL:= [mvV 32 2,mvV 33 9,asL 6 2 32,asL 7 9 33,asB 8 8 true]
def zLo:SL:= [mvV 21 2,bnI 22 .add 21 1,asL 2 2 22]
def a43l8:ACode:=(.seq (sR zy5 (cV 20 .skip (.exit 0))) (.seq (.block 1 (sR zHp (sR zHo (cV 31 (sT zHn) .skip)))) (.region zLo)))
def zLn:SL:= [asI 6 6 0,asI 7 7 0,asB 8 8 false]
def a43:AFunc:=⟨3,[0,1,2,6,7,8,9,11,20,31],[.tmp 6, .tmp 7, .tmp 8],(sR zLr (.seq (sR zLq (cV 11 (sT zLp) .skip)) (.seq (bL 0 a43l8) (sT zLn)))),true⟩
def zK3:SL:= [bxV 1 0,⟨.v 2,none, .allocL (List.replicate 256 (.bool false))⟩]
def zK2:SL:= [⟨.l 5,none, .build (List.replicate 256 (.bool false)) []⟩,⟨.v 3,none, .allocL (List.replicate 256 (.bool false))⟩,stV 256 3 5]
def zK1:SL:= [asI 4 4 0]
def zG2:SL:= [mvV 6 4,bvI 7 .lss 6 256]
def zK0:SL:= [mvV 10 4,mvV 11 4,bnI 12 .quo 11 64,axV 13 4 0 1 12,ldN 14 13,mvV 15 4,bnI 16 .rem 15 64,⟨.l 17,none, .conv .u64 (.l 16)⟩,bnL 18 .shr 14 17,⟨.l 19,none, .bin .rem (.l 18) (.c (.int .u64 2))⟩,⟨.l 20,none, .bin .eql (.l 19) (.c (.int .u64 1))⟩,axV 21 256 0 3 10,stL 21 20]
def zKZ:SL:= [mvV 8 4,bnI 9 .add 8 1,asL 4 4 9]
def a72l6:ACode:=(.seq (sR zG2 (cV 7 .skip (.exit 0))) (.seq (.block 1 (.region zK0)) (.region zKZ)))
def zKY:SL:= [ldV 22 256 3,stV 256 2 22]
def a72:AFunc:=⟨1,[0,1,2,3,4,7],[.cell 2 (some 256)],(sR zK3 (sR zK2 (.seq (sR zK1 (bL 0 a72l6)) (sT zKY)))),true⟩
def zKX:SL:= [⟨.v 4,none, .asg 4 (.c .nils)⟩]
def zKW:SL:= [⟨.l 10,none, .bslice false (.nils) 0 []⟩,asL 5 5 10]
def zKV:SL:= [asI 6 6 0]
def zG1:SL:= [mvV 11 6,mvV 12 0,lnS 13 false 12,bvL 14 .lss 11 13]
def zKU:SL:= [mvV 17 0,lnS 18 false 17,⟨.l 19,none, .mslice false (.bool false) (.l 18) (.l 18)⟩,asL 7 7 19]
def zKT:SL:= [asI 8 8 0]
def zCm:SL:= [mvV 20 8,mvV 21 0,lnS 22 false 21,bvL 23 .lss 20 22]
def zG0:SL:= [mvV 26 0,mvV 27 6,ixL 28 0 26 27,ldN 29 28,mvV 30 8,ixL 31 0 29 30,⟨.v 32,none, .load none (.l 31)⟩]
def zGZ:SL:= [asI 9 9 0]
def zCl:SL:= [mvV 33 9,mvV 34 0,lnS 35 false 34,bvL 36 .lss 33 35]
def zyP:SL:= [mvV 39 7,mvV 40 9,mvV 41 7,mvV 42 9,ixL 43 0 41 42,ldN 44 43,mvL 45 44,mgV 46 45 false 1,mgV 47 45 false 8,⟨.l 48,some (.l 45,false), .iaddr 0 (.l 46) (.l 47)⟩,ldG 49 45 false 48,mgV 50 45 false 9,⟨.l 51,some (.l 45,false), .iaddr 0 (.l 49) (.l 50)⟩,ldG 52 45 false 51,pkT 53 45 52,ixL 54 0 39 40,stL 54 53]
def zyO:SL:= [mvV 37 9,bnI 38 .add 37 1,asL 9 9 38]
def a73l12:ACode:=(.seq (sR zCl (cV 36 .skip (.exit 4))) (.seq (.block 5 (.region zyP)) (.region zyO)))
def zyN:SL:= [mvV 24 8,bnI 25 .add 24 1,asL 8 8 25]
def a73l14:ACode:=(.seq (sR zCm (cV 23 .skip (.exit 2))) (.seq (.block 3 (sR zG0 (cV 32 (sR zGZ (bL 4 a73l12)) .skip))) (.region zyN)))
def zDy:SL:= [mvV 55 5,mvV 56 7,⟨.l 57,none, .bslice false (.nils) 1 [(0,(.l 56))]⟩,apL 58 0 55 57,asL 5 5 58]
def zDx:SL:= [mvV 15 6,bnI 16 .add 15 1,asL 6 6 16]
def a73l17:ACode:=(.seq (sR zG1 (cV 14 .skip (.exit 0))) (.seq (.block 1 (sR zKU (.seq (sR zKT (bL 2 a73l14)) (.region zDy)))) (.region zDx)))
def zDw:SL:= [mvV 59 5,asL 4 5 59]
def a73:AFunc:=⟨2,[0,1,4,5,6,7,8,9,14,23,32,36],[.tmp 4],(sR zKX (sR zKW (.seq (sR zKV (bL 0 a73l17)) (sT zDw)))),true⟩
def zKS:SL:= [⟨.v 4,none, .asg 4 (.c .nils)⟩]
def zKR:SL:= [⟨.l 9,none, .bslice false (.nils) 0 []⟩,asL 5 5 9]
def zKQ:SL:= [asI 6 6 0]
def zGY:SL:= [mvV 10 6,mvV 11 0,lnS 12 false 11,bvL 13 .lss 10 12]
def zKP:SL:= [mvV 16 0,lnS 17 false 16,⟨.l 18,none, .mslice false (.bool false) (.l 17) (.l 17)⟩,asL 7 7 18]
def zKO:SL:= [asI 8 8 0]
def zCk:SL:= [mvV 19 8,mvV 20 0,lnS 21 false 20,bvL 22 .lss 19 21]
def zGX:SL:= [mvV 25 7,mvV 26 8,mvV 27 0,mvV 28 6,ixL 29 0 27 28,ldN 30 29,mvV 31 8,ixL 32 0 30 31,ldN 33 32,mvL 34 33,mgV 35 34 false 1,mgV 36 34 false 6,⟨.l 37,some (.l 34,false), .iaddr 0 (.l 35) (.l 36)⟩,ldG 38 34 false 37,mgV 39 34 false 8,⟨.l 40,some (.l 34,false), .iaddr 0 (.l 38) (.l 39)⟩,ldG 41 34 false 40,pkT 42 34 41,ixL 43 0 25 26,stL 43 42]
def zGW:SL:= [mvV 23 8,bnI 24 .add 23 1,asL 8 8 24]
def a74l9:ACode:=(.seq (sR zCk (cV 22 .skip (.exit 2))) (.seq (.block 3 (.region zGX)) (.region zGW)))
def zDv:SL:= [mvV 44 5,mvV 45 7,⟨.l 46,none, .bslice false (.nils) 1 [(0,(.l 45))]⟩,apL 47 0 44 46,asL 5 5 47]
def zDu:SL:= [mvV 14 6,bnI 15 .add 14 1,asL 6 6 15]
def a74l12:ACode:=(.seq (sR zGY (cV 13 .skip (.exit 0))) (.seq (.block 1 (sR zKP (.seq (sR zKO (bL 2 a74l9)) (.region zDv)))) (.region zDu)))
def zDt:SL:= [mvV 48 5,asL 4 5 48]
def a74:AFunc:=⟨2,[0,1,4,5,6,7,8,13,22],[.tmp 4],(sR zKS (sR zKR (.seq (sR zKQ (bL 0 a74l12)) (sT zDt)))),true⟩
def zKN:SL:= [⟨.v 2,none, .asg 2 (.c .nils)⟩]
def zKM:SL:= [⟨.l 9,none, .bslice false (.nils) 0 []⟩,asL 3 3 9]
def zKL:SL:= [asI 4 4 0]
def zGV:SL:= [mvV 10 4,mvV 11 0,lnS 12 false 11,bvL 13 .lss 10 12]
def zKK:SL:= [⟨.l 16,none, .bslice true (.bool false) 0 []⟩,mvV 17 0,mvV 18 4,ixL 19 0 17 18,ldN 20 19,apL 21 0 16 20,asL 5 5 21]
def zKJ:SL:= [mvV 22 5,mvV 23 4,ixL 24 0 22 23,⟨.no,none, .store none (.l 24) (.c (.bool true))⟩]
def zKI:SL:= [mvV 25 3,mvV 26 5,⟨.l 27,none, .bslice false (.nils) 1 [(0,(.l 26))]⟩,apL 28 0 25 27,asL 3 3 28]
def zKH:SL:= [mvV 14 4,bnI 15 .add 14 1,asL 4 4 15]
def a75l8:ACode:=(.seq (sR zGV (cV 13 .skip (.exit 0))) (.seq (.block 1 (sR zKK (sR zKJ (.region zKI)))) (.region zKH)))
def zKG:SL:= [asI 6 6 0]
def zyL:SL:= [mvV 29 6,mvV 30 0,lnS 31 false 30,bvL 32 .lss 29 31]
def zDs:SL:= [asI 7 7 0]
def zuQ:SL:= [mvV 35 7,mvV 36 0,lnS 37 false 36,bvL 38 .lss 35 37]
def zyK:SL:= [mvV 41 3,mvV 42 7,ixL 43 0 41 42,ldN 44 43,mvV 45 6,ixL 46 0 44 45,ldN 47 46,⟨.v 48,none, .un .not (.l 47)⟩]
def zDr:SL:= [asI 8 8 0]
def zuP:SL:= [mvV 49 8,mvV 50 0,lnS 51 false 50,bvL 52 .lss 49 51]
def zyM:Plan:=(.seq 0 (mvV 55 3) (.seq 1 (mvV 56 7) (.seq 2 (ixL 57 0 55 56) (.seq 3 (ldN 58 57) (.seq 4 (mvV 59 8) (.seq 5 (mvV 60 3) (.seq 6 (mvV 61 7) (.seq 7 (ixL 62 0 60 61) (.seq 8 (ldN 63 62) (.seq 9 (mvV 64 8) (.seq 10 (ixL 65 0 63 64) (.seq 11 (ldN 66 65) (.seq 12 (mvL 67 66) (.seq 13 (mgV 68 67 false 3) (.seq 14 (mgV 69 67 false 6) (.seq 15 ⟨.l 70,some (.l 67,false), .iaddr 0 (.l 68) (.l 69)⟩ (.seq 16 (ldG 71 67 false 70) (.seq 17 (mgV 72 67 false 8) (.seq 18 ⟨.l 73,some (.l 67,false), .iaddr 0 (.l 71) (.l 72)⟩ (.seq 19 (ldG 74 67 false 73) (.seq 20 (pkT 75 67 74) (.seq 21 (ixL 76 0 58 59) (.one 22 (stL 76 75) .fin)))))))))))))))))))))))
def zyJ:SL:= [mvV 53 8,bnI 54 .add 53 1,asL 8 8 54]
def a75l18:ACode:=(.seq (sR zuP (cV 52 .skip (.exit 6))) (.seq (.block 7 (.draw zyM)) (.region zyJ)))
def zyI:SL:= [mvV 39 7,bnI 40 .add 39 1,asL 7 7 40]
def a75l20:ACode:=(.seq (sR zuQ (cV 38 .skip (.exit 4))) (.seq (.block 5 (.seq (sR zyK (cV 48 (.exit 5) .skip)) (sR zDr (bL 6 a75l18)))) (.region zyI)))
def zDq:SL:= [mvV 33 6,bnI 34 .add 33 1,asL 6 6 34]
def a75l22:ACode:=(.seq (sR zyL (cV 32 .skip (.exit 2))) (.seq (.block 3 (sR zDs (bL 4 a75l20))) (.region zDq)))
def zDp:SL:= [mvV 77 3,asL 2 3 77]
def a75:AFunc:=⟨1,[0,2,3,4,5,6,7,8,13,32,38,48,52],[.tmp 2],(sR zKN (sR zKM (.seq (sR zKL (bL 0 a75l8)) (.seq (sR zKG (bL 2 a75l22)) (sT zDp))))),true⟩
def zDW:SL:= [asI 2 2 0]
def zDV:SL:= [asI 3 3 (-1)]
def zDU:SL:= [asI 4 4 0]
def zu1:SL:= [mvV 5 4,mvV 6 0,lnS 7 false 6,bvL 8 .lss 5 7]
def zzc:SL:= [mvV 11 0,mvV 12 4,ixL 13 0 11 12,⟨.v 14,none, .load none (.l 13)⟩]
def zzb:SL:= [mvV 15 4,asL 3 3 15]
def zza:SL:= [mvV 9 4,bnI 10 .add 9 1,asL 4 4 10]
def a155l7:ACode:=(.seq (sR zu1 (cV 8 .skip (.exit 0))) (.seq (.block 1 (sR zzc (cV 14 (.region zzb) .skip))) (.region zza)))
def zDT:SL:= [mvV 16 3,asL 2 3 16]
def a155:AFunc:=⟨1,[0,2,3,4,8,14],[.tmp 2],(sR zDW (sR zDV (.seq (sR zDU (bL 0 a155l7)) (sT zDT)))),true⟩
def zKp:SL:= [⟨.v 4,none, .allocL [.int .i64 0, .int .u64 0, .int .u64 0, .int .u64 0, .int .u64 0, .int .i64 0, .int .i64 0, .nils]⟩]
def zKo:SL:= [⟨.l 7,none, .bslice false (.agg [.int .i64 0, .int .u64 0, .int .u64 0, .int .u64 0, .int .u64 0, .int .i64 0, .int .i64 0, .nils]) 0 []⟩,asL 5 5 7]
def zq7:SL:= [mvV 8 0,clA 9 93 8,bnI 10 .geq 9 0,mvL 11 10,mgV 12 11 true 0,⟨.l 13,some (.l 11,true), .call 93 [.pl (.l 12)]⟩,bgI 14 11 true .neq 13 124,pkF 15 11 14,mvL 16 15,mgV 17 16 true 0,⟨.l 18,some (.l 16,true), .call 93 [.pl (.l 17)]⟩,bgI 19 16 true .eql 18 41,mgL 20 16 true 19,mgV 21 20 true 1,bgI 22 20 true .gtr 21 0,pgF 23 16 true 20 22,⟨.l 24,some (.l 16,true), .un .not (.l 23)⟩,pvF 25 16 24]
def zB5:SL:= [mvV 26 0,mvV 27 1,clB 28 101 26 27,⟨.v 6,none, .allocL [.int .i64 0, .int .u64 0, .int .u64 0, .int .u64 0, .int .u64 0, .int .i64 0, .int .i64 0, .nils]⟩,stV 8 6 28]
def zB4:SL:= [mvV 29 0,ldV 30 8 6,clB 31 102 29 30,stV 8 6 31]
def zB3:SL:= [mvV 32 5,ldV 33 8 6,⟨.l 34,none, .bslice false (.agg [.int .i64 0, .int .u64 0, .int .u64 0, .int .u64 0, .int .u64 0, .int .i64 0, .int .i64 0, .nils]) 1 [(0,(.l 33))]⟩,apL 35 8 32 34,asL 5 5 35]
def a92l6:ACode:=(.seq (sR zq7 (cV 25 .skip (.exit 0))) (.block 1 (sR zB5 (sR zB4 (.region zB3)))))
def zGE:SL:= [mvV 36 5,⟨.l 37,none, .call 3 [.pl (.c (.int .i64 4)), .pl (.l 36)]⟩,stV 8 4 37]
def a92:AFunc:=⟨2,[0,1,4,5,6,25],[.cell 4 (some 8)],(sR zKp (sR zKo (.seq (bL 0 a92l6) (sT zGE)))),false⟩
def zB0:SL:= [asI 2 2 0]
def zB2:Plan:=(.seq 0 (mvV 3 0) (.seq 1 (nlC 4 3) (.seq 2 (fdL 5 3 4) (.seq 3 (ldN 6 5) (.seq 4 (bnI 7 .neq 6 0) (.seq 5 (mvL 8 7) (.seq 6 (mgV 9 8 false 0) (.seq 7 (nlG 10 8 false 9) (.seq 8 (fgL 11 8 false 1 10) (.seq 9 (ldG 12 8 false 11) (.seq 10 (mgV 13 8 false 0) (.seq 11 (nlG 14 8 false 13) (.seq 12 (fgL 15 8 false 0 14) (.seq 13 (ldG 16 8 false 15) (.seq 14 (lgS 17 8 false true 16) (.seq 15 (bgL 18 8 false .geq 12 17) (.seq 16 (pvT 19 8 18) .fin)))))))))))))))))
def zBZ:SL:= [asI 2 2 (-1)]
def zB1:Plan:=(.seq 0 (mvV 20 0) (.seq 1 (nlC 21 20) (.seq 2 (fdL 22 0 21) (.seq 3 (ldN 23 22) (.seq 4 (mvV 24 0) (.seq 5 (nlC 25 24) (.seq 6 (fdL 26 1 25) (.seq 7 (ldN 27 26) (.seq 8 ⟨.l 28,none, .sidx (.l 23) (.l 27)⟩ (.one 9 ⟨.l 29,none, .conv .i64 (.l 28)⟩ (.seq 10 (asL 2 2 29) .fin)))))))))))
def a93:AFunc:=⟨1,[0,2,19],[.tmp 2],(sR zB0 (.seq (.seq (.draw zB2) (cV 19 (sT zBZ) .skip)) (.seq (.draw zB1) .ret))),true⟩
def a3r0:SL:= [⟨.v 4,none, .allocL [.int .i64 0, .int .u64 0, .int .u64 0, .int .u64 0, .int .u64 0, .int .i64 0, .int .i64 0, .nils]⟩]
def a3r1:SL:= [⟨.l 7,none, .bslice false (.agg [.int .i64 0, .int .u64 0, .int .u64 0, .int .u64 0, .int .u64 0, .int .i64 0, .int .i64 0, .nils]) 0 []⟩,asL 5 5 7]
def a3r2:SL:= [asI 6 6 0]
def zDP:SL:= [mvV 8 6,mvV 9 1,lnS 10 false 9,bvL 11 .lss 8 10]
def zHN:SL:= [mvV 14 1,mvV 15 6,ixL 16 8 14 15,fdL 17 0 16,ldN 18 17,mvV 19 0,bvL 20 .eql 18 19]
def zHM:SL:= [mvV 21 5,mvV 22 1,mvV 23 6,ixL 24 8 22 23,fdL 25 7 24,ldN 26 25,apL 27 8 21 26,asL 5 5 27]
def zHL:SL:= [mvV 28 1,mvV 29 6,ixL 30 8 28 29,fdL 31 0 30,ldN 32 31,bnI 33 .neq 32 0,mvL 34 33,mgV 35 34 false 0,bgI 36 34 false .eql 35 5,pvT 37 34 36]
def zHK:SL:= [mvV 38 5,mvV 39 1,mvV 40 6,ixL 41 8 39 40,ldL 42 8 41,⟨.l 43,none, .bslice false (.agg [.int .i64 0, .int .u64 0, .int .u64 0, .int .u64 0, .int .u64 0, .int .i64 0, .int .i64 0, .nils]) 1 [(0,(.l 42))]⟩,apL 44 8 38 43,asL 5 5 44]
def zHJ:SL:= [mvV 12 6,bnI 13 .add 12 1,asL 6 6 13]
def a3l9:ACode:=(.seq (sR zDP (cV 11 .skip (.exit 0))) (.seq (.block 1 (sR zHN (cV 20 (.region zHM) (sR zHL (cV 37 (.region zHK) .skip))))) (.region zHJ)))
def zCN:SL:= [mvV 45 5,lnS 46 false 45,bvI 47 .eql 46 0]
def zCM:SL:= [⟨.l 48,none, .build [.int .i64 0, .int .u64 0, .int .u64 0, .int .u64 0, .int .u64 0, .int .i64 0, .int .i64 0, .nils] []⟩,stV 8 4 48]
def zCL:SL:= [mvV 49 5,lnS 50 false 49,bvI 51 .eql 50 1]
def zCK:SL:= [mvV 52 5,⟨.l 53,none, .iaddr 8 (.l 52) (.c (.int .i64 0))⟩,ldL 54 8 53,stV 8 4 54]
def zCJ:SL:= [mvV 55 0,mvV 56 5,⟨.l 57,none, .build [.int .i64 0, .int .u64 0, .int .u64 0, .int .u64 0, .int .u64 0, .int .i64 0, .int .i64 0, .nils] [(0,1,(.l 55)),(7,1,(.l 56))]⟩,stV 8 4 57]
def a3:AFunc:=⟨2,[0,1,4,5,6,11,20,37,47,51],[.cell 4 (some 8)],(sR a3r0 (sR a3r1 (.seq (sR a3r2 (bL 0 a3l9)) (.seq (sR zCN (cV 47 (sT zCM) .skip)) (.seq (sR zCL (cV 51 (sT zCK) .skip)) (sT zCJ)))))),true⟩
def zKx:SL:= [⟨.v 4,none, .allocL [.int .i64 0, .int .u64 0, .int .u64 0, .int .u64 0, .int .u64 0, .int .i64 0, .int .i64 0, .nils]⟩]
def zKw:SL:= [⟨.v 5,none, .asg 5 (.c .nils)⟩]
def ziN:SL:= [mvV 9 0,clA 10 98 9,mvL 8 10,exT 11 0 8,exT 12 1 8,asL 6 6 11,asL 7 7 12]
def ziM:SL:= [mvV 13 7,⟨.l 14,none, .un .not (.l 13)⟩,mvL 15 14,mgV 16 15 false 6,⟨.l 17,some (.l 15,false), .bin .eql (.l 16) (.c (.int .u8 124))⟩,pkT 18 15 17,mvL 19 18,mgV 20 19 false 6,⟨.l 21,some (.l 19,false), .bin .eql (.l 20) (.c (.int .u8 41))⟩,mgL 22 19 false 21,mgV 23 22 true 1,bgI 24 22 true .gtr 23 0,pgF 25 19 false 22 24,pvT 26 19 25]
def ziL:SL:= [mvV 27 5,⟨.l 28,none, .call 89 [.pl (.c (.int .i64 4)), .pl (.l 27)]⟩,stV 8 4 28]
def ziK:SL:= [mvV 29 5,mvV 30 0,mvV 31 1,clB 32 99 30 31,⟨.l 33,none, .bslice false (.agg [.int .i64 0, .int .u64 0, .int .u64 0, .int .u64 0, .int .u64 0, .int .i64 0, .int .i64 0, .nils]) 1 [(0,(.l 32))]⟩,apL 34 8 29 33,asL 5 5 34]
def a87l6:ACode:=(.block 1 (sR ziN (.seq (sR ziM (cV 26 (sT ziL) .skip)) (.region ziK))))
def a87:AFunc:=⟨2,[0,1,4,5,6,7,26],[.cell 4 (some 8)],(sR zKx (sR zKw (bL 0 a87l6))),false⟩
def zCf:SL:= [asB 4 4 false]
def zCe:SL:= [mvV 8 0,clA 9 98 8,mvL 7 9,exT 10 0 7,exT 11 1 7,asL 5 5 10,asL 6 6 11]
def zCd:SL:= [mvV 12 6,mvL 13 12,mgV 14 13 true 5,mgV 15 13 true 1,bgL 16 13 true .eql 14 15,pkF 17 13 16,asL 6 6 17]
def zCc:SL:= [⟨.v 18,none, .asg 18 (.v 6)⟩]
def zCb:SL:= [mvV 19 0,nlC 20 19,fdL 21 1 20,ldN 22 21,bnI 23 .add 22 1,nlC 24 19,fdL 25 1 24,stL 25 23]
def zCa:SL:= [mvV 26 6,asL 4 6 26]
def a88:AFunc:=⟨2,[0,1,4,5,6,18],[.tmp 4],(sR zCf (sR zCe (.seq (sR zCd (sR zCc (cV 18 (.region zCb) .skip))) (sT zCa)))),false⟩
def zB9:SL:= [⟨.v 4,none, .allocL [.int .i64 0, .int .u64 0, .int .u64 0, .int .u64 0, .int .u64 0, .int .i64 0, .int .i64 0, .nils]⟩]
def zB8:SL:= [mvV 8 1,⟨.v 9,none, .len false (.l 8)⟩]
def zB7:SL:= [bxI 11 .eql 9 0,asL 10 10 11]
def zB6:SL:= [⟨.l 12,none, .build [.int .i64 0, .int .u64 0, .int .u64 0, .int .u64 0, .int .u64 0, .int .i64 0, .int .i64 0, .nils] []⟩,stV 8 4 12]
def zGG:SL:= [bxI 14 .eql 9 1,asL 13 13 14]
def zGF:SL:= [mvV 15 1,⟨.l 16,none, .iaddr 8 (.l 15) (.c (.int .i64 0))⟩,ldL 17 8 16,stV 8 4 17]
def zKv:SL:= [⟨.v 5,none, .asg 5 (.c .nils)⟩]
def zKu:SL:= [⟨.v 18,none, .asg 18 (.v 1)⟩,⟨.v 19,none, .len false (.v 18)⟩,asI 20 20 0]
def zmi:SL:= [⟨.v 21,none, .bin .lss (.v 20) (.v 19)⟩]
def znp:SL:= [⟨.l 22,none, .iaddr 8 (.v 18) (.v 20)⟩,ldL 23 8 22,⟨.v 7,none, .allocL [.int .i64 0, .int .u64 0, .int .u64 0, .int .u64 0, .int .u64 0, .int .i64 0, .int .i64 0, .nils]⟩,stV 8 7 23]
def ziu:SL:= [fdV 24 0 7,ldN 25 24,mvV 26 0,bvL 27 .eql 25 26]
def zit:SL:= [mvV 28 5,fdV 29 7 7,ldN 30 29,apL 31 8 28 30,asL 5 5 31]
def zis:SL:= [fdV 32 0 7,ldN 33 32,bnI 34 .neq 33 0,mvL 35 34,mgV 36 35 false 0,bgI 37 35 false .eql 36 5,pvT 38 35 37]
def zir:SL:= [mvV 39 5,ldV 40 8 7,⟨.l 41,none, .bslice false (.agg [.int .i64 0, .int .u64 0, .int .u64 0, .int .u64 0, .int .u64 0, .int .i64 0, .int .i64 0, .nils]) 1 [(0,(.l 40))]⟩,apL 42 8 39 41,asL 5 5 42]
def ziq:SL:= [bxI 43 .add 20 1,asL 20 20 43]
def a89l15:ACode:=(sR zmi (.seq (cV 21 .skip (.exit 1)) (.seq (.block 2 (sR znp (sR ziu (cV 27 (.region zit) (sR zis (cV 38 (.region zir) .skip)))))) (.region ziq))))
def zuL:SL:= [mvV 44 5,lnS 45 false 44,bvI 46 .lss 45 2]
def zuK:SL:= [mvV 47 0,mvV 48 5,clB 49 89 47 48,stV 8 4 49]
def zuJ:SL:= [mvV 50 0,mvV 51 5,⟨.l 52,none, .build [.int .i64 0, .int .u64 0, .int .u64 0, .int .u64 0, .int .u64 0, .int .i64 0, .int .i64 0, .nils] [(0,1,(.l 50)),(7,1,(.l 51))]⟩,stV 8 4 52]
def a89:AFunc:=⟨2,[0,1,4,5,7,9,10,13,18,19,20,21,27,38,46],[.cell 4 (some 8)],(sR zB9 (.seq (sR zB8 (.block 0 (sR zB7 (cV 10 (sT zB6) (sR zGG (cV 13 (sT zGF) .skip)))))) (sR zKv (.seq (sR zKu (bL 1 a89l15)) (.seq (sR zuL (cV 46 (sT zuK) .skip)) (sT zuJ)))))),true⟩
def zKF:SL:= [bxV 1 0,asB 2 2 false]
def zKE:SL:= [ldV 3 8 1,⟨.l 4,none, .call 65 [.pl (.l 3), .pl (.c (.int .i64 (-1))), .pl (.c (.int .i64 1))]⟩,asL 2 2 4]
def a81:AFunc:=⟨1,[0,1,2],[.tmp 2],(sR zKF (sT zKE)),true⟩
def zGU:SL:= [bxV 1 0,asI 2 2 0]
def zGT:SL:= [asI 3 3 0]
def zGS:SL:= [fdV 6 7 1,⟨.v 7,none, .load none (.l 6)⟩,⟨.v 8,none, .len false (.v 7)⟩,asI 9 9 0]
def zCj:SL:= [⟨.v 10,none, .bin .lss (.v 9) (.v 8)⟩]
def zGR:SL:= [⟨.l 11,none, .iaddr 8 (.v 7) (.v 9)⟩,ldL 12 8 11,⟨.v 5,none, .allocL [.int .i64 0, .int .u64 0, .int .u64 0, .int .u64 0, .int .u64 0, .int .i64 0, .int .i64 0, .nils]⟩,stV 8 5 12]
def zGQ:SL:= [mvV 13 3,ldV 14 8 5,clA 15 82 14,bnL 16 .add 13 15,asL 3 3 16]
def zGP:SL:= [mvV 17 3,bvI 18 .gtr 17 500]
def zGO:SL:= [mvV 19 3,asL 2 3 19]
def zGN:SL:= [bxI 20 .add 9 1,asL 9 9 20]
def a82l9:ACode:=(sR zCj (.seq (cV 10 .skip (.exit 0)) (.seq (.block 1 (sR zGR (sR zGQ (sR zGP (cV 18 (sT zGO) .skip))))) (.region zGN))))
def zht:SL:= [fdV 21 0 1,⟨.v 22,none, .load none (.l 21)⟩]
def zhs:SL:= [bxI 24 .eql 22 1,asL 23 23 24]
def zhr:SL:= [bxI 25 .eql 22 2,asL 23 23 25]
def zhq:SL:= [bxI 26 .eql 22 3,asL 23 23 26]
def zhp:SL:= [asI 2 2 1]
def zho:SL:= [bxI 28 .eql 22 5,asL 27 27 28]
def zhn:SL:= [mvV 29 3,fdV 30 7 1,ldN 31 30,lnS 32 false 31,bnL 33 .add 29 32,bnI 34 .sub 33 1,asL 2 2 34]
def zhm:SL:= [bxI 36 .eql 22 6,asL 35 35 36]
def zhl:SL:= [fdV 37 6 1,ldN 38 37,bvI 39 .lss 38 0]
def zhk:SL:= [fdV 40 5 1,ldN 41 40,mvV 42 3,bnL 43 .mul 41 42,mvV 44 3,bnL 45 .add 43 44,bnI 46 .add 45 1,asL 2 2 46]
def zhj:SL:= [fdV 47 5 1,ldN 48 47,mvV 49 3,bnL 50 .mul 48 49,fdV 51 6 1,ldN 52 51,fdV 53 5 1,ldN 54 53,bnL 55 .sub 52 54,mvV 56 3,bnI 57 .add 56 1,bnL 58 .mul 55 57,bnL 59 .add 50 58,asL 2 2 59]
def zhi:SL:= [mvV 60 3,asL 2 3 60]
def a82:AFunc:=⟨1,[0,1,2,3,5,7,8,9,10,18,22,23,27,35,39],[.tmp 2],(sR zGU (sR zGT (.seq (sR zGS (bL 0 a82l9)) (.seq (sR zht (.block 2 (.seq (sR zhs (.cond false (.v 23) .skip (sR zhr (.cond false (.v 23) .skip (.region zhq))))) (.cond false (.v 23) (sT zhp) (sR zho (cV 27 (sT zhn) (sR zhm (cV 35 (.seq (sR zhl (cV 39 (sT zhk) .skip)) (sT zhj)) .skip)))))))) (sT zhi))))),true⟩
def ztp:SL:= [bxV 4 1,asI 6 6 0]
def zto:SL:= [fdV 10 6 4,ldN 11 10,bvI 12 .lss 11 0]
def ztn:SL:= [mvV 13 0,mvV 14 2,⟨.l 15,none, .build [.int .i64 0, .int .u64 0, .int .u64 0, .int .u64 0, .int .u64 0, .int .i64 0, .int .i64 0] [(0,1,(.c (.int .i64 3))),(6,1,(.l 14))]⟩,clB 16 58 13 15,asL 7 7 16]
def ztm:SL:= [mvV 17 0,fdV 18 7 4,ldN 19 18,⟨.l 20,none, .iaddr 8 (.l 19) (.c (.int .i64 0))⟩,ldL 21 8 20,mvV 22 7,clC 23 59 17 21 22,asL 8 8 23]
def ztl:SL:= [mvV 24 0,nlC 25 24,fdL 26 0 25,ldN 27 26,mvV 28 7,mvV 29 8,ixL 30 7 27 28,fdL 31 5 30,stL 31 29]
def ztk:SL:= [mvV 32 7,asL 2 2 32]
def ztj:SL:= [mvV 33 2,asL 9 9 33]
def zti:SL:= [fdV 34 6 4,ldN 35 34,fdV 36 5 4,ldN 37 36,bvL 38 .sub 35 37,asI 39 39 0]
def zpt:SL:= [⟨.v 40,none, .bin .lss (.v 39) (.v 38)⟩]
def zps:SL:= [mvV 41 0,mvV 42 0,fdV 43 7 4,ldN 44 43,⟨.l 45,none, .iaddr 8 (.l 44) (.c (.int .i64 0))⟩,ldL 46 8 45,mvV 47 2,clC 48 59 42 46 47,mvV 49 9,⟨.l 50,none, .build [.int .i64 0, .int .u64 0, .int .u64 0, .int .u64 0, .int .u64 0, .int .i64 0, .int .i64 0] [(0,1,(.c (.int .i64 3))),(5,1,(.l 48)),(6,1,(.l 49))]⟩,clB 51 58 41 50,asL 2 2 51]
def zjB:SL:= [bxI 52 .add 39 1,asL 39 39 52]
def a83l11:ACode:=(sR zpt (.seq (cV 40 .skip (.exit 0)) (.seq (.block 1 (.region zps)) (.region zjB))))
def zmk:SL:= [fdV 53 5 4,⟨.v 54,none, .load none (.l 53)⟩,asI 55 55 0]
def zjA:SL:= [⟨.v 56,none, .bin .lss (.v 55) (.v 54)⟩]
def zjz:SL:= [mvV 57 0,fdV 58 7 4,ldN 59 58,⟨.l 60,none, .iaddr 8 (.l 59) (.c (.int .i64 0))⟩,ldL 61 8 60,mvV 62 2,clC 63 59 57 61 62,asL 2 2 63]
def zjy:SL:= [bxI 64 .add 55 1,asL 55 55 64]
def a83l16:ACode:=(sR zjA (.seq (cV 56 .skip (.exit 2)) (.seq (.block 3 (.region zjz)) (.region zjy))))
def zmj:SL:= [mvV 65 2,asL 6 2 65]
def a83:AFunc:=⟨3,[0,1,2,4,6,7,8,9,12,38,39,40,54,55,56],[.tmp 6],(sR ztp (.seq (sR zto (cV 12 (sR ztn (sR ztm (sR ztl (.region ztk)))) .skip)) (sR ztj (.seq (sR zti (bL 0 a83l11)) (.seq (sR zmk (bL 2 a83l16)) (sT zmj)))))),false⟩
def zKr:SL:= [asB 4 4 false]
def zKq:SL:= [mvV 5 0,mvV 6 1,clB 7 100 5 6,bnI 8 .geq 7 0,asL 4 4 8]
def a91:AFunc:=⟨2,[0,1,4],[.tmp 4],(sR zKr (sT zKq)),false⟩
def zKt:SL:= [bxV 3 0,asB 4 4 false]
def zKs:SL:= [ldV 5 8 3,fdV 6 0 1,ldN 7 6,⟨.l 8,none, .load none (.v 2)⟩,bnI 9 .add 8 1,clC 10 65 5 7 9,⟨.l 11,none, .un .not (.l 10)⟩,asL 4 4 11]
def a90:AFunc:=⟨3,[0,1,2,3,4],[.tmp 4],(sR zKt (sT zKs)),true⟩
def zLC:SL:= [asI 6 6 0]
def zLB:SL:= [⟨.v 7,none, .allocH [.int .i64 0]⟩,⟨.no,none, .store none (.v 7) (.c (.int .i64 (-1)))⟩]
def zLA:SL:= [mvV 8 0,mvV 9 1,mvV 10 2,⟨.l 11,none, .mkfn 60 [(.v 7)]⟩,⟨.l 12,none, .call 37 [.pl (.l 8), .pl (.l 9), .pl (.l 10), .pl (.l 11)]⟩]
def zLz:SL:= [⟨.l 13,none, .load none (.v 7)⟩,asL 6 6 13]
def a35:AFunc:=⟨3,[0,1,2,6,7],[.tmp 6],(sR zLC (sR zLB (sR zLA (sT zLz)))),true⟩
def zdp:SL:= [⟨.v 4,none, .allocL [.int .i64 0, .int .u64 0, .int .u64 0, .int .u64 0, .int .u64 0, .int .i64 0, .int .i64 0, .nils]⟩]
def zdq:Plan:=(.seq 0 (mvV 12 0) (.seq 1 (nlC 13 12) (.seq 2 (fdL 14 1 13) (.seq 4 (mvV 16 0) (.alt 3 (ldN 15 14) (.one 5 (clA 17 93 16) (.seq 6 (asL 5 5 15) (.seq 7 (asL 6 6 17) .fin))) (.one 5 (clA 17 93 16) (.seq 3 (ldN 15 14) (.seq 6 (asL 5 5 15) (.seq 7 (asL 6 6 17) .fin)))))))))
def zdo:SL:= [mvV 18 6,bnI 19 .eql 18 42,mvL 20 19,mgV 21 20 false 6,bgI 22 20 false .eql 21 43,pkT 23 20 22,mvL 24 23,mgV 25 24 false 6,bgI 26 24 false .eql 25 63,pkT 27 24 26,mvL 28 27,mgV 29 28 false 6,bgI 30 28 false .eql 29 123,pvT 31 28 30]
def zdn:SL:= [mvV 32 0,mvV 33 5,clI 34 107 32 33 50]
def zdm:SL:= [⟨.l 35,none, .build [.int .i64 0, .int .u64 0, .int .u64 0, .int .u64 0, .int .u64 0, .int .i64 0, .int .i64 0, .nils] []⟩,stV 8 4 35]
def zdl:SL:= [mvV 36 6,bvI 37 .eql 36 41]
def zdk:SL:= [mvV 38 0,mvV 39 5,clI 40 107 38 39 4]
def zdj:SL:= [⟨.l 41,none, .build [.int .i64 0, .int .u64 0, .int .u64 0, .int .u64 0, .int .u64 0, .int .i64 0, .int .i64 0, .nils] []⟩,stV 8 4 41]
def zdJ:SL:= [mvV 42 6,bvI 43 .eql 42 91]
def zdI:SL:= [mvV 45 0,nlC 46 45,fdL 47 0 46,ldN 48 47,mvV 49 5,clB 50 108 48 49,mvL 44 50,exT 51 0 44,exT 52 1 44,exT 53 2 44,⟨.v 7,none, .allocL [.int .u64 0, .int .u64 0, .int .u64 0, .int .u64 0]⟩,stV 4 7 51,asL 8 8 52,asL 9 9 53]
def zcA:SL:= [mvV 54 9,bvI 55 .neq 54 0]
def zcz:SL:= [mvV 56 0,mvV 57 5,mvV 58 9,clC 59 107 56 57 58]
def zcy:SL:= [mvV 60 0,mvV 61 8,nlC 62 60,fdL 63 1 62,stL 63 61]
def zcx:SL:= [ldV 64 4 7,⟨.l 65,none, .build [.int .i64 0, .int .u64 0, .int .u64 0, .int .u64 0, .int .u64 0, .int .i64 0, .int .i64 0, .nils] [(0,1,(.c (.int .i64 1))),(1,4,(.l 64))]⟩,stV 8 4 65]
def zcw:SL:= [mvV 66 0,nlC 67 66,fdL 68 1 67,ldN 69 68,bnI 70 .add 69 1,nlC 71 66,fdL 72 1 71,stL 72 70]
def zcv:SL:= [mvV 73 6,bvI 74 .eql 73 40]
def zcu:SL:= [mvV 75 1,bvI 76 .geq 75 20]
def zct:SL:= [mvV 77 0,mvV 78 5,clI 79 107 77 78 2]
def zcs:SL:= [⟨.l 80,none, .build [.int .i64 0, .int .u64 0, .int .u64 0, .int .u64 0, .int .u64 0, .int .i64 0, .int .i64 0, .nils] []⟩,stV 8 4 80]
def zcr:SL:= [mvV 81 0,mvV 82 1,bnI 83 .add 82 1,clB 84 69 81 83,⟨.v 10,none, .allocL [.int .i64 0, .int .u64 0, .int .u64 0, .int .u64 0, .int .u64 0, .int .i64 0, .int .i64 0, .nils]⟩,stV 8 10 84]
def zcq:SL:= [mvV 85 0,clA 86 93 85,bvI 87 .neq 86 41]
def zcp:SL:= [mvV 88 0,mvV 89 0,nlC 90 89,fdL 91 1 90,ldN 92 91,clI 93 107 88 92 3]
def zco:SL:= [mvV 94 0,nlC 95 94,fdL 96 1 95,ldN 97 96,bnI 98 .add 97 1,nlC 99 94,fdL 100 1 99,stL 100 98]
def zcn:SL:= [ldV 101 8 10,stV 8 4 101]
def zcm:SL:= [mvV 102 6,bvI 103 .eql 102 92]
def zcl:SL:= [mvV 104 0,clA 105 93 104,asL 11 11 105]
def zck:SL:= [mvV 106 11,bvI 107 .lss 106 0]
def zcj:SL:= [mvV 108 0,mvV 109 0,nlC 110 109,fdL 111 1 110,ldN 112 111,clI 113 107 108 112 3]
def zci:SL:= [⟨.l 114,none, .build [.int .i64 0, .int .u64 0, .int .u64 0, .int .u64 0, .int .u64 0, .int .i64 0, .int .i64 0, .nils] []⟩,stV 8 4 114]
def zch:SL:= [mvV 115 0,nlC 116 115,fdL 117 1 116,ldN 118 117,bnI 119 .add 118 1,nlC 120 115,fdL 121 1 120,stL 121 119]
def zcg:SL:= [mvV 122 11,bvI 123 .eql 122 110]
def zcf:SL:= [asI 11 11 10]
def zce:SL:= [mvV 124 11,bvI 125 .eql 124 116]
def zcd:SL:= [asI 11 11 9]
def zcc:SL:= [mvV 126 11,clA 127 109 126,stV 8 4 127]
def zcb:SL:= [mvV 128 6,bvI 129 .eql 128 46]
def zca:SL:= [⟨.l 130,none, .call 110 []⟩,⟨.l 131,none, .build [.int .i64 0, .int .u64 0, .int .u64 0, .int .u64 0, .int .u64 0, .int .i64 0, .int .i64 0, .nils] [(0,1,(.c (.int .i64 1))),(1,4,(.l 130))]⟩,stV 8 4 131]
def zb9:SL:= [mvV 132 6,bvI 133 .eql 132 94]
def zb8:SL:= [⟨.l 134,none, .build [.int .i64 0, .int .u64 0, .int .u64 0, .int .u64 0, .int .u64 0, .int .i64 0, .int .i64 0, .nils] [(0,1,(.c (.int .i64 2)))]⟩,stV 8 4 134]
def zb7:SL:= [mvV 135 6,bvI 136 .eql 135 36]
def zb6:SL:= [⟨.l 137,none, .build [.int .i64 0, .int .u64 0, .int .u64 0, .int .u64 0, .int .u64 0, .int .i64 0, .int .i64 0, .nils] [(0,1,(.c (.int .i64 3)))]⟩,stV 8 4 137]
def zb5:SL:= [mvV 138 6,clA 139 109 138,stV 8 4 139]
def a101:AFunc:=⟨2,[0,1,4,5,6,7,8,9,10,11,31,37,43,55,74,76,87,103,107,123,125,129,133,136],[.cell 4 (some 8)],(sR zdp (.seq (.draw zdq) (.seq (sR zdo (cV 31 (sR zdn (sT zdm)) .skip)) (.seq (sR zdl (cV 37 (sR zdk (sT zdj)) .skip)) (.seq (sR zdJ (cV 43 (sR zdI (.seq (sR zcA (cV 55 (.region zcz) .skip)) (sR zcy (sT zcx)))) .skip)) (sR zcw (.seq (sR zcv (cV 74 (.seq (sR zcu (cV 76 (sR zct (sT zcs)) .skip)) (sR zcr (.seq (sR zcq (cV 87 (.region zcp) .skip)) (sR zco (sT zcn))))) .skip)) (.seq (sR zcm (cV 103 (sR zcl (.seq (sR zck (cV 107 (sR zcj (sT zci)) .skip)) (sR zch (.seq (sR zcg (cV 123 (.region zcf) .skip)) (.seq (sR zce (cV 125 (.region zcd) .skip)) (sT zcc)))))) .skip)) (.seq (sR zcb (cV 129 (sT zca) .skip)) (.seq (sR zb9 (cV 133 (sT zb8) .skip)) (.seq (sR zb7 (cV 136 (sT zb6) .skip)) (sT zb5)))))))))))),false⟩
def zAf:SL:= [bxV 3 1,⟨.v 4,none, .allocL [.int .i64 0, .int .u64 0, .int .u64 0, .int .u64 0, .int .u64 0, .int .i64 0, .int .i64 0, .nils]⟩]
def zf0:SL:= [mvV 8 0,nlC 9 8,fdL 10 1 9,ldN 11 10,asL 5 5 11,asI 6 6 0,asI 7 7 (-1)]
def zfZ:SL:= [mvV 12 0,⟨.v 13,none, .call 93 [.pl (.l 12)]⟩]
def zfY:SL:= [bxI 16 .eql 13 42,asL 15 15 16]
def zfX:SL:= [mvV 17 0,nlC 18 17,fdL 19 1 18,ldN 20 19,bnI 21 .add 20 1,nlC 22 17,fdL 23 1 22,stL 23 21]
def zfW:SL:= [bxI 25 .eql 13 43,asL 24 24 25]
def zfV:SL:= [mvV 26 0,nlC 27 26,fdL 28 1 27,ldN 29 28,bnI 30 .add 29 1,nlC 31 26,fdL 32 1 31,stL 32 30]
def zfU:SL:= [asI 6 6 1]
def zfT:SL:= [bxI 34 .eql 13 63,asL 33 33 34]
def zfS:SL:= [mvV 35 0,nlC 36 35,fdL 37 1 36,ldN 38 37,bnI 39 .add 38 1,nlC 40 35,fdL 41 1 40,stL 41 39]
def zei:SL:= [asI 7 7 1]
def zeh:SL:= [bxI 43 .eql 13 123,asL 42 42 43]
def zeg:SL:= [mvV 44 0,nlC 45 44,fdL 46 1 45,ldN 47 46,bnI 48 .add 47 1,nlC 49 44,fdL 50 1 49,stL 50 48]
def zef:SL:= [mvV 51 0,clA 52 111 51,asL 6 6 52]
def zee:SL:= [mvV 53 6,asL 7 7 53]
def zed:SL:= [mvV 54 6,bnI 55 .geq 54 0,mvL 56 55,mgV 57 56 true 0,⟨.l 58,some (.l 56,true), .call 93 [.pl (.l 57)]⟩,bgI 59 56 true .eql 58 44,pvF 60 56 59]
def zec:SL:= [mvV 61 0,nlC 62 61,fdL 63 1 62,ldN 64 63,bnI 65 .add 64 1,nlC 66 61,fdL 67 1 66,stL 67 65]
def zeb:SL:= [mvV 68 0,clA 69 93 68,bvI 70 .eql 69 125]
def zea:SL:= [asI 7 7 (-1)]
def zd9:SL:= [mvV 71 0,clA 72 111 71,asL 7 7 72]
def zd8:SL:= [mvV 73 7,mvV 74 6,bvL 75 .lss 73 74]
def zd7:SL:= [asI 6 6 (-1)]
def zd6:SL:= [mvV 76 6,bnI 77 .lss 76 0,mvL 78 77,mgV 79 78 false 0,⟨.l 80,some (.l 78,false), .call 93 [.pl (.l 79)]⟩,bgI 81 78 false .neq 80 125,pvT 82 78 81]
def zd5:SL:= [mvV 83 0,mvV 84 5,clI 85 107 83 84 50]
def zd4:SL:= [ldV 86 8 3,stV 8 4 86]
def zd3:SL:= [mvV 87 0,nlC 88 87,fdL 89 1 88,ldN 90 89,bnI 91 .add 90 1,nlC 92 87,fdL 93 1 92,stL 93 91]
def zd2:SL:= [ldV 14 8 3,stV 8 4 14]
def zd1:SL:= [mvV 94 6,mvV 95 7,ldV 96 8 3,⟨.l 97,none, .bslice false (.agg [.int .i64 0, .int .u64 0, .int .u64 0, .int .u64 0, .int .u64 0, .int .i64 0, .int .i64 0, .nils]) 1 [(0,(.l 96))]⟩,⟨.l 98,none, .build [.int .i64 0, .int .u64 0, .int .u64 0, .int .u64 0, .int .u64 0, .int .i64 0, .int .i64 0, .nils] [(0,1,(.c (.int .i64 6))),(5,1,(.l 94)),(6,1,(.l 95)),(7,1,(.l 97))]⟩,stV 8 3 98]
def a102l28:ACode:=(.block 1 (sR zf0 (.seq (sR zfZ (.block 2 (sR zfY (cV 15 (.region zfX) (sR zfW (cV 24 (sR zfV (.region zfU)) (sR zfT (cV 33 (sR zfS (.region zei)) (sR zeh (cV 42 (sR zeg (sR zef (sR zee (.seq (sR zed (cV 60 (sR zec (sR zeb (cV 70 (.region zea) (sR zd9 (sR zd8 (cV 75 (.region zd7) .skip)))))) .skip)) (.seq (sR zd6 (cV 82 (sR zd5 (sT zd4)) .skip)) (.region zd3)))))) (sT zd2))))))))))) (.region zd1))))
def a102:AFunc:=⟨2,[0,1,3,4,5,6,7,13,15,24,33,42,60,70,75,82],[.cell 4 (some 8)],(sR zAf (bL 0 a102l28)),false⟩
def zGr:SL:= [⟨.v 2,none, .asg 2 (.c (.int .u8 0))⟩,asB 3 3 false]
def zGt:Plan:=(.seq 0 (mvV 4 0) (.seq 1 (nlC 5 4) (.seq 2 (fdL 6 1 5) (.seq 3 (ldN 7 6) (.seq 4 (mvV 8 0) (.seq 5 (nlC 9 8) (.seq 6 (fdL 10 0 9) (.seq 7 (ldN 11 10) (.seq 8 (lnS 12 true 11) (.seq 9 (bvL 13 .eql 7 12) .fin))))))))))
def zGq:SL:= [⟨.v 2,none, .asg 2 (.c (.int .u8 0))⟩,asB 3 3 false]
def zGs:Plan:=(.seq 0 (mvV 14 0) (.seq 1 (nlC 15 14) (.seq 2 (fdL 16 0 15) (.seq 3 (ldN 17 16) (.seq 4 (mvV 18 0) (.seq 5 (nlC 19 18) (.seq 6 (fdL 20 1 19) (.seq 7 (ldN 21 20) (.seq 8 ⟨.l 22,none, .sidx (.l 17) (.l 21)⟩ (.seq 9 (asL 2 2 22) (.seq 10 (asB 3 3 true) .fin)))))))))))
def a98:AFunc:=⟨1,[0,2,3,13],[.tmp 2, .tmp 3],(sR zGr (.seq (.seq (.draw zGt) (cV 13 (sT zGq) .skip)) (.seq (.draw zGs) .ret))),true⟩
def zGp:SL:= [⟨.v 4,none, .allocL [.int .i64 0, .int .u64 0, .int .u64 0, .int .u64 0, .int .u64 0, .int .i64 0, .int .i64 0, .nils]⟩]
def zGo:SL:= [mvV 9 0,mvV 10 1,clB 11 105 9 10,⟨.v 5,none, .allocL [.int .i64 0, .int .u64 0, .int .u64 0, .int .u64 0, .int .u64 0, .int .i64 0, .int .i64 0, .nils]⟩,stV 8 5 11]
def zth:SL:= [mvV 12 0,nlC 13 12,fdL 14 1 13,ldN 15 14,asL 6 6 15]
def ztg:SL:= [asI 7 7 0,asI 8 8 (-1)]
def ztf:SL:= [mvV 18 0,⟨.l 19,none, .call 88 [.pl (.l 18), .pl (.c (.int .u8 42))]⟩,asL 17 17 19]
def zte:SL:= [mvV 21 0,⟨.l 22,none, .call 88 [.pl (.l 21), .pl (.c (.int .u8 43))]⟩,asL 20 20 22]
def ztd:SL:= [asI 7 7 1]
def ztc:SL:= [mvV 24 0,⟨.l 25,none, .call 88 [.pl (.l 24), .pl (.c (.int .u8 63))]⟩,asL 23 23 25]
def ztb:SL:= [asI 8 8 1]
def zta:SL:= [mvV 27 0,⟨.l 28,none, .call 88 [.pl (.l 27), .pl (.c (.int .u8 123))]⟩,asL 26 26 28]
def zmh:SL:= [mvV 30 0,mvV 31 6,clB 32 106 30 31,mvL 29 32,exT 33 0 29,exT 34 1 29,asL 7 7 33,asL 8 8 34]
def zmg:SL:= [ldV 16 8 5,stV 8 4 16]
def zmf:SL:= [mvV 35 7,mvV 36 8,ldV 37 8 5,⟨.l 38,none, .bslice false (.agg [.int .i64 0, .int .u64 0, .int .u64 0, .int .u64 0, .int .u64 0, .int .i64 0, .int .i64 0, .nils]) 1 [(0,(.l 37))]⟩,⟨.l 39,none, .build [.int .i64 0, .int .u64 0, .int .u64 0, .int .u64 0, .int .u64 0, .int .i64 0, .int .i64 0, .nils] [(0,1,(.c (.int .i64 6))),(5,1,(.l 35)),(6,1,(.l 36)),(7,1,(.l 38))]⟩,stV 8 5 39]
def a99l13:ACode:=(.block 1 (sR zth (sR ztg (.seq (.block 2 (sR ztf (cV 17 .skip (sR zte (cV 20 (.region ztd) (sR ztc (cV 23 (.region ztb) (sR zta (cV 26 (.region zmh) (sT zmg)))))))))) (.region zmf)))))
def a99:AFunc:=⟨2,[0,1,4,5,6,7,8,17,20,23,26],[.cell 4 (some 8)],(sR zGp (sR zGo (bL 0 a99l13))),false⟩
def zEP:SL:= [asI 4 4 0]
def zEO:SL:= [mvV 6 0,⟨.v 7,none, .len false (.l 6)⟩,asI 8 8 0]
def zu9:SL:= [⟨.v 9,none, .bin .lss (.v 8) (.v 7)⟩]
def zAj:SL:= [mvV 10 8,asL 5 5 10]
def zAi:SL:= [mvV 11 1,mvV 12 0,mvV 13 5,ixL 14 8 12 13,ldL 15 8 14,⟨.v 16,none, .callv (.l 11) [.pl (.l 15)]⟩]
def zAh:SL:= [mvV 17 5,asL 4 5 17]
def zAg:SL:= [bxI 18 .add 8 1,asL 8 8 18]
def a100l7:ACode:=(sR zu9 (.seq (cV 9 .skip (.exit 0)) (.seq (.block 1 (sR zAj (sR zAi (cV 16 (sT zAh) .skip)))) (.region zAg))))
def zEN:SL:= [asI 4 4 (-1)]
def a100:AFunc:=⟨2,[0,1,4,5,7,8,9,16],[.tmp 4],(sR zEP (.seq (sR zEO (bL 0 a100l7)) (sT zEN))),false⟩
def zHt:SL:= [mvV 14 2,bnI 15 .lss 14 0,mvL 16 15,mgV 17 16 false 2,mgV 18 16 false 1,lgS 19 16 false true 18,bgL 20 16 false .gtr 17 19,pvT 21 16 20]
def zHs:SL:= [mvV 22 0,mvV 23 1,mvV 24 0,nlC 25 24,fdL 26 0 25,ldN 27 26,lnS 28 false 27,⟨.l 29,none, .mslice true (.int .i64 0) (.l 28) (.l 28)⟩,⟨.l 30,none, .build [.nilp, .str [], .nils, .int .i64 0] [(0,1,(.l 22)),(1,1,(.l 23)),(2,1,(.l 29)),(3,1,(.c (.int .i64 1)))]⟩,⟨.l 31,none, .boxH (.l 30)⟩,asL 8 8 31]
def zHr:SL:= [mvV 32 8,mvV 33 0,nlC 34 33,fdL 35 1 34,ldN 36 35,mvV 37 2,⟨.l 38,none, .call 61 [.pl (.l 32), .pl (.c .nils), .pl (.l 36), .pl (.l 37)]⟩,asL 9 9 38]
def zHq:SL:= [mvV 39 9,lnS 40 false 39,bvI 41 .gtr 40 0]
def zLy:SL:= [⟨.v 10,none, .asg 10 (.c .nils)⟩]
def zLx:SL:= [mvV 44 8,nlC 45 44,fdL 46 3 45,ldN 47 46,bnI 48 .add 47 1,nlC 49 44,fdL 50 3 49,stL 50 48]
def zLw:SL:= [⟨.v 51,none, .asg 51 (.v 9)⟩,⟨.v 52,none, .len false (.v 51)⟩,asI 53 53 0]
def znt:SL:= [⟨.v 54,none, .bin .lss (.v 53) (.v 52)⟩]
def zpA:SL:= [⟨.l 55,none, .iaddr 0 (.v 51) (.v 53)⟩,ldN 56 55,asL 12 12 56]
def zpz:SL:= [mvV 57 0,nlC 58 57,fdL 59 0 58,ldN 60 59,mvV 61 12,ixL 62 7 60 61,ldL 63 7 62,⟨.v 13,none, .allocL [.int .i64 0, .int .u64 0, .int .u64 0, .int .u64 0, .int .u64 0, .int .i64 0, .int .i64 0]⟩,stV 7 13 63]
def zjK:SL:= [fdV 65 0 13,ldN 66 65,bnI 67 .eql 66 4,asL 64 64 67]
def zjJ:SL:= [mvV 68 3,mvV 69 2,⟨.l 70,none, .callv (.l 68) [.pl (.l 69)]⟩]
def zjL:Plan:=(.seq 0 (mvV 72 2) (.seq 1 (mvV 73 1) (.seq 2 (lnS 74 true 73) (.seq 3 (bnL 75 .lss 72 74) (.seq 4 (mvL 76 75) (.seq 5 (fdG 77 76 true 1 13) (.seq 6 ⟨.l 78,some (.l 76,true), .load (some 4) (.l 77)⟩ (.seq 7 (mgV 79 76 true 1) (.seq 8 (mgV 80 76 true 2) (.seq 9 ⟨.l 81,some (.l 76,true), .sidx (.l 79) (.l 80)⟩ (.one 10 ⟨.l 82,some (.l 76,true), .call 62 [.pl (.l 78), .pl (.l 81)]⟩ (.seq 11 (pkF 83 76 82) (.seq 12 (asL 71 71 83) .fin)))))))))))))
def zjI:SL:= [mvV 84 8,mvV 85 10,fdV 86 5 13,ldN 87 86,mvV 88 2,bnI 89 .add 88 1,⟨.l 90,none, .call 61 [.pl (.l 84), .tk (.l 85), .pl (.l 87), .pl (.l 89)]⟩,asL 10 10 90]
def zjH:SL:= [bxI 91 .add 53 1,asL 53 53 91]
def a37l15:ACode:=(sR znt (.seq (cV 54 .skip (.exit 2)) (.seq (.block 3 (sR zpA (sR zpz (.block 4 (sR zjK (cV 64 (.region zjJ) (.seq (.draw zjL) (cV 71 (.region zjI) .skip)))))))) (.region zjH))))
def zy7:SL:= [mvV 92 10,asL 9 9 92]
def zy6:SL:= [mvV 42 2,bnI 43 .add 42 1,asL 2 2 43]
def a37l18:ACode:=(.seq (sR zHq (cV 41 .skip (.exit 0))) (.seq (.block 1 (sR zLy (sR zLx (.seq (sR zLw (bL 2 a37l15)) (.region zy7))))) (.region zy6)))
def a37:AFunc:=⟨4,[0,1,2,3,8,9,10,12,13,21,41,51,52,53,54,64,71],[],(.seq (sR zHt (cV 21 .ret .skip)) (sR zHs (sR zHr (bL 0 a37l18)))),false⟩
def zLi:SL:= [mvV 3 0,⟨.no,none, .store none (.v 1) (.l 3)⟩]
def a60:AFunc:=⟨2,[0,1],[],(.region zLi),false⟩
def zAd:SL:= [mvV 6 0,nlC 7 6,fdL 8 3 7,ldN 9 8,bvI 10 .eql 9 0]
def zAc:SL:= [mvV 11 0,mvV 12 0,mvV 13 1,mvV 14 2,nlC 15 11,fdL 16 2 15,stL 16 13,nlC 17 12,fdL 18 3 17,stL 18 14]
def a107:AFunc:=⟨3,[0,1,2,10],[],(sR zAd (cV 10 (.region zAc) .skip)),false⟩
def zAb:SL:= [⟨.v 4,none, .allocL [.int .u64 0, .int .u64 0, .int .u64 0, .int .u64 0]⟩,asI 5 5 0,asI 6 6 0]
def zAa:SL:= [mvV 19 1,bnI 20 .lss 19 0,mvL 21 20,mgV 22 21 false 1,mgV 23 21 false 0,lgS 24 21 false true 23,bgL 25 21 false .geq 22 24,pkT 26 21 25,mvL 27 26,mgV 28 27 false 0,mgV 29 27 false 1,⟨.l 30,some (.l 27,false), .sidx (.l 28) (.l 29)⟩,⟨.l 31,some (.l 27,false), .bin .neq (.l 30) (.c (.int .u8 91))⟩,pvT 32 27 31]
def zz7:SL:= [⟨.l 33,none, .build [.int .u64 0, .int .u64 0, .int .u64 0, .int .u64 0] []⟩,stV 4 4 33,asI 5 5 0,asI 6 6 1]
def zz4:SL:= [mvV 34 1,bnI 35 .add 34 1,asL 1 1 35]
def zz2:SL:= [mvV 36 0,mvV 37 1,clB 38 119 36 37,bnI 39 .eql 38 94,asL 7 7 39]
def zz1:SL:= [⟨.v 40,none, .asg 40 (.v 7)⟩]
def zz0:SL:= [mvV 41 1,bnI 42 .add 41 1,asL 1 1 42]
def zzZ:SL:= [⟨.l 43,none, .build (List.replicate 256 (.bool false)) []⟩,⟨.v 8,none, .allocL (List.replicate 256 (.bool false))⟩,stV 256 8 43]
def zzY:SL:= [asB 9 9 true]
def zrK:SL:= [mvV 44 9,mvL 45 44,mgV 46 45 false 0,mgV 47 45 false 1,⟨.l 48,some (.l 45,false), .call 119 [.pl (.l 46), .pl (.l 47)]⟩,bgI 49 45 false .neq 48 93,pvT 50 45 49]
def zm6:SL:= [mvV 51 0,mvV 52 1,clB 53 119 51 52,bnI 54 .eql 53 91,mvL 55 54,mgV 56 55 true 0,mgV 57 55 true 1,bgI 58 55 true .add 57 1,⟨.l 59,some (.l 55,true), .call 119 [.pl (.l 56), .pl (.l 58)]⟩,bgI 60 55 true .eql 59 58,pvF 61 55 60]
def zz9:SL:= [mvV 62 1,bnI 63 .add 62 2,asL 10 10 63]
def zm5:SL:= [mvV 64 10,mvV 65 0,lnS 66 true 65,bnL 67 .lss 64 66,mvL 68 67,mgV 69 68 true 0,mgV 70 68 true 10,⟨.l 71,some (.l 68,true), .call 119 [.pl (.l 69), .pl (.l 70)]⟩,bgI 72 68 true .eql 71 58,mgL 73 68 true 72,mgV 74 73 true 0,mgV 75 73 true 10,bgI 76 73 true .add 75 1,⟨.l 77,some (.l 73,true), .call 119 [.pl (.l 74), .pl (.l 76)]⟩,bgI 78 73 true .eql 77 93,pgF 79 68 true 73 78,⟨.l 80,some (.l 68,true), .un .not (.l 79)⟩,pvF 81 68 80]
def zm4:SL:= [mvV 82 10,bnI 83 .add 82 1,asL 10 10 83]
def a108l14:ACode:=(.seq (sR zm5 (cV 81 .skip (.exit 2))) (.block 3 (.region zm4)))
def ztR:SL:= [mvV 84 10,mvV 85 0,lnS 86 true 85,bvL 87 .geq 84 86]
def ztQ:SL:= [⟨.l 88,none, .build [.int .u64 0, .int .u64 0, .int .u64 0, .int .u64 0] []⟩,stV 4 4 88,asI 5 5 0,asI 6 6 3]
def zz8:SL:= [asI 11 11 0]
def zm3:SL:= [mvV 89 11,bvI 90 .lss 89 256]
def zm2:SL:= [mvV 94 0,mvV 95 1,bnI 96 .add 95 2,mvV 97 10,⟨.l 98,none, .slice none (.l 94) (some (.l 96)) (some (.l 97))⟩,mvV 99 11,clB 100 120 98 99,mvL 93 100,exT 101 0 93,exT 102 1 93,asL 12 12 101,asL 13 13 102]
def zm1:SL:= [mvV 103 13,⟨.v 104,none, .un .not (.l 103)⟩]
def zm0:SL:= [⟨.l 105,none, .build [.int .u64 0, .int .u64 0, .int .u64 0, .int .u64 0] []⟩,stV 4 4 105,asI 5 5 0,asI 6 6 40]
def zmZ:SL:= [mvV 106 11,mvV 107 11,axV 108 256 0 8 107,ldN 109 108,mvL 110 109,mgV 111 110 false 12,pkT 112 110 111,axV 113 256 0 8 106,stL 113 112]
def zmY:SL:= [mvV 91 11,bnI 92 .add 91 1,asL 11 11 92]
def a108l24:ACode:=(.seq (sR zm3 (cV 90 .skip (.exit 4))) (.seq (.block 5 (sR zm2 (.seq (sR zm1 (cV 104 (sT zm0) .skip)) (.region zmZ)))) (.region zmY)))
def zz6:SL:= [mvV 114 10,bnI 115 .add 114 2,asL 1 1 115]
def ztP:SL:= [mvV 117 0,mvV 118 1,clB 119 121 117 118,mvL 116 119,exT 120 0 116,exT 121 1 116,asL 14 14 120,asL 15 15 121]
def ztO:SL:= [mvV 122 14,bvI 123 .lss 122 0]
def ztN:SL:= [⟨.l 124,none, .build [.int .u64 0, .int .u64 0, .int .u64 0, .int .u64 0] []⟩,stV 4 4 124,asI 5 5 0,asI 6 6 3]
def zz5:SL:= [mvV 125 14,asL 16 16 125]
def ziX:SL:= [mvV 126 0,mvV 127 15,clB 128 119 126 127,bnI 129 .eql 128 45,mvL 130 129,mgV 131 130 true 0,mgV 132 130 true 15,bgI 133 130 true .add 132 1,⟨.l 134,some (.l 130,true), .call 119 [.pl (.l 131), .pl (.l 133)]⟩,bgI 135 130 true .neq 134 93,pkF 136 130 135,mvL 137 136,mgV 138 137 true 0,mgV 139 137 true 15,bgI 140 137 true .add 139 1,⟨.l 141,some (.l 137,true), .call 119 [.pl (.l 138), .pl (.l 140)]⟩,bgI 142 137 true .eql 141 91,mgL 143 137 true 142,mgV 144 143 true 0,mgV 145 143 true 15,bgI 146 143 true .add 145 2,⟨.l 147,some (.l 143,true), .call 119 [.pl (.l 144), .pl (.l 146)]⟩,bgI 148 143 true .eql 147 58,pgF 149 137 true 143 148,⟨.l 150,some (.l 137,true), .un .not (.l 149)⟩,pvF 151 137 150]
def zpQ:SL:= [mvV 153 0,mvV 154 15,bnI 155 .add 154 1,clB 156 121 153 155,mvL 152 156,exT 157 0 152,exT 158 1 152,asL 16 16 157,asL 15 15 158]
def zpP:SL:= [mvV 159 16,bvI 160 .lss 159 0]
def zpO:SL:= [⟨.l 161,none, .build [.int .u64 0, .int .u64 0, .int .u64 0, .int .u64 0] []⟩,stV 4 4 161,asI 5 5 0,asI 6 6 3]
def ztM:SL:= [mvV 162 16,mvV 163 14,bvL 164 .lss 162 163]
def zz3:SL:= [⟨.l 165,none, .build [.int .u64 0, .int .u64 0, .int .u64 0, .int .u64 0] []⟩,stV 4 4 165,asI 5 5 0,asI 6 6 4]
def ztL:SL:= [mvV 166 14,asL 17 17 166]
def ztK:SL:= [mvV 167 17,mvV 168 16,bvL 169 .leq 167 168]
def ztJ:SL:= [mvV 172 17,axV 173 256 0 8 172,⟨.no,none, .store none (.l 173) (.c (.bool true))⟩]
def ztI:SL:= [mvV 170 17,bnI 171 .add 170 1,asL 17 17 171]
def a108l40:ACode:=(.seq (sR ztK (cV 169 .skip (.exit 6))) (.seq (.block 7 (.region ztJ)) (.region ztI)))
def ztH:SL:= [mvV 174 15,asL 1 1 174]
def zpN:SL:= [asB 9 9 false]
def a108l43:ACode:=(.seq (sR zrK (cV 50 .skip (.exit 0))) (.seq (.block 1 (.seq (sR zm6 (cV 61 (sR zz9 (.seq (bL 2 a108l14) (.seq (sR ztR (cV 87 (sT ztQ) .skip)) (.seq (sR zz8 (bL 4 a108l24)) (sR zz6 (.exit 1)))))) .skip)) (sR ztP (.seq (sR ztO (cV 123 (sT ztN) .skip)) (sR zz5 (.seq (sR ziX (cV 151 (sR zpQ (.seq (sR zpP (cV 160 (sT zpO) .skip)) (sR ztM (cV 164 (sT zz3) .skip)))) .skip)) (.seq (sR ztL (bL 6 a108l40)) (.region ztH)))))))) (.region zpN)))
def zpM:SL:= [⟨.v 175,none, .asg 175 (.v 7)⟩]
def zpL:SL:= [asI 18 18 0]
def ztG:SL:= [mvV 176 18,bvI 177 .lss 176 256]
def ztF:SL:= [mvV 180 18,mvV 181 18,axV 182 256 0 8 181,ldN 183 182,⟨.l 184,none, .un .not (.l 183)⟩,axV 185 256 0 8 180,stL 185 184]
def ztE:SL:= [mvV 178 18,bnI 179 .add 178 1,asL 18 18 179]
def a108l49:ACode:=(.seq (sR ztG (cV 177 .skip (.exit 8))) (.seq (.block 9 (.region ztF)) (.region ztE)))
def zpK:SL:= [ldV 186 256 8,clA 187 122 186,mvV 188 1,bnI 189 .add 188 1,stV 4 4 187,asL 5 5 189,asI 6 6 0]
def a108:AFunc:=⟨2,[0,1,4,5,6,7,8,9,10,11,12,13,14,15,16,17,18,32,40,50,61,81,87,90,104,123,151,160,164,169,175,177],[.cell 4 (some 4), .tmp 5, .tmp 6],(sR zAb (.seq (sR zAa (cV 32 (sT zz7) .skip)) (sR zz4 (sR zz2 (.seq (sR zz1 (cV 40 (.region zz0) .skip)) (sR zzZ (.seq (sR zzY (bL 0 a108l43)) (.seq (sR zpM (cV 175 (sR zpL (bL 8 a108l49)) .skip)) (sT zpK))))))))),true⟩
def zEI:SL:= [⟨.v 2,none, .allocL [.int .i64 0, .int .u64 0, .int .u64 0, .int .u64 0, .int .u64 0, .int .i64 0, .int .i64 0, .nils]⟩]
def zEH:SL:= [⟨.l 4,none, .build (List.replicate 256 (.bool false)) []⟩,⟨.v 3,none, .allocL (List.replicate 256 (.bool false))⟩,stV 256 3 4]
def zEG:SL:= [mvV 5 0,axV 6 256 0 3 5,⟨.no,none, .store none (.l 6) (.c (.bool true))⟩]
def zEF:SL:= [ldV 7 256 3,clA 8 122 7,⟨.l 9,none, .build [.int .i64 0, .int .u64 0, .int .u64 0, .int .u64 0, .int .u64 0, .int .i64 0, .int .i64 0, .nils] [(0,1,(.c (.int .i64 1))),(1,4,(.l 8))]⟩,stV 8 2 9]
def a109:AFunc:=⟨1,[0,2,3],[.cell 2 (some 8)],(sR zEI (sR zEH (sR zEG (sT zEF)))),true⟩
def zEE:SL:= [⟨.v 0,none, .allocL [.int .u64 0, .int .u64 0, .int .u64 0, .int .u64 0]⟩]
def zED:SL:= [⟨.l 1,none, .build [.int .u64 0, .int .u64 0, .int .u64 0, .int .u64 0] [(0,1,(.c (.int .u64 18446744073709551615))),(1,1,(.c (.int .u64 18446744073709551615))),(2,1,(.c (.int .u64 18446744073709551615))),(3,1,(.c (.int .u64 18446744073709551615)))]⟩,stV 4 0 1]
def a110:AFunc:=⟨0,[0],[.cell 0 (some 4)],(sR zEE (sT zED)),true⟩
def zEC:SL:= [asI 2 2 0]
def zEB:SL:= [asI 3 3 0,asI 4 4 0]
def zjW:SL:= [mvV 5 4,bnI 6 .lss 5 2,mvL 7 6,mgV 8 7 true 0,⟨.l 9,some (.l 7,true), .call 93 [.pl (.l 8)]⟩,bgI 10 7 true .geq 9 48,pkF 11 7 10,mvL 12 11,mgV 13 12 true 0,⟨.l 14,some (.l 12,true), .call 93 [.pl (.l 13)]⟩,bgI 15 12 true .leq 14 57,pvF 16 12 15]
def zzT:SL:= [mvV 17 3,bnI 18 .mul 17 10,mvV 19 0,clA 20 93 19,bnL 21 .add 18 20,bnI 22 .sub 21 48,mvV 23 4,bnI 24 .add 23 1,asL 3 3 22,asL 4 4 24]
def zzS:SL:= [mvV 25 0,nlC 26 25,fdL 27 1 26,ldN 28 27,bnI 29 .add 28 1,nlC 30 25,fdL 31 1 30,stL 31 29]
def a111l5:ACode:=(.seq (sR zjW (cV 16 .skip (.exit 0))) (.block 1 (sR zzT (.region zzS))))
def zmX:SL:= [mvV 32 4,bnI 33 .eql 32 0,mvL 34 33,mgV 35 34 false 3,bgI 36 34 false .gtr 35 50,pvT 37 34 36]
def zmW:SL:= [asI 2 2 (-1)]
def zmV:SL:= [mvV 38 3,asL 2 3 38]
def a111:AFunc:=⟨1,[0,2,3,4,16,37],[.tmp 2],(sR zEC (sR zEB (.seq (bL 0 a111l5) (.seq (sR zmX (cV 37 (sT zmW) .skip)) (sT zmV))))),false⟩
def zdT:SL:= [⟨.v 4,none, .allocL [.int .i64 0, .int .u64 0, .int .u64 0, .int .u64 0, .int .u64 0, .int .i64 0, .int .i64 0, .nils]⟩]
def zdS:SL:= [mvV 12 0,nlC 13 12,fdL 14 1 13,ldN 15 14,asL 5 5 15]
def zdR:SL:= [mvV 17 0,clA 18 98 17,mvL 16 18,exT 19 0 16,exT 20 1 16,asL 6 6 19,asL 7 7 20]
def zdQ:SL:= [⟨.v 21,none, .asg 21 (.v 6)⟩]
def zdP:SL:= [bxU 23 .eql 21 42,asL 22 22 23]
def zdO:SL:= [bxU 24 .eql 21 43,asL 22 22 24]
def zdN:SL:= [bxU 25 .eql 21 63,asL 22 22 25]
def zdM:SL:= [bxU 26 .eql 21 123,asL 22 22 26]
def zgX:SL:= [mvV 27 0,mvV 28 5,clI 29 113 27 28 50]
def zfn:SL:= [bxU 31 .eql 21 41,asL 30 30 31]
def zhP:SL:= [mvV 32 0,mvV 33 5,clI 34 113 32 33 4]
def zd0:SL:= [bxU 36 .eql 21 91,asL 35 35 36]
def zi1:SL:= [mvV 38 0,nlC 39 38,fdL 40 0 39,ldN 41 40,mvV 42 5,clB 43 114 41 42,mvL 37 43,exT 44 0 37,exT 45 1 37,exT 46 2 37,⟨.v 8,none, .allocL [.int .u64 0, .int .u64 0, .int .u64 0, .int .u64 0]⟩,stV 4 8 44,asL 9 9 45,asL 10 10 46]
def zi0:SL:= [mvV 47 10,bvI 48 .neq 47 0]
def ziZ:SL:= [mvV 49 0,mvV 50 5,mvV 51 10,clC 52 113 49 50 51]
def zkN:SL:= [mvV 53 0,mvV 54 9,nlC 55 53,fdL 56 1 55,stL 56 54]
def zkM:SL:= [ldV 57 4 8,⟨.l 58,none, .build [.int .i64 0, .int .u64 0, .int .u64 0, .int .u64 0, .int .u64 0, .int .i64 0, .int .i64 0, .nils] [(0,1,(.c (.int .i64 1))),(1,4,(.l 57))]⟩,stV 8 4 58]
def ze4:SL:= [mvV 59 0,nlC 60 59,fdL 61 1 60,ldN 62 61,bnI 63 .add 62 1,nlC 64 59,fdL 65 1 64,stL 65 63]
def ze3:SL:= [⟨.v 66,none, .asg 66 (.v 6)⟩]
def ze2:SL:= [bxU 68 .eql 66 40,asL 67 67 68]
def zna:SL:= [mvV 69 1,bvI 70 .geq 69 20]
def zm9:SL:= [mvV 71 0,mvV 72 5,clI 73 113 71 72 2]
def zpT:SL:= [mvV 74 0,mvV 75 1,bnI 76 .add 75 1,clB 77 86 74 76,⟨.v 11,none, .allocL [.int .i64 0, .int .u64 0, .int .u64 0, .int .u64 0, .int .u64 0, .int .i64 0, .int .i64 0, .nils]⟩,stV 8 11 77]
def ztV:SL:= [mvV 78 0,⟨.l 79,none, .call 88 [.pl (.l 78), .pl (.c (.int .u8 41))]⟩,⟨.v 80,none, .un .not (.l 79)⟩]
def ztU:SL:= [mvV 81 0,mvV 82 0,nlC 83 82,fdL 84 1 83,ldN 85 84,clI 86 113 81 85 3]
def ztT:SL:= [ldV 87 8 11,stV 8 4 87]
def ziY:SL:= [bxU 89 .eql 66 46,asL 88 88 89]
def zkL:SL:= [⟨.l 90,none, .build [.int .u64 0, .int .u64 0, .int .u64 0, .int .u64 0] []⟩,clA 91 115 90,⟨.l 92,none, .build [.int .i64 0, .int .u64 0, .int .u64 0, .int .u64 0, .int .u64 0, .int .i64 0, .int .i64 0, .nils] [(0,1,(.c (.int .i64 1))),(1,4,(.l 91))]⟩,stV 8 4 92]
def zkK:SL:= [bxU 94 .eql 66 94,asL 93 93 94]
def zm8:SL:= [⟨.l 95,none, .build [.int .i64 0, .int .u64 0, .int .u64 0, .int .u64 0, .int .u64 0, .int .i64 0, .int .i64 0, .nils] [(0,1,(.c (.int .i64 2)))]⟩,stV 8 4 95]
def zm7:SL:= [bxU 97 .eql 66 36,asL 96 96 97]
def zpS:SL:= [⟨.l 98,none, .build [.int .i64 0, .int .u64 0, .int .u64 0, .int .u64 0, .int .u64 0, .int .i64 0, .int .i64 0, .nils] [(0,1,(.c (.int .i64 3)))]⟩,stV 8 4 98]
def zpR:SL:= [bxU 100 .eql 66 92,asL 99 99 100]
def ztS:SL:= [mvV 101 0,clA 102 116 101,clA 103 117 102,stV 8 4 103]
def zAe:SL:= [mvV 104 6,clA 105 117 104,stV 8 4 105]
def a105:AFunc:=⟨2,[0,1,4,5,6,7,8,9,10,11,21,22,30,35,48,66,67,70,80,88,93,96,99],[.cell 4 (some 8)],(sR zdT (sR zdS (sR zdR (.seq (sR zdQ (.block 0 (.seq (sR zdP (.cond false (.v 22) .skip (sR zdO (.cond false (.v 22) .skip (sR zdN (.cond false (.v 22) .skip (.region zdM))))))) (.cond false (.v 22) (.region zgX) (sR zfn (cV 30 (.region zhP) (sR zd0 (cV 35 (sR zi1 (.seq (sR zi0 (cV 48 (.region ziZ) .skip)) (sR zkN (sT zkM)))) .skip)))))))) (sR ze4 (.seq (sR ze3 (.block 1 (sR ze2 (cV 67 (.seq (sR zna (cV 70 (.region zm9) .skip)) (sR zpT (.seq (sR ztV (cV 80 (.region ztU) .skip)) (sT ztT)))) (sR ziY (cV 88 (sT zkL) (sR zkK (cV 93 (sT zm8) (sR zm7 (cV 96 (sT zpS) (sR zpR (cV 99 (sT ztS) .skip)))))))))))) (sT zAe))))))),false⟩
def zj6:SL:= [asI 4 4 0,asI 5 5 0]
def zj5:SL:= [mvV 10 0,clA 11 118 10,mvL 9 11,exT 12 0 9,exT 13 1 9,asL 6 6 12,asL 7 7 13]
def zj4:SL:= [mvV 14 6,asL 8 8 14]
def zj3:SL:= [mvV 15 7,mvL 16 15,mgV 17 16 true 0,⟨.l 18,some (.l 16,true), .call 88 [.pl (.l 17), .pl (.c (.int .u8 44))]⟩,pvF 19 16 18]
def zj2:SL:= [mvV 20 0,⟨.v 21,none, .call 88 [.pl (.l 20), .pl (.c (.int .u8 125))]⟩]
def zj1:SL:= [mvV 22 6,asL 4 6 22,asI 5 5 (-1)]
def zj0:SL:= [mvV 24 0,clA 25 118 24,mvL 23 25,exT 26 0 23,exT 27 1 23,asL 8 8 26,asL 7 7 27]
def zjZ:SL:= [mvV 28 7,⟨.l 29,none, .un .not (.l 28)⟩,mvL 30 29,mgV 31 30 false 8,mgV 32 30 false 6,bgL 33 30 false .lss 31 32,pkT 34 30 33,mvL 35 34,mgV 36 35 false 0,⟨.l 37,some (.l 35,false), .call 88 [.pl (.l 36), .pl (.c (.int .u8 125))]⟩,⟨.l 38,some (.l 35,false), .un .not (.l 37)⟩,pvT 39 35 38]
def zjY:SL:= [mvV 40 0,mvV 41 1,clI 42 113 40 41 50]
def zjX:SL:= [mvV 43 6,mvV 44 8,asL 4 6 43,asL 5 8 44]
def a106:AFunc:=⟨2,[0,1,4,5,6,7,8,19,21,39],[.tmp 4, .tmp 5],(sR zj6 (sR zj5 (sR zj4 (.seq (sR zj3 (cV 19 (.seq (sR zj2 (cV 21 (sT zj1) .skip)) (.region zj0)) .skip)) (.seq (sR zjZ (cV 39 (.region zjY) .skip)) (sT zjX)))))),false⟩
def zmz:SL:= [⟨.v 8,none, .asg 8 (.c .nils)⟩]
def zmy:SL:= [mvV 11 2,⟨.l 12,none, .bslice true (.int .i64 0) 1 [(0,(.l 11))]⟩,asL 9 9 12]
def zmx:SL:= [mvV 13 9,lnS 14 false 13,bvI 15 .gtr 14 0]
def znr:SL:= [mvV 16 9,mvV 17 9,lnS 18 false 17,bnI 19 .sub 18 1,ixL 20 0 16 19,ldN 21 20,asL 2 2 21]
def znq:SL:= [mvV 22 9,mvV 23 9,lnS 24 false 23,bnI 25 .sub 24 1,⟨.l 26,none, .slice (some 0) (.l 22) none (some (.l 25))⟩,asL 9 9 26]
def zns:Plan:=(.seq 0 (mvV 27 0) (.seq 1 (nlC 28 27) (.seq 2 (fdL 29 2 28) (.seq 3 (ldN 30 29) (.seq 4 (mvV 31 2) (.seq 5 (ixL 32 0 30 31) (.seq 6 (ldN 33 32) (.seq 7 (mvV 34 0) (.seq 8 (nlC 35 34) (.seq 9 (fdL 36 3 35) (.seq 10 (ldN 37 36) (.seq 11 (bvL 38 .eql 33 37) .fin))))))))))))
def zpy:Plan:=(.seq 0 (mvV 39 0) (.seq 1 (nlC 40 39) (.seq 2 (fdL 41 2 40) (.seq 3 (ldN 42 41) (.seq 4 (mvV 43 2) (.seq 5 (mvV 44 0) (.seq 6 (nlC 45 44) (.seq 7 (fdL 46 3 45) (.seq 8 (ldN 47 46) (.seq 9 (ixL 48 0 42 43) (.one 10 (stL 48 47) .fin)))))))))))
def zpx:SL:= [mvV 49 0,nlC 50 49,fdL 51 0 50,ldN 52 51,nlC 53 52,fdL 54 0 53,ldN 55 54,mvV 56 2,ixL 57 7 55 56,ldL 58 7 57,⟨.v 10,none, .allocL [.int .i64 0, .int .u64 0, .int .u64 0, .int .u64 0, .int .u64 0, .int .i64 0, .int .i64 0]⟩,stV 7 10 58]
def zpw:SL:= [fdV 60 0 10,ldN 61 60,bnI 62 .eql 61 3,asL 59 59 62]
def zpv:SL:= [mvV 63 9,fdV 64 6 10,ldN 65 64,fdV 66 5 10,ldN 67 66,⟨.l 68,none, .bslice false (.int .i64 0) 2 [(0,(.l 65)),(1,(.l 67))]⟩,apL 69 0 63 68,asL 9 9 69]
def zjG:SL:= [fdV 71 0 10,ldN 72 71,bnI 73 .eql 72 1,mvL 74 73,mgV 75 74 true 3,bgI 76 74 true .eql 75 0,pkF 77 74 76,asL 70 70 77]
def zjF:SL:= [fdV 78 0 10,ldN 79 78,bnI 80 .eql 79 2,mvL 81 80,mgV 82 81 true 3,mgV 83 81 true 0,nlG 84 81 true 83,fgL 85 81 true 1 84,ldG 86 81 true 85,lgS 87 81 true true 86,bgL 88 81 true .eql 82 87,pkF 89 81 88,asL 70 70 89]
def zjE:SL:= [mvV 90 9,fdV 91 5 10,ldN 92 91,⟨.l 93,none, .bslice false (.int .i64 0) 1 [(0,(.l 92))]⟩,apL 94 0 90 93,asL 9 9 94]
def zjD:SL:= [fdV 96 0 10,ldN 97 96,bnI 98 .eql 97 0,mvL 99 98,fdG 100 99 false 0 10,ldG 101 99 false 100,bgI 102 99 false .eql 101 4,pkT 103 99 102,asL 95 95 103]
def zjC:SL:= [mvV 104 1,mvV 105 2,⟨.l 106,none, .bslice false (.int .i64 0) 1 [(0,(.l 105))]⟩,apL 107 0 104 106,asL 1 1 107]
def a61l15:ACode:=(.seq (sR zmx (cV 15 .skip (.exit 0))) (.block 1 (sR znr (sR znq (.seq (.seq (.draw zns) (cV 38 (.exit 1) .skip)) (.seq (.draw zpy) (sR zpx (.block 2 (sR zpw (cV 59 (.region zpv) (.seq (sR zjG (.cond false (.v 70) .skip (.region zjF))) (.cond false (.v 70) (.region zjE) (sR zjD (cV 95 (.region zjC) .skip))))))))))))))
def zfO:SL:= [mvV 108 1,asL 8 1 108]
def a61:AFunc:=⟨4,[0,1,2,3,8,9,10,15,38,59,70,95],[.tmp 8],(sR zmz (sR zmy (.seq (bL 0 a61l15) (sT zfO)))),false⟩
def zLh:SL:= [bxV 2 0,asB 4 4 false]
def zLg:SL:= [ldV 5 4 2,mvV 6 1,clB 7 84 5 6,asL 4 4 7]
def a62:AFunc:=⟨2,[0,1,2,4],[.tmp 4],(sR zLh (sT zLg)),true⟩
def zzI:SL:= [asI 4 4 0]
def zzH:SL:= [mvV 5 1,mvV 6 0,lnS 7 true 6,bvL 8 .lss 5 7]
def zzG:SL:= [mvV 9 0,mvV 10 1,⟨.l 11,none, .sidx (.l 9) (.l 10)⟩,⟨.l 12,none, .conv .i64 (.l 11)⟩,asL 4 4 12]
def zzF:SL:= [asI 4 4 (-1)]
def a119:AFunc:=⟨2,[0,1,4,8],[.tmp 4],(sR zzI (.seq (sR zzH (cV 8 (sT zzG) .skip)) (sT zzF))),true⟩
def zjV:SL:= [asB 4 4 false,asB 5 5 false]
def zjU:SL:= [mvV 9 1,bnI 10 .geq 9 65,mvL 11 10,mgV 12 11 true 1,bgI 13 11 true .leq 12 90,pkF 14 11 13,mvV 15 1,bnI 16 .geq 15 97,mvL 17 16,mgV 18 17 true 1,bgI 19 17 true .leq 18 122,pkF 20 17 19,mvV 21 1,bnI 22 .geq 21 48,mvL 23 22,mgV 24 23 true 1,bgI 25 23 true .leq 24 57,pkF 26 23 25,asL 6 6 14,asL 7 7 20,asL 8 8 26]
def zjT:SL:= [⟨.v 27,none, .asg 27 (.v 0)⟩]
def zjS:SL:= [⟨.l 29,none, .bin .eql (.v 27) (.c (.str [97,108,112,104,97]))⟩,asL 28 28 29]
def zjR:SL:= [mvV 30 6,mvL 31 30,mgV 32 31 false 7,pkT 33 31 32,asL 4 4 33,asB 5 5 true]
def zjQ:SL:= [⟨.l 35,none, .bin .eql (.v 27) (.c (.str [100,105,103,105,116]))⟩,asL 34 34 35]
def zjP:SL:= [mvV 36 8,asL 4 8 36,asB 5 5 true]
def zjO:SL:= [⟨.l 38,none, .bin .eql (.v 27) (.c (.str [97,108,110,117,109]))⟩,asL 37 37 38]
def zjN:SL:= [mvV 39 6,mvL 40 39,mgV 41 40 false 7,pkT 42 40 41,mvL 43 42,mgV 44 43 false 8,pkT 45 43 44,asL 4 4 45,asB 5 5 true]
def zjM:SL:= [⟨.l 47,none, .bin .eql (.v 27) (.c (.str [117,112,112,101,114]))⟩,asL 46 46 47]
def zgC:SL:= [mvV 48 6,asL 4 6 48,asB 5 5 true]
def zgB:SL:= [⟨.l 50,none, .bin .eql (.v 27) (.c (.str [108,111,119,101,114]))⟩,asL 49 49 50]
def zgA:SL:= [mvV 51 7,asL 4 7 51,asB 5 5 true]
def zgz:SL:= [⟨.l 53,none, .bin .eql (.v 27) (.c (.str [115,112,97,99,101]))⟩,asL 52 52 53]
def zgy:SL:= [mvV 54 1,bnI 55 .eql 54 32,mvL 56 55,mgV 57 56 false 1,bgI 58 56 false .geq 57 9,mgL 59 56 false 58,mgV 60 59 true 1,bgI 61 59 true .leq 60 13,pgF 62 56 false 59 61,pkT 63 56 62,asL 4 4 63,asB 5 5 true]
def zgx:SL:= [⟨.l 65,none, .bin .eql (.v 27) (.c (.str [98,108,97,110,107]))⟩,asL 64 64 65]
def zgw:SL:= [mvV 66 1,bnI 67 .eql 66 32,mvL 68 67,mgV 69 68 false 1,bgI 70 68 false .eql 69 9,pkT 71 68 70,asL 4 4 71,asB 5 5 true]
def zgv:SL:= [⟨.l 73,none, .bin .eql (.v 27) (.c (.str [112,117,110,99,116]))⟩,asL 72 72 73]
def zgu:SL:= [mvV 74 1,bnI 75 .gtr 74 32,mvL 76 75,mgV 77 76 true 1,bgI 78 76 true .lss 77 127,pkF 79 76 78,mvL 80 79,mgV 81 80 true 6,⟨.l 82,some (.l 80,true), .un .not (.l 81)⟩,pkF 83 80 82,mvL 84 83,mgV 85 84 true 7,⟨.l 86,some (.l 84,true), .un .not (.l 85)⟩,pkF 87 84 86,mvL 88 87,mgV 89 88 true 8,⟨.l 90,some (.l 88,true), .un .not (.l 89)⟩,pkF 91 88 90,asL 4 4 91,asB 5 5 true]
def zgt:SL:= [⟨.l 93,none, .bin .eql (.v 27) (.c (.str [112,114,105,110,116]))⟩,asL 92 92 93]
def zgs:SL:= [mvV 94 1,bnI 95 .geq 94 32,mvL 96 95,mgV 97 96 true 1,bgI 98 96 true .lss 97 127,pkF 99 96 98,asL 4 4 99,asB 5 5 true]
def zgr:SL:= [⟨.l 101,none, .bin .eql (.v 27) (.c (.str [103,114,97,112,104]))⟩,asL 100 100 101]
def zgq:SL:= [mvV 102 1,bnI 103 .gtr 102 32,mvL 104 103,mgV 105 104 true 1,bgI 106 104 true .lss 105 127,pkF 107 104 106,asL 4 4 107,asB 5 5 true]
def zgp:SL:= [⟨.l 109,none, .bin .eql (.v 27) (.c (.str [99,110,116,114,108]))⟩,asL 108 108 109]
def zgo:SL:= [mvV 110 1,bnI 111 .lss 110 32,mvL 112 111,mgV 113 112 false 1,bgI 114 112 false .eql 113 127,pkT 115 112 114,asL 4 4 115,asB 5 5 true]
def zgn:SL:= [⟨.l 117,none, .bin .eql (.v 27) (.c (.str [120,100,105,103,105,116]))⟩,asL 116 116 117]
def zgm:SL:= [mvV 118 8,mvL 119 118,mgV 120 119 false 1,bgI 121 119 false .geq 120 65,mgL 122 119 false 121,mgV 123 122 true 1,bgI 124 122 true .leq 123 70,pgF 125 119 false 122 124,pkT 126 119 125,mvL 127 126,mgV 128 127 false 1,bgI 129 127 false .geq 128 97,mgL 130 127 false 129,mgV 131 130 true 1,bgI 132 130 true .leq 131 102,pgF 133 127 false 130 132,pkT 134 127 133,asL 4 4 134,asB 5 5 true]
def zgl:SL:= [asB 4 4 false,asB 5 5 false]
def a120:AFunc:=⟨2,[0,1,4,5,6,7,8,27,28,34,37,46,49,52,64,72,92,100,108,116],[.tmp 4, .tmp 5],(sR zjV (sR zjU (.seq (sR zjT (.block 0 (sR zjS (cV 28 (sT zjR) (sR zjQ (cV 34 (sT zjP) (sR zjO (cV 37 (sT zjN) (sR zjM (cV 46 (sT zgC) (sR zgB (cV 49 (sT zgA) (sR zgz (cV 52 (sT zgy) (sR zgx (cV 64 (sT zgw) (sR zgv (cV 72 (sT zgu) (sR zgt (cV 92 (sT zgs) (sR zgr (cV 100 (sT zgq) (sR zgp (cV 108 (sT zgo) (sR zgn (cV 116 (sT zgm) .skip)))))))))))))))))))))))))) (sT zgl)))),true⟩
def zrz:SL:= [asI 4 4 0,asI 5 5 0]
def zry:SL:= [mvV 7 0,mvV 8 1,clB 9 119 7 8,bvI 10 .neq 9 92]
def zrx:SL:= [mvV 11 0,mvV 12 1,clB 13 119 11 12,mvV 14 1,bnI 15 .add 14 1,asL 4 4 13,asL 5 5 15]
def zrw:SL:= [mvV 16 0,mvV 17 1,bnI 18 .add 17 1,clB 19 119 16 18,asL 6 6 19]
def zrv:SL:= [mvV 20 6,bvI 21 .eql 20 110]
def zru:SL:= [asI 6 6 10]
def zrt:SL:= [mvV 22 6,bvI 23 .eql 22 116]
def zrs:SL:= [asI 6 6 9]
def zrr:SL:= [mvV 24 6,mvV 25 1,bnI 26 .add 25 2,asL 4 6 24,asL 5 5 26]
def a121:AFunc:=⟨2,[0,1,4,5,6,10,21,23],[.tmp 4, .tmp 5],(sR zrz (.seq (sR zry (cV 10 (sT zrx) .skip)) (sR zrw (.seq (sR zrv (cV 21 (.region zru) .skip)) (.seq (sR zrt (cV 23 (.region zrs) .skip)) (sT zrr)))))),true⟩
def zEt:SL:= [bxV 1 0,⟨.v 2,none, .allocL [.int .u64 0, .int .u64 0, .int .u64 0, .int .u64 0]⟩]
def zEs:SL:= [⟨.l 5,none, .build [.int .u64 0, .int .u64 0, .int .u64 0, .int .u64 0] []⟩,⟨.v 3,none, .allocL [.int .u64 0, .int .u64 0, .int .u64 0, .int .u64 0]⟩,stV 4 3 5]
def zEr:SL:= [asI 4 4 255]
def zu7:SL:= [mvV 6 4,bvI 7 .geq 6 0]
def zzE:SL:= [mvV 10 4,bnI 11 .quo 10 64,mvV 12 4,bnI 13 .quo 12 64,axV 14 4 0 3 13,ldN 15 14,⟨.l 16,none, .bin .mul (.l 15) (.c (.int .u64 2))⟩,axV 17 4 0 3 11,stL 17 16]
def zzD:SL:= [mvV 18 4,axV 19 256 0 1 18,⟨.v 20,none, .load none (.l 19)⟩]
def zzC:SL:= [mvV 21 4,bnI 22 .quo 21 64,axV 23 4 0 3 22,ldN 24 23,⟨.l 25,none, .bin .add (.l 24) (.c (.int .u64 1))⟩,axV 26 4 0 3 22,stL 26 25]
def zzB:SL:= [mvV 8 4,bnI 9 .sub 8 1,asL 4 4 9]
def a122l8:ACode:=(.seq (sR zu7 (cV 7 .skip (.exit 0))) (.seq (.block 1 (sR zzE (sR zzD (cV 20 (.region zzC) .skip)))) (.region zzB)))
def zEq:SL:= [ldV 27 4 3,stV 4 2 27]
def a122:AFunc:=⟨1,[0,1,2,3,4,7,20],[.cell 2 (some 4)],(sR zEt (sR zEs (.seq (sR zEr (bL 0 a122l8)) (sT zEq)))),true⟩
def zEA:SL:= [mvV 6 1,mvV 7 2,⟨.l 8,none, .build [.int .i64 0, .int .i64 0] [(0,1,(.l 6)),(1,1,(.l 7))]⟩,⟨.l 9,none, .mkifc 1 (.l 8)⟩,⟨.no,none, .panic (.l 9)⟩]
def a113:AFunc:=⟨3,[0,1,2],[],(.region zEA),true⟩
def zzR:SL:= [⟨.v 4,none, .allocL [.int .u64 0, .int .u64 0, .int .u64 0, .int .u64 0]⟩,asI 5 5 0,asI 6 6 0]
def zzQ:SL:= [mvV 13 1,bnI 14 .lss 13 0,mvL 15 14,mgV 16 15 false 1,mgV 17 15 false 0,lgS 18 15 false true 17,bgL 19 15 false .geq 16 18,pkT 20 15 19,mvL 21 20,mgV 22 21 false 0,mgV 23 21 false 1,⟨.l 24,some (.l 21,false), .sidx (.l 22) (.l 23)⟩,⟨.l 25,some (.l 21,false), .bin .neq (.l 24) (.c (.int .u8 91))⟩,pvT 26 21 25]
def zzP:SL:= [⟨.l 27,none, .build [.int .u64 0, .int .u64 0, .int .u64 0, .int .u64 0] []⟩,stV 4 4 27,asI 5 5 0,asI 6 6 1]
def zzO:SL:= [mvV 28 0,mvV 29 1,bnI 30 .add 29 1,⟨.l 31,none, .build [.str [], .int .i64 0] [(0,1,(.l 28)),(1,1,(.l 30))]⟩,⟨.l 32,none, .boxH (.l 31)⟩,asL 7 7 32]
def zzN:SL:= [mvV 33 7,⟨.l 34,none, .call 124 [.pl (.l 33), .pl (.c (.str [94]))]⟩,asL 8 8 34]
def zzM:SL:= [⟨.v 35,none, .asg 35 (.v 8)⟩]
def zzL:SL:= [mvV 36 7,nlC 37 36,fdL 38 1 37,ldN 39 38,bnI 40 .add 39 1,nlC 41 36,fdL 42 1 41,stL 42 40]
def zzK:SL:= [⟨.v 9,none, .allocL [.int .u64 0, .int .u64 0, .int .u64 0, .int .u64 0]⟩]
def zzJ:SL:= [asB 10 10 true]
def zoA:SL:= [mvV 43 10,mvL 44 43,mgV 45 44 false 7,⟨.l 46,some (.l 44,false), .call 124 [.pl (.l 45), .pl (.c (.str [93]))]⟩,⟨.l 47,some (.l 44,false), .un .not (.l 46)⟩,pvT 48 44 47]
def zmU:SL:= [mvV 50 7,clA 51 125 50,mvL 49 51,exT 52 0 49,exT 53 1 49,⟨.v 11,none, .allocL [.int .u64 0, .int .u64 0, .int .u64 0, .int .u64 0]⟩,stV 4 11 52,asL 12 12 53]
def zmT:SL:= [mvV 54 12,bvI 55 .neq 54 0]
def zmS:SL:= [⟨.l 56,none, .build [.int .u64 0, .int .u64 0, .int .u64 0, .int .u64 0] []⟩,mvV 57 12,stV 4 4 56,asI 5 5 0,asL 6 12 57]
def zmR:SL:= [ldV 58 4 9,ldV 59 4 11,clB 60 126 58 59,stV 4 9 60]
def zmQ:SL:= [asB 10 10 false]
def a114l15:ACode:=(.seq (sR zoA (cV 48 .skip (.exit 0))) (.seq (.block 1 (sR zmU (.seq (sR zmT (cV 55 (sT zmS) .skip)) (.region zmR)))) (.region zmQ)))
def ztC:SL:= [⟨.v 61,none, .asg 61 (.v 8)⟩]
def ztB:SL:= [ldV 62 4 9,clA 63 127 62,stV 4 9 63]
def ztD:Plan:=(.seq 0 (ldV 64 4 9) (.seq 1 (mvV 65 7) (.seq 2 (nlC 66 65) (.seq 3 (fdL 67 1 66) (.alt 4 (ldN 68 67) (.seq 5 (bnI 69 .add 68 1) (.one 6 (stV 4 4 64) (.seq 7 (asL 5 5 69) (.seq 8 (asI 6 6 0) .fin)))) (.one 6 (stV 4 4 64) (.seq 4 (ldN 68 67) (.seq 5 (bnI 69 .add 68 1) (.seq 7 (asL 5 5 69) (.seq 8 (asI 6 6 0) .fin))))))))))
def a114:AFunc:=⟨2,[0,1,4,5,6,7,8,9,10,11,12,26,35,48,55,61],[.cell 4 (some 4), .tmp 5, .tmp 6],(sR zzR (.seq (sR zzQ (cV 26 (sT zzP) .skip)) (sR zzO (sR zzN (.seq (sR zzM (cV 35 (.region zzL) .skip)) (sR zzK (.seq (sR zzJ (bL 0 a114l15)) (.seq (sR ztC (cV 61 (.region ztB) .skip)) (.seq (.draw ztD) .ret))))))))),true⟩
def zEz:SL:= [bxV 1 0,⟨.v 2,none, .allocL [.int .u64 0, .int .u64 0, .int .u64 0, .int .u64 0]⟩]
def zEy:SL:= [ldV 3 4 1,clA 4 127 3,stV 4 2 4]
def a115:AFunc:=⟨1,[0,1,2],[.cell 2 (some 4)],(sR zEz (sT zEy)),true⟩
def zEx:SL:= [⟨.v 2,none, .allocL [.int .i64 0, .int .u64 0, .int .u64 0, .int .u64 0, .int .u64 0, .int .i64 0, .int .i64 0, .nils]⟩]
def zEw:SL:= [⟨.l 3,none, .build [.int .u64 0, .int .u64 0, .int .u64 0, .int .u64 0] []⟩,mvV 4 0,mvV 5 0,clC 6 128 3 4 5,⟨.l 7,none, .build [.int .i64 0, .int .u64 0, .int .u64 0, .int .u64 0, .int .u64 0, .int .i64 0, .int .i64 0, .nils] [(0,1,(.c (.int .i64 1))),(1,4,(.l 6))]⟩,stV 8 2 7]
def a117:AFunc:=⟨1,[0,2],[.cell 2 (some 8)],(sR zEx (sT zEw)),true⟩
def zrJ:SL:= [⟨.v 2,none, .asg 2 (.c (.int .u8 0))⟩]
def zrI:SL:= [mvV 6 0,clA 7 98 6,mvL 5 7,exT 8 0 5,exT 9 1 5,asL 3 3 8,asL 4 4 9]
def zrH:SL:= [mvV 10 4,⟨.v 11,none, .un .not (.l 10)⟩]
def zrG:SL:= [mvV 12 0,mvV 13 0,nlC 14 13,fdL 15 1 14,ldN 16 15,clI 17 113 12 16 3]
def zrF:SL:= [mvV 18 0,nlC 19 18,fdL 20 1 19,ldN 21 20,bnI 22 .add 21 1,nlC 23 18,fdL 24 1 23,stL 24 22]
def zrE:SL:= [⟨.v 25,none, .asg 25 (.v 3)⟩]
def zrD:SL:= [bxU 27 .eql 25 110,asL 26 26 27]
def zrC:SL:= [⟨.v 2,none, .asg 2 (.c (.int .u8 10))⟩]
def zrB:SL:= [bxU 29 .eql 25 116,asL 28 28 29]
def zrA:SL:= [⟨.v 2,none, .asg 2 (.c (.int .u8 9))⟩]
def zmP:SL:= [mvV 30 3,asL 2 3 30]
def a116:AFunc:=⟨1,[0,2,3,4,11,25,26,28],[.tmp 2],(sR zrJ (sR zrI (.seq (sR zrH (cV 11 (.region zrG) .skip)) (sR zrF (.seq (sR zrE (.block 0 (sR zrD (cV 26 (sT zrC) (sR zrB (cV 28 (sT zrA) .skip)))))) (sT zmP)))))),false⟩
def zEv:SL:= [asI 2 2 0,asB 3 3 false]
def zEu:SL:= [asI 4 4 0,asI 5 5 0]
def zfR:SL:= [mvV 8 5,bvI 9 .lss 8 2]
def zgW:SL:= [mvV 11 0,clA 12 98 11,mvL 10 12,exT 13 0 10,exT 14 1 10,asL 6 6 13,asL 7 7 14]
def zgV:SL:= [mvV 15 7,⟨.l 16,none, .un .not (.l 15)⟩,mvL 17 16,mgV 18 17 false 6,⟨.l 19,some (.l 17,false), .bin .lss (.l 18) (.c (.int .u8 48))⟩,pkT 20 17 19,mvL 21 20,mgV 22 21 false 6,⟨.l 23,some (.l 21,false), .bin .gtr (.l 22) (.c (.int .u8 57))⟩,pvT 24 21 23]
def zgU:SL:= [mvV 25 4,⟨.l 26,none, .bin .mul (.c (.int .i64 10)) (.l 25)⟩,mvV 27 6,⟨.l 28,none, .bin .sub (.l 27) (.c (.int .u8 48))⟩,⟨.l 29,none, .conv .i64 (.l 28)⟩,bnL 30 .add 26 29,asL 4 4 30]
def zgT:SL:= [mvV 31 0,nlC 32 31,fdL 33 1 32,ldN 34 33,bnI 35 .add 34 1,nlC 36 31,fdL 37 1 36,stL 37 35]
def zgS:SL:= [mvV 38 5,bnI 39 .add 38 1,asL 5 5 39]
def a118l8:ACode:=(.seq (sR zfR (cV 9 .skip (.exit 0))) (.block 1 (sR zgW (.seq (sR zgV (cV 24 (.exit 0) .skip)) (sR zgU (sR zgT (.region zgS)))))))
def zkZ:SL:= [mvV 40 4,mvV 41 5,bnI 42 .gtr 41 0,mvL 43 42,mgV 44 43 true 4,bgI 45 43 true .leq 44 50,pkF 46 43 45,asL 2 4 40,asL 3 3 46]
def a118:AFunc:=⟨1,[0,2,3,4,5,6,7,9,24],[.tmp 2, .tmp 3],(sR zEv (sR zEu (.seq (bL 0 a118l8) (sT zkZ)))),false⟩
def zKD:SL:= [bxV 2 0,asB 4 4 false]
def zKC:SL:= [mvV 5 1,⟨.l 6,none, .bin .quo (.l 5) (.c (.int .u8 64))⟩,axV 7 4 0 2 6,ldN 8 7,mvV 9 1,⟨.l 10,none, .bin .rem (.l 9) (.c (.int .u8 64))⟩,bnL 11 .shr 8 10,⟨.l 12,none, .bin .and (.l 11) (.c (.int .u64 1))⟩,⟨.l 13,none, .bin .eql (.l 12) (.c (.int .u64 1))⟩,asL 4 4 13]
def a84:AFunc:=⟨2,[0,1,2,4],[.tmp 4],(sR zKD (sT zKC)),true⟩
def zEo:SL:= [asB 4 4 false]
def zEp:Plan:=(.seq 0 (mvV 5 0) (.seq 1 (nlC 6 5) (.seq 2 (fdL 7 0 6) (.seq 3 (ldN 8 7) (.seq 4 (mvV 9 0) (.seq 5 (nlC 10 9) (.seq 6 (fdL 11 1 10) (.seq 7 (ldN 12 11) (.seq 8 ⟨.l 13,none, .slice none (.l 8) (some (.l 12)) none⟩ (.seq 9 (mvV 14 1) (.one 10 (clB 15 133 13 14) (.seq 11 (asL 4 4 15) .fin))))))))))))
def a124:AFunc:=⟨2,[0,1,4],[.tmp 4],(sR zEo (.seq (.draw zEp) .ret)),true⟩
def zhN:SL:= [⟨.v 2,none, .allocL [.int .u64 0, .int .u64 0, .int .u64 0, .int .u64 0]⟩,asI 3 3 0]
def zhM:SL:= [mvV 11 0,⟨.v 12,none, .call 124 [.pl (.l 11), .pl (.c (.str [91,58]))]⟩]
def zhO:Plan:=(.seq 0 (mvV 14 0) (.seq 1 (nlC 15 14) (.seq 2 (fdL 16 0 15) (.seq 3 (ldN 17 16) (.seq 4 (mvV 18 0) (.seq 5 (nlC 19 18) (.seq 6 (fdL 20 1 19) (.seq 7 (ldN 21 20) (.seq 8 (bnI 22 .add 21 2) (.seq 9 ⟨.l 23,none, .slice none (.l 17) (some (.l 22)) none⟩ (.one 10 ⟨.l 24,none, .call 95 [.pl (.l 23), .pl (.c (.str [58,93]))]⟩ (.seq 11 (mvL 13 24) (.seq 12 (exT 25 0 13) (.seq 13 (exT 26 1 13) (.seq 14 (exT 27 2 13) (.seq 15 (asL 4 4 25) (.seq 16 (asL 5 5 26) (.seq 17 (asL 6 6 27) .fin))))))))))))))))))
def zhL:SL:= [mvV 28 6,⟨.v 29,none, .un .not (.l 28)⟩]
def zhK:SL:= [⟨.l 30,none, .build [.int .u64 0, .int .u64 0, .int .u64 0, .int .u64 0] []⟩,stV 4 2 30,asI 3 3 3]
def zhJ:SL:= [mvV 31 0,nlC 32 31,fdL 33 1 32,ldN 34 33,mvV 35 4,lnS 36 true 35,bnI 37 .add 36 4,bnL 38 .add 34 37,nlC 39 31,fdL 40 1 39,stL 40 38]
def zhI:SL:= [mvV 42 4,clA 43 134 42,mvL 41 43,exT 44 0 41,exT 45 1 41,⟨.v 7,none, .allocL [.int .u64 0, .int .u64 0, .int .u64 0, .int .u64 0]⟩,stV 4 7 44,asL 6 6 45]
def zhH:SL:= [mvV 46 6,⟨.v 47,none, .un .not (.l 46)⟩]
def zhG:SL:= [⟨.l 48,none, .build [.int .u64 0, .int .u64 0, .int .u64 0, .int .u64 0] []⟩,stV 4 2 48,asI 3 3 40]
def zhF:SL:= [ldV 49 4 7,stV 4 2 49,asI 3 3 0]
def ze1:SL:= [mvV 51 0,clA 52 135 51,mvL 50 52,exT 53 0 50,exT 54 1 50,asL 8 8 53,asL 9 9 54]
def ze0:SL:= [mvV 55 9,⟨.v 56,none, .un .not (.l 55)⟩]
def zeZ:SL:= [⟨.l 57,none, .build [.int .u64 0, .int .u64 0, .int .u64 0, .int .u64 0] []⟩,stV 4 2 57,asI 3 3 3]
def zeY:SL:= [mvV 58 8,asL 10 10 58]
def zeX:SL:= [mvV 59 0,⟨.l 60,none, .call 124 [.pl (.l 59), .pl (.c (.str [45]))]⟩,mvL 61 60,mgV 62 61 true 0,⟨.l 63,some (.l 61,true), .call 124 [.pl (.l 62), .pl (.c (.str [45,93]))]⟩,⟨.l 64,some (.l 61,true), .un .not (.l 63)⟩,pkF 65 61 64,mvL 66 65,mgV 67 66 true 0,⟨.l 68,some (.l 66,true), .call 124 [.pl (.l 67), .pl (.c (.str [45,91,58]))]⟩,⟨.l 69,some (.l 66,true), .un .not (.l 68)⟩,pvF 70 66 69]
def zeW:SL:= [mvV 71 0,nlC 72 71,fdL 73 1 72,ldN 74 73,bnI 75 .add 74 1,nlC 76 71,fdL 77 1 76,stL 77 75]
def zeV:SL:= [mvV 79 0,clA 80 135 79,mvL 78 80,exT 81 0 78,exT 82 1 78,asL 10 10 81,asL 9 9 82]
def zeU:SL:= [mvV 83 9,⟨.v 84,none, .un .not (.l 83)⟩]
def zeT:SL:= [⟨.l 85,none, .build [.int .u64 0, .int .u64 0, .int .u64 0, .int .u64 0] []⟩,stV 4 2 85,asI 3 3 3]
def zeS:SL:= [mvV 86 10,mvV 87 8,bvL 88 .lss 86 87]
def zeR:SL:= [⟨.l 89,none, .build [.int .u64 0, .int .u64 0, .int .u64 0, .int .u64 0] []⟩,stV 4 2 89,asI 3 3 4]
def zeQ:SL:= [⟨.l 90,none, .build [.int .u64 0, .int .u64 0, .int .u64 0, .int .u64 0] []⟩,mvV 91 8,mvV 92 10,clC 93 136 90 91 92,stV 4 2 93,asI 3 3 0]
def a125:AFunc:=⟨1,[0,2,3,4,5,6,7,8,9,10,12,29,47,56,70,84,88],[.cell 2 (some 4), .tmp 3],(sR zhN (.seq (sR zhM (cV 12 (.seq (.draw zhO) (.seq (sR zhL (cV 29 (sT zhK) .skip)) (sR zhJ (sR zhI (.seq (sR zhH (cV 47 (sT zhG) .skip)) (sT zhF)))))) .skip)) (sR ze1 (.seq (sR ze0 (cV 56 (sT zeZ) .skip)) (sR zeY (.seq (sR zeX (cV 70 (sR zeW (.seq (sR zeV (sR zeU (cV 84 (sT zeT) .skip))) (sR zeS (cV 88 (sT zeR) .skip)))) .skip)) (sT zeQ))))))),false⟩
def zEn:SL:= [bxV 2 0,bxV 3 1,⟨.v 4,none, .allocL [.int .u64 0, .int .u64 0, .int .u64 0, .int .u64 0]⟩]
def zEm:SL:= [asI 6 6 0]
def zoy:SL:= [⟨.v 7,none, .bin .lss (.v 6) (.c (.int .i64 4))⟩]
def zox:SL:= [mvV 8 6,asL 5 5 8]
def zoz:Plan:=(.seq 0 (mvV 9 5) (.seq 1 (axV 10 4 0 2 9) (.seq 2 (ldN 11 10) (.seq 3 (mvV 12 5) (.seq 4 (axV 13 4 0 3 12) (.seq 5 (ldN 14 13) (.seq 6 (bnL 15 .or 11 14) (.seq 7 (axV 16 4 0 2 9) (.one 8 (stL 16 15) .fin)))))))))
def zow:SL:= [bxI 17 .add 6 1,asL 6 6 17]
def a126l6:ACode:=(sR zoy (.seq (cV 7 .skip (.exit 0)) (.seq (.block 1 (sR zox (.draw zoz))) (.region zow))))
def zEl:SL:= [ldV 18 4 2,stV 4 4 18]
def a126:AFunc:=⟨2,[0,1,2,3,4,5,6,7],[.cell 4 (some 4)],(sR zEn (.seq (sR zEm (bL 0 a126l6)) (sT zEl))),true⟩
def zEk:SL:= [bxV 1 0,⟨.v 2,none, .allocL [.int .u64 0, .int .u64 0, .int .u64 0, .int .u64 0]⟩]
def zEj:SL:= [asI 4 4 0]
def zov:SL:= [⟨.v 5,none, .bin .lss (.v 4) (.c (.int .i64 4))⟩]
def zou:SL:= [mvV 6 4,asL 3 3 6]
def zot:SL:= [mvV 7 3,mvV 8 3,axV 9 4 0 1 8,ldN 10 9,⟨.l 11,none, .un .xor (.l 10)⟩,axV 12 4 0 1 7,stL 12 11]
def zos:SL:= [bxI 13 .add 4 1,asL 4 4 13]
def a127l6:ACode:=(sR zov (.seq (cV 5 .skip (.exit 0)) (.seq (.block 1 (sR zou (.region zot))) (.region zos))))
def zEi:SL:= [ldV 14 4 1,stV 4 2 14]
def a127:AFunc:=⟨1,[0,1,2,3,4,5],[.cell 2 (some 4)],(sR zEk (.seq (sR zEj (bL 0 a127l6)) (sT zEi))),true⟩
def zEh:SL:= [bxV 3 0,⟨.v 6,none, .allocL [.int .u64 0, .int .u64 0, .int .u64 0, .int .u64 0]⟩]
def zEg:SL:= [ldV 7 4 3,mvV 8 1,mvV 9 2,clC 10 136 7 8 9,stV 4 6 10]
def a128:AFunc:=⟨3,[0,1,2,3,6],[.cell 6 (some 4)],(sR zEh (sT zEg)),true⟩
def zEf:SL:= [asB 4 4 false]
def zEe:SL:= [mvV 5 0,mvV 6 1,clB 7 137 5 6,asL 4 4 7]
def a133:AFunc:=⟨2,[0,1,4],[.tmp 4],(sR zEf (sT zEe)),true⟩
def zEc:SL:= [⟨.v 2,none, .allocL [.int .u64 0, .int .u64 0, .int .u64 0, .int .u64 0]⟩,asB 3 3 false]
def zEb:SL:= [⟨.v 4,none, .allocL [.int .u64 0, .int .u64 0, .int .u64 0, .int .u64 0]⟩]
def zEa:SL:= [mvV 7 0,clA 8 138 7,asL 5 5 8]
def zD9:SL:= [asI 6 6 0]
def zzA:SL:= [mvV 9 6,mvV 10 5,lnS 11 true 10,bvL 12 .lss 9 11]
def zEd:Plan:=(.seq 0 (ldV 15 4 4) (.seq 1 (mvV 16 5) (.seq 2 (mvV 17 6) (.seq 3 ⟨.l 18,none, .sidx (.l 16) (.l 17)⟩ (.seq 4 (mvV 19 5) (.seq 5 (mvV 20 6) (.seq 6 (bnI 21 .add 20 1) (.seq 7 ⟨.l 22,none, .sidx (.l 19) (.l 21)⟩ (.one 8 (clC 23 136 15 18 22) (.one 9 (stV 4 4 23) .fin))))))))))
def zD8:SL:= [mvV 13 6,bnI 14 .add 13 2,asL 6 6 14]
def a134l7:ACode:=(.seq (sR zzA (cV 12 .skip (.exit 0))) (.seq (.block 1 (.draw zEd)) (.region zD8)))
def zD7:SL:= [ldV 24 4 4,mvV 25 5,⟨.l 26,none, .bin .neq (.l 25) (.c (.str []))⟩,stV 4 2 24,asL 3 3 26]
def a134:AFunc:=⟨1,[0,2,3,4,5,6,12],[.cell 2 (some 4), .tmp 3],(sR zEc (sR zEb (sR zEa (.seq (sR zD9 (bL 0 a134l7)) (sT zD7))))),true⟩
def zmM:SL:= [⟨.v 2,none, .asg 2 (.c (.int .u8 0))⟩,asB 3 3 false]
def zmL:SL:= [mvV 5 0,⟨.v 6,none, .call 124 [.pl (.l 5), .pl (.c (.str [92]))]⟩]
def zmK:SL:= [mvV 7 0,nlC 8 7,fdL 9 1 8,ldN 10 9,bnI 11 .add 10 1,nlC 12 7,fdL 13 1 12,stL 13 11]
def zmO:Plan:=(.seq 0 (mvV 14 0) (.seq 1 (nlC 15 14) (.seq 2 (fdL 16 1 15) (.seq 3 (ldN 17 16) (.seq 4 (mvV 18 0) (.seq 5 (nlC 19 18) (.seq 6 (fdL 20 0 19) (.seq 7 (ldN 21 20) (.seq 8 (lnS 22 true 21) (.seq 9 (bvL 23 .eql 17 22) .fin))))))))))
def zmJ:SL:= [⟨.v 2,none, .asg 2 (.c (.int .u8 0))⟩,asB 3 3 false]
def zmI:SL:= [mvV 24 0,nlC 25 24,fdL 26 1 25,ldN 27 26,bnI 28 .add 27 1,nlC 29 24,fdL 30 1 29,stL 30 28]
def zmN:Plan:=(.seq 0 (mvV 31 0) (.seq 1 (nlC 32 31) (.seq 2 (fdL 33 0 32) (.seq 3 (ldN 34 33) (.seq 4 (mvV 35 0) (.seq 5 (nlC 36 35) (.seq 6 (fdL 37 1 36) (.seq 7 (ldN 38 37) (.seq 8 (bnI 39 .sub 38 1) (.seq 9 ⟨.l 40,none, .sidx (.l 34) (.l 39)⟩ (.seq 10 (asL 4 4 40) .fin)))))))))))
def zmH:SL:= [⟨.v 41,none, .asg 41 (.v 4)⟩]
def zmG:SL:= [bxU 44 .eql 41 110,asL 43 43 44]
def zmF:SL:= [⟨.v 2,none, .asg 2 (.c (.int .u8 10))⟩,asB 3 3 true]
def ziU:SL:= [bxU 46 .eql 41 116,asL 45 45 46]
def ziT:SL:= [⟨.v 2,none, .asg 2 (.c (.int .u8 9))⟩,asB 3 3 true]
def ziS:SL:= [mvV 42 4,asL 2 4 42,asB 3 3 true]
def ziW:Plan:=(.seq 0 (mvV 47 0) (.seq 1 (nlC 48 47) (.seq 2 (fdL 49 1 48) (.seq 3 (ldN 50 49) (.seq 4 (mvV 51 0) (.seq 5 (nlC 52 51) (.seq 6 (fdL 53 0 52) (.seq 7 (ldN 54 53) (.seq 8 (lnS 55 true 54) (.seq 9 (bvL 56 .eql 50 55) .fin))))))))))
def ziR:SL:= [⟨.v 2,none, .asg 2 (.c (.int .u8 0))⟩,asB 3 3 false]
def ziQ:SL:= [mvV 57 0,nlC 58 57,fdL 59 1 58,ldN 60 59,bnI 61 .add 60 1,nlC 62 57,fdL 63 1 62,stL 63 61]
def ziV:Plan:=(.seq 0 (mvV 64 0) (.seq 1 (nlC 65 64) (.seq 2 (fdL 66 0 65) (.seq 3 (ldN 67 66) (.seq 4 (mvV 68 0) (.seq 5 (nlC 69 68) (.seq 6 (fdL 70 1 69) (.seq 7 (ldN 71 70) (.seq 8 (bnI 72 .sub 71 1) (.seq 9 ⟨.l 73,none, .sidx (.l 67) (.l 72)⟩ (.seq 10 (asL 2 2 73) (.seq 11 (asB 3 3 true) .fin))))))))))))
def a135:AFunc:=⟨1,[0,2,3,4,6,23,41,43,45,56],[.tmp 2, .tmp 3],(sR zmM (.seq (sR zmL (cV 6 (sR zmK (.seq (.seq (.draw zmO) (cV 23 (sT zmJ) .skip)) (sR zmI (.seq (.draw zmN) (sR zmH (.block 0 (sR zmG (cV 43 (sT zmF) (sR ziU (cV 45 (sT ziT) (sT ziS))))))))))) .skip)) (.seq (.seq (.draw ziW) (cV 56 (sT ziR) .skip)) (sR ziQ (.seq (.draw ziV) .ret))))),false⟩
def zD5:SL:= [bxV 3 0,⟨.v 6,none, .allocL [.int .u64 0, .int .u64 0, .int .u64 0, .int .u64 0]⟩]
def zD4:SL:= [mvV 8 1,⟨.l 9,none, .conv .i64 (.l 8)⟩,asL 7 7 9]
def zu6:SL:= [mvV 10 7,mvV 11 2,⟨.l 12,none, .conv .i64 (.l 11)⟩,bvL 13 .leq 10 12]
def zD6:Plan:=(.seq 0 (mvV 16 7) (.seq 1 (bnI 17 .quo 16 64) (.seq 2 (axV 18 4 0 3 17) (.seq 3 (ldN 19 18) (.seq 4 (mvV 20 7) (.seq 5 (bnI 21 .rem 20 64) (.seq 6 ⟨.l 22,none, .bin .shl (.c (.int .u64 1)) (.l 21)⟩ (.seq 7 (bnL 23 .or 19 22) (.seq 8 (axV 24 4 0 3 17) (.one 9 (stL 24 23) .fin))))))))))
def zD3:SL:= [mvV 14 7,bnI 15 .add 14 1,asL 7 7 15]
def a136l5:ACode:=(.seq (sR zu6 (cV 13 .skip (.exit 0))) (.seq (.block 1 (.draw zD6)) (.region zD3)))
def zzz:SL:= [ldV 25 4 3,stV 4 6 25]
def a136:AFunc:=⟨3,[0,1,2,3,6,7,13],[.cell 6 (some 4)],(sR zD5 (.seq (sR zD4 (bL 0 a136l5)) (sT zzz))),true⟩
def zzy:SL:= [asB 4 4 false]
def zzx:SL:= [mvV 5 0,lnS 6 true 5,mvV 7 1,lnS 8 true 7,bnL 9 .geq 6 8,mvL 10 9,mgV 11 10 true 0,mgV 12 10 true 1,lgS 13 10 true true 12,⟨.l 14,some (.l 10,true), .slice none (.l 11) none (some (.l 13))⟩,mgV 15 10 true 1,bgL 16 10 true .eql 14 15,pkF 17 10 16,asL 4 4 17]
def a137:AFunc:=⟨2,[0,1,4],[.tmp 4],(sR zzy (sT zzx)),true⟩
def zfm:SL:= [⟨.v 2,none, .asg 2 (.c (.str []))⟩]
def zfl:SL:= [⟨.v 3,none, .asg 3 (.v 0)⟩]
def zfk:SL:= [⟨.l 5,none, .bin .eql (.v 3) (.c (.str [97,108,112,104,97]))⟩,asL 4 4 5]
def zfj:SL:= [⟨.v 2,none, .asg 2 (.c (.str [65,90,97,122]))⟩]
def zfQ:SL:= [⟨.l 7,none, .bin .eql (.v 3) (.c (.str [100,105,103,105,116]))⟩,asL 6 6 7]
def zfP:SL:= [⟨.v 2,none, .asg 2 (.c (.str [48,57]))⟩]
def zgR:SL:= [⟨.l 9,none, .bin .eql (.v 3) (.c (.str [97,108,110,117,109]))⟩,asL 8 8 9]
def zgQ:SL:= [⟨.v 2,none, .asg 2 (.c (.str [48,57,65,90,97,122]))⟩]
def zhC:SL:= [⟨.l 11,none, .bin .eql (.v 3) (.c (.str [117,112,112,101,114]))⟩,asL 10 10 11]
def zhB:SL:= [⟨.v 2,none, .asg 2 (.c (.str [65,90]))⟩]
def zfv:SL:= [⟨.l 13,none, .bin .eql (.v 3) (.c (.str [108,111,119,101,114]))⟩,asL 12 12 13]
def zfu:SL:= [⟨.v 2,none, .asg 2 (.c (.str [97,122]))⟩]
def zgk:SL:= [⟨.l 15,none, .bin .eql (.v 3) (.c (.str [115,112,97,99,101]))⟩,asL 14 14 15]
def zgj:SL:= [⟨.v 2,none, .asg 2 (.c (.str [9,13,32,32]))⟩]
def zhE:SL:= [⟨.l 17,none, .bin .eql (.v 3) (.c (.str [98,108,97,110,107]))⟩,asL 16 16 17]
def zhD:SL:= [⟨.v 2,none, .asg 2 (.c (.str [9,9,32,32]))⟩]
def ziP:SL:= [⟨.l 19,none, .bin .eql (.v 3) (.c (.str [112,117,110,99,116]))⟩,asL 18 18 19]
def ziO:SL:= [⟨.v 2,none, .asg 2 (.c (.str [33,47,58,64,91,96,123,126]))⟩]
def zkJ:SL:= [⟨.l 21,none, .bin .eql (.v 3) (.c (.str [112,114,105,110,116]))⟩,asL 20 20 21]
def zkI:SL:= [⟨.v 2,none, .asg 2 (.c (.str [32,126]))⟩]
def zmE:SL:= [⟨.l 23,none, .bin .eql (.v 3) (.c (.str [103,114,97,112,104]))⟩,asL 22 22 23]
def zmD:SL:= [⟨.v 2,none, .asg 2 (.c (.str [33,126]))⟩]
def zpJ:SL:= [⟨.l 25,none, .bin .eql (.v 3) (.c (.str [99,110,116,114,108]))⟩,asL 24 24 25]
def zpI:SL:= [⟨.v 2,none, .asg 2 (.c (.str [0,31,127,127]))⟩]
def ztA:SL:= [⟨.l 27,none, .bin .eql (.v 3) (.c (.str [120,100,105,103,105,116]))⟩,asL 26 26 27]
def ztz:SL:= [⟨.v 2,none, .asg 2 (.c (.str [48,57,65,70,97,102]))⟩]
def zzw:SL:= [⟨.v 2,none, .asg 2 (.c (.str []))⟩]
def a138:AFunc:=⟨1,[0,2,3,4,6,8,10,12,14,16,18,20,22,24,26],[.tmp 2],(sR zfm (.seq (sR zfl (.block 0 (sR zfk (cV 4 (sT zfj) (sR zfQ (cV 6 (sT zfP) (sR zgR (cV 8 (sT zgQ) (sR zhC (cV 10 (sT zhB) (sR zfv (cV 12 (sT zfu) (sR zgk (cV 14 (sT zgj) (sR zhE (cV 16 (sT zhD) (sR ziP (cV 18 (sT ziO) (sR zkJ (cV 20 (sT zkI) (sR zmE (cV 22 (sT zmD) (sR zpJ (cV 24 (sT zpI) (sR ztA (cV 26 (sT ztz) .skip)))))))))))))))))))))))))) (sT zzw))),true⟩
def fsT:Nat→Option AFunc
 | 159=>some a159
 | 8=>some a8
 | 157=>some a157
 | 160=>some a160
 | 161=>some a161
 | 80=>some a80
 | 151=>some a151
 | 165=>some a165
 | 167=>some a167
 | 168=>some a168
 | 169=>some a169
 | 172=>some a172
 | 14=>some a14
 | 38=>some a38
 | 10=>some a10
 | 180=>some a180
 | 94=>some a94
 | 95=>some a95
 | 97=>some a97
 | 96=>some a96
 | 154=>some a154
 | 143=>some a143
 | 188=>some a188
 | 44=>some a44
 | 45=>some a45
 | 63=>some a63
 | 34=>some a34
 | 42=>some a42
 | 103=>some a103
 | 104=>some a104
 | 46=>some a46
 | 152=>some a152
 | 194=>some a194
 | 69=>some a69
 | 70=>some a70
 | 71=>some a71
 | 85=>some a85
 | 86=>some a86
 | 57=>some a57
 | 59=>some a59
 | 58=>some a58
 | 65=>some a65
 | 66=>some a66
 | 43=>some a43
 | 72=>some a72
 | 73=>some a73
 | 74=>some a74
 | 75=>some a75
 | 155=>some a155
 | 92=>some a92
 | 93=>some a93
 | 3=>some a3
 | 87=>some a87
 | 88=>some a88
 | 89=>some a89
 | 81=>some a81
 | 82=>some a82
 | 83=>some a83
 | 91=>some a91
 | 90=>some a90
 | 35=>some a35
 | 101=>some a101
 | 102=>some a102
 | 98=>some a98
 | 99=>some a99
 | 100=>some a100
 | 37=>some a37
 | 60=>some a60
 | 107=>some a107
 | 108=>some a108
 | 109=>some a109
 | 110=>some a110
 | 111=>some a111
 | 105=>some a105
 | 106=>some a106
 | 61=>some a61
 | 62=>some a62
 | 119=>some a119
 | 120=>some a120
 | 121=>some a121
 | 122=>some a122
 | 113=>some a113
 | 114=>some a114
 | 115=>some a115
 | 117=>some a117
 | 116=>some a116
 | 118=>some a118
 | 84=>some a84
 | 124=>some a124
 | 125=>some a125
 | 126=>some a126
 | 127=>some a127
 | 128=>some a128
 | 133=>some a133
 | 134=>some a134
 | 135=>some a135
 | 136=>some a136
 | 137=>some a137
 | 138=>some a138
 | _=>none
theorem zFu:fsT 159=some a159:=rfl
theorem zIs:fsT 8=some a8:=rfl
theorem fsT_157:fsT 157=some a157:=rfl
theorem zxT:fsT 160=some a160:=rfl
theorem zFt:fsT 161=some a161:=rfl
theorem zuA:fsT 80=some a80:=rfl
theorem zo1:fsT 151=some a151:=rfl
theorem fsT_165:fsT 165=some a165:=rfl
theorem fsT_167:fsT 167=some a167:=rfl
theorem fsT_168:fsT 168=some a168:=rfl
theorem fsT_169:fsT 169=some a169:=rfl
theorem fsT_172:fsT 172=some a172:=rfl
theorem zIS:fsT 14=some a14:=rfl
theorem zIO:fsT 38=some a38:=rfl
theorem zIT:fsT 10=some a10:=rfl
theorem fsT_180:fsT 180=some a180:=rfl
theorem zIi:fsT 94=some a94:=rfl
theorem zxR:fsT 95=some a95:=rfl
theorem zIg:fsT 97=some a97:=rfl
theorem zIh:fsT 96=some a96:=rfl
theorem zFw:fsT 154=some a154:=rfl
theorem zFy:fsT 143=some a143:=rfl
theorem fsT_188:fsT 188=some a188:=rfl
theorem zIL:fsT 44=some a44:=rfl
theorem zIK:fsT 45=some a45:=rfl
theorem zIC:fsT 63=some a63:=rfl
theorem zIR:fsT 34=some a34:=rfl
theorem zIN:fsT 42=some a42:=rfl
theorem zFZ:fsT 103=some a103:=rfl
theorem zsO:fsT 104=some a104:=rfl
theorem zIJ:fsT 46=some a46:=rfl
theorem zFx:fsT 152=some a152:=rfl
theorem fsT_194:fsT 194=some a194:=rfl
theorem zIz:fsT 69=some a69:=rfl
theorem zIy:fsT 70=some a70:=rfl
theorem zIx:fsT 71=some a71:=rfl
theorem zDg:fsT 85=some a85:=rfl
theorem zIn:fsT 86=some a86:=rfl
theorem zII:fsT 57=some a57:=rfl
theorem zIG:fsT 59=some a59:=rfl
theorem zIH:fsT 58=some a58:=rfl
theorem zIB:fsT 65=some a65:=rfl
theorem zIA:fsT 66=some a66:=rfl
theorem zIM:fsT 43=some a43:=rfl
theorem zIw:fsT 72=some a72:=rfl
theorem zIv:fsT 73=some a73:=rfl
theorem zIu:fsT 74=some a74:=rfl
theorem zIt:fsT 75=some a75:=rfl
theorem zFv:fsT 155=some a155:=rfl
theorem zIj:fsT 92=some a92:=rfl
theorem zDe:fsT 93=some a93:=rfl
theorem fsT_3:fsT 3=some a3:=rfl
theorem zIm:fsT 87=some a87:=rfl
theorem zDf:fsT 88=some a88:=rfl
theorem zxS:fsT 89=some a89:=rfl
theorem zIr:fsT 81=some a81:=rfl
theorem zIq:fsT 82=some a82:=rfl
theorem zIp:fsT 83=some a83:=rfl
theorem zIk:fsT 91=some a91:=rfl
theorem zIl:fsT 90=some a90:=rfl
theorem zIQ:fsT 35=some a35:=rfl
theorem zF0:fsT 101=some a101:=rfl
theorem zxV:fsT 102=some a102:=rfl
theorem zDd:fsT 98=some a98:=rfl
theorem zIf:fsT 99=some a99:=rfl
theorem zF1:fsT 100=some a100:=rfl
theorem zIP:fsT 37=some a37:=rfl
theorem zIF:fsT 60=some a60:=rfl
theorem zxU:fsT 107=some a107:=rfl
theorem zFW:fsT 108=some a108:=rfl
theorem zFV:fsT 109=some a109:=rfl
theorem zFU:fsT 110=some a110:=rfl
theorem zFT:fsT 111=some a111:=rfl
theorem zFY:fsT 105=some a105:=rfl
theorem zFX:fsT 106=some a106:=rfl
theorem zIE:fsT 61=some a61:=rfl
theorem zID:fsT 62=some a62:=rfl
theorem zFM:fsT 119=some a119:=rfl
theorem zdW:fsT 120=some a120:=rfl
theorem zFL:fsT 121=some a121:=rfl
theorem zFK:fsT 122=some a122:=rfl
theorem zFS:fsT 113=some a113:=rfl
theorem zFR:fsT 114=some a114:=rfl
theorem zFQ:fsT 115=some a115:=rfl
theorem zFO:fsT 117=some a117:=rfl
theorem zFP:fsT 116=some a116:=rfl
theorem zFN:fsT 118=some a118:=rfl
theorem zIo:fsT 84=some a84:=rfl
theorem zFJ:fsT 124=some a124:=rfl
theorem zFI:fsT 125=some a125:=rfl
theorem zFH:fsT 126=some a126:=rfl
theorem zFG:fsT 127=some a127:=rfl
theorem zFF:fsT 128=some a128:=rfl
theorem zFE:fsT 133=some a133:=rfl
theorem zFD:fsT 134=some a134:=rfl
theorem zFC:fsT 135=some a135:=rfl
theorem zFB:fsT 136=some a136:=rfl
theorem zFA:fsT 137=some a137:=rfl
theorem zFz:fsT 138=some a138:=rfl
end Go.Ak
namespace Go.Ak
section limit
variable {α β:Type}
open Classical in
noncomputable def limit (f:Nat→Option α):Option α:=if h: ∃ a n,f n=some a then some h.choose else none
def Mono (f:Nat→Option α):Prop:= ∀ n m a,n≤m→f n=some a→f m=some a
theorem Mono.uniq {f:Nat→Option α} (hf:Mono f) {n m:Nat} {a b:α} (h:f n=some a) (k:f m=some b):a=b:=by
 rcases Nat.le_total n m with l | l
 ·rw [hf n m a l h] at k;exact Option.some.inj k
 ·rw [hf m n b l k] at h;exact (Option.some.inj h).symm
theorem zfD {f:Nat→Option α} (hf:Mono f) {a:α}:limit f=some a↔ ∃ n,f n=some a:=by
 unfold limit
 split
 ·rename_i h
  obtain ⟨n,hn⟩:=h.choose_spec
  constructor
  ·intro e;rw [←Option.some.inj e];exact ⟨n,hn⟩
  ·intro ⟨m,hm⟩;rw [hf.uniq hn hm]
 ·rename_i h
  constructor
  ·intro e;cases e
  ·intro ⟨m,hm⟩;exact absurd ⟨a,m,hm⟩ h
theorem zvO {f:Nat→Option α} (h: ∀ n,f n=none):limit f=none:=by
 unfold limit
 split
 ·rename_i k;obtain ⟨a,n,hn⟩:=k;rw [h n] at hn;cases hn
 ·rfl
theorem zf9 (x:Option α):limit (fun _=>x)=x:=by
 have hm:Mono (fun _:Nat=>x):=fun _ _ _ _ h=>h
 cases x with
 | none=>exact zvO fun _=>rfl
 | some a=>exact (zfD hm).2 ⟨0,rfl⟩
end limit
def CallF.le (c d:CallF):Prop:= ∀ f as H r,c f as H=some r→d f as H=some r
section mono
variable {c d:CallF} {bar:Nat}
theorem zx3 (h:c.le d) (op:AOp) (σ:St) (r:OpR) (e:zbh c bar op σ=some r):zbh d bar op σ=some r:=by
 cases op
 case call f xs =>
  simp only [zbh] at e ⊢
  split at e
  ·rename_i as σ' ha
   split at e
   ·rename_i v H hc;rw [h _ _ _ _ hc];exact e
   ·rename_i v H hc;rw [h _ _ _ _ hc];exact e
   ·cases e
  ·cases e
 case callv x xs =>
  simp only [zbh] at e ⊢
  split at e
  ·rename_i f cap hx
   split at e
   ·rename_i as σ' ha
    split at e
    ·rename_i v H hc;rw [h _ _ _ _ hc];exact e
    ·rename_i v H hc;rw [h _ _ _ _ hc];exact e
    ·cases e
   ·cases e
  ·cases e
 all_goals exact e
theorem zhV (h:c.le d) (s:AStep) (σ:St) (r) (e:zcL c bar s σ=some r):zcL d bar s σ=some r:=by
 simp only [zcL] at e ⊢
 split at e
 ·split at e
  ·rename_i a τ ho;rw [zx3 h _ _ _ ho];exact e
  ·rename_i a τ ho;rw [zx3 h _ _ _ ho];exact e
  ·cases e
 ·exact e
 ·cases e
theorem zh7 (h:c.le d): ∀ (l:List AStep) (σ:St) (r),zaL c bar l σ=some r→zaL d bar l σ=some r
 | [],_,_,e=>e
 | s::l, σ,r,e=>by
  simp only [zaL] at e ⊢
  split at e
  ·rename_i τ hs;rw [zhV h _ _ _ hs];exact zh7 h l τ r e
  ·rename_i hs
   have:=zhV (bar:=bar) h s σ r e
   rw [this]
   split
   ·rename_i τ hq;cases hq;exact absurd e (hs τ)
   ·rfl
theorem zaE (c:CallF) (bar i:Nat) (s:AStep) (p q:Plan) (σ:St):zaK c bar (.alt i s p q) σ=(match zaK c bar (.seq i s p) σ,zaK c bar q σ with
  | some a,some b=>bif zeJ a b then some a else none
  | _,_=>none):=rfl
theorem zgd (h:c.le d) {i:Nat} {s:AStep} {p:Plan} (ih: ∀ (σ:St) (r),zaK c bar p σ=some r→zaK d bar p σ=some r) (σ:St) (r) (e:zaK c bar (.seq i s p) σ=some r):zaK d bar (.seq i s p) σ=some r:=by
 simp only [zaK] at e ⊢
 split at e
 ·rename_i τ hs;rw [zhV h _ _ _ hs];exact ih τ r e
 ·rename_i hs
  have:=zhV (bar:=bar) h s σ r e
  rw [this]
  split
  ·rename_i τ hq;cases hq;exact absurd e (hs τ)
  ·rfl
theorem zhd (h:c.le d) (p:Plan): ∀ (σ:St) (r),zaK c bar p σ=some r→zaK d bar p σ=some r:=by
 induction p with
 | fin=>exact fun _ _ e=>e
 | seq i s p ih=>exact zgd h ih
 | one i s p ih=>exact fun σ r e=>zgd (i:=i) (s:=s) h ih σ r e
 | alt i s p q ih ih2 =>
  intro σ r e
  rw [zaE] at e ⊢
  split at e
  ·rename_i a b h1 h2
   rw [zgd h ih σ _ h1,ih2 σ _ h2]
   exact e
  ·cases e
theorem zlp {b1 b2:EH→Option (AExit×EH)} (h: ∀ s r,b1 s=some r→b2 s=some r): ∀ (n m:Nat) (s:EH) (r),n≤m→zkr b1 n s=some r→zkr b2 m s=some r
 | 0,_,_,_,_,e=>by cases e
 | n+1,0,_,_,l,_=>by omega
 | n+1,m+1,s,r,l,e=>by
  simp only [zkr] at e ⊢
  split at e
  ·rename_i τ hs;rw [h _ _ hs];exact zlp h n m τ r (by omega) e
  ·rename_i hs
   have:=h s r e
   rw [this]
   split
   ·rename_i τ hq;cases hq;exact absurd e (hs τ)
   ·rfl
theorem zky (h:c.le d) {n m:Nat} (l:n≤m): ∀ (a:ACode) (s:EH) (r),ev c bar n a s=some r→ev d bar m a s=some r
 | .skip,_,_,e=>e
 | .region ops,s,r,e=>by
  simp only [ev] at e ⊢
  split at e
  ·rename_i x σ hs;rw [zh7 h _ _ _ hs];exact e
  ·cases e
 | .draw p,s,r,e=>by
  simp only [ev] at e ⊢
  split at e
  ·rename_i x σ hs;rw [zhd h _ _ _ hs];exact e
  ·cases e
 | .seq a b,s,r,e=>by
  simp only [ev] at e ⊢
  split at e
  ·rename_i τ hs;rw [zky h l a _ _ hs];exact zky h l b τ r e
  ·rename_i hs
   have:=zky h l a s r e
   rw [this]
   split
   ·rename_i τ hq;cases hq;exact absurd e (hs τ)
   ·rfl
 | .cond clr x a b,s,r,e=>by
  simp only [ev] at e ⊢
  split at e
  ·exact zky h l a _ _ e
  ·exact zky h l b _ _ e
  ·cases e
 | .block id a,s,r,e=>by
  simp only [ev] at e ⊢
  split at e
  ·rename_i i τ hs;rw [zky h l a _ _ hs];exact e
  ·rename_i hs
   have:=zky h l a s r e
   rw [this]
   split
   ·rename_i i τ hq;cases hq;exact absurd e (hs i τ)
   ·rfl
 | .loop a,s,r,e=>zlp (fun s r=>zky h l a s r) n m s r l e
 | .exit _,_,_,e=>e
 | .ret,_,_,e=>e
theorem zsb (h:c.le d) {n m:Nat} (l:n≤m) (F:AFunc) (as:List AV) (H:Heap) (r) (e:zwA c n bar F as H=some r):zwA d m bar F as H=some r:=by
 simp only [zwA] at e ⊢
 cases hb:Nat.beq as.length F.np<;>rw [hb] at e<;>simp only [cond_true,cond_false] at e ⊢
 ·cases e
 ·split at e
  ·rename_i s hs;rw [zky h l _ _ _ hs];exact e
  ·rename_i s hs;rw [zky h l _ _ _ hs];exact e
  ·rename_i v s hs;rw [zky h l _ _ _ hs];exact e
  ·cases e
theorem zum {n0:Nat} {H:Heap} {x y:Option (Out×Heap)} (h: ∀ r,x=some r→y=some r) (r) (e:zeu n0 H x=some r):zeu n0 H y=some r:=by
 cases x with
 | none=>simp [zeu] at e
 | some a=>rw [h a rfl];exact e
end mono
def zbM (sp:Nat→(Nat→CallF)→Nat→CallF):Prop:= ∀ n m (c d:Nat→CallF) bar,n≤m→(∀ b,CallF.le (c b) (d b))→CallF.le (sp n c bar) (sp m d bar)
section
variable {fs:Nat→Option AFunc} {sp:Nat→(Nat→CallF)→Nat→CallF}
theorem zex (hs:zbM sp): ∀ (n m:Nat) (bar:Nat),n≤m→CallF.le (run fs sp n bar) (run fs sp m bar)
 | 0,_,_,_,_,_,_,_,e=>by cases e
 | n+1,0,_,l,_,_,_,_,_=>by omega
 | n+1,m+1,bar,l,f,as,H,r,e=>by
  have ih:=fun b=>zex hs n m b (by omega)
  simp only [run] at e ⊢
  split at e
  ·rename_i hf;exact hs n m _ _ bar (by omega) ih f as H r e
  ·rename_i F hf
   cases hp:F.pure<;>rw [hp] at e<;>simp only [cond_true,cond_false] at e ⊢
   ·exact zsb (ih bar) (by omega) F as H r e
   ·cases hc:zcQ as<;>rw [hc] at e<;>simp only [cond_true,cond_false] at e ⊢
    ·exact zum (fun r e=>zsb (ih _) (by omega) F as H r e) r e
    ·exact zum (fun r e=>zsb (ih _) (by omega) F as [] r e) r e
theorem zt5 (hs:zbM sp) (bar f:Nat) (as:List AV) (H:Heap):Mono (fun n=>run fs sp n bar f as H) :=
 fun n m a l e=>zex hs n m bar l f as H a e
variable (fs sp) in
noncomputable def Rn (bar:Nat):CallF:=fun f as H=>limit fun n=>run fs sp n bar f as H
variable (fs sp) in
noncomputable def evI (bar:Nat) (a:ACode) (s:EH):Option (AExit×EH):=limit fun n=>ev (run fs sp n bar) bar n a s
variable (fs sp) in
noncomputable def zC5 (bar:Nat) (F:AFunc) (as:List AV) (H:Heap):Option (Out×Heap) :=
 bif Nat.beq as.length F.np then
  match evI fs sp bar F.body (zaw F.vars as,H) with
  | some (.norm,s)=>match zek s F.res with
   | some v=>some (.ret v,s.2)
   | none=>none
  | some (.ret,s)=>match zek s F.res with
   | some v=>some (.ret v,s.2)
   | none=>none
  | some (.pan v,s)=>some (.pan v,s.2)
  | _=>none
 else none
theorem zx2 (hs:zbM sp) (bar:Nat) (a:ACode) (s:EH):Mono (fun n=>ev (run fs sp n bar) bar n a s) :=
 fun n m r l e=>zky (zex hs n m bar l) l a s r e
theorem zBu (hs:zbM sp) (bar:Nat) (a:ACode) (s:EH) (n m:Nat) (r) (l:n≤m) (e:ev (run fs sp n bar) bar n a s=some r):ev (run fs sp m bar) bar m a s=some r:=zx2 hs bar a s n m r l e
theorem zgY (hs:zbM sp) {bar f as H r}:Rn fs sp bar f as H=some r↔ ∃ n,run fs sp n bar f as H=some r:=zfD (zt5 hs bar f as H)
theorem za7 (hs:zbM sp) {bar a s r}:evI fs sp bar a s=some r↔ ∃ n,ev (run fs sp n bar) bar n a s=some r:=zfD (zx2 hs bar a s)
theorem zp7 (hs:zbM sp) (n bar:Nat):CallF.le (run fs sp n bar) (Rn fs sp bar):=fun _ _ _ _ e=>(zgY hs).2 ⟨n,e⟩
theorem zqH (hs:zbM sp) (bar:Nat) (op:AOp) (σ:St) (r) (e:zbh (Rn fs sp bar) bar op σ=some r): ∃ n,zbh (run fs sp n bar) bar op σ=some r:=by
 cases op
 case call f xs =>
  simp only [zbh] at e ⊢
  split at e
  ·rename_i as σ' ha
   split at e
   ·rename_i v H hc;obtain ⟨n,hn⟩:=(zgY hs).1 hc;exact ⟨n,by rw [hn];exact e⟩
   ·rename_i v H hc;obtain ⟨n,hn⟩:=(zgY hs).1 hc;exact ⟨n,by rw [hn];exact e⟩
   ·cases e
  ·cases e
 case callv x xs =>
  simp only [zbh] at e ⊢
  split at e
  ·rename_i f cap hx
   split at e
   ·rename_i as σ' ha
    split at e
    ·rename_i v H hc;obtain ⟨n,hn⟩:=(zgY hs).1 hc;exact ⟨n,by rw [hn];exact e⟩
    ·rename_i v H hc;obtain ⟨n,hn⟩:=(zgY hs).1 hc;exact ⟨n,by rw [hn];exact e⟩
    ·cases e
   ·cases e
  ·cases e
 all_goals exact ⟨0,e⟩
theorem zhW (hs:zbM sp) (bar:Nat) (s:AStep) (σ:St) (r) (e:zcL (Rn fs sp bar) bar s σ=some r): ∃ n,zcL (run fs sp n bar) bar s σ=some r:=by
 simp only [zcL] at e ⊢
 split at e
 ·split at e
  ·rename_i a τ ho;obtain ⟨n,hn⟩:=zqH hs _ _ _ _ ho;exact ⟨n,by rw [hn];exact e⟩
  ·rename_i a τ ho;obtain ⟨n,hn⟩:=zqH hs _ _ _ _ ho;exact ⟨n,by rw [hn];exact e⟩
  ·cases e
 ·exact ⟨0,e⟩
 ·cases e
theorem zkV (hs:zbM sp) (bar:Nat): ∀ (l:List AStep) (σ:St) (r),zaL (Rn fs sp bar) bar l σ=some r→ ∃ n,zaL (run fs sp n bar) bar l σ=some r
 | [],_,_,e=>⟨0,e⟩
 | s::l, σ,r,e=>by
  simp only [zaL] at e ⊢
  split at e
  ·rename_i τ h1
   obtain ⟨n,hn⟩:=zhW hs bar s σ _ h1
   obtain ⟨m,hm⟩:=zkV hs bar l τ r e
   refine ⟨max n m,?_⟩
   rw [zhV (zex hs n (max n m) bar (Nat.le_max_left ..)) _ _ _ hn]
   exact zh7 (zex hs m (max n m) bar (Nat.le_max_right ..)) _ _ _ hm
  ·rename_i h1
   obtain ⟨n,hn⟩:=zhW hs bar s σ r e
   refine ⟨n,?_⟩
   rw [hn]
   split
   ·rename_i τ hq;cases hq;exact absurd e (h1 τ)
   ·rfl
theorem zeL (hs:zbM sp) (bar:Nat) {i:Nat} {s:AStep} {p:Plan} (ih: ∀ (σ:St) (r),zaK (Rn fs sp bar) bar p σ=some r→ ∃ n,zaK (run fs sp n bar) bar p σ=some r) (σ:St) (r)
  (e:zaK (Rn fs sp bar) bar (.seq i s p) σ=some r): ∃ n,zaK (run fs sp n bar) bar (.seq i s p) σ=some r:=by
 simp only [zaK] at e ⊢
 split at e
 ·rename_i τ h1
  obtain ⟨n,hn⟩:=zhW hs bar s σ _ h1
  obtain ⟨m,hm⟩:=ih τ r e
  refine ⟨max n m,?_⟩
  rw [zhV (zex hs n (max n m) bar (Nat.le_max_left ..)) _ _ _ hn]
  exact zhd (zex hs m (max n m) bar (Nat.le_max_right ..)) _ _ _ hm
 ·rename_i h1
  obtain ⟨n,hn⟩:=zhW hs bar s σ r e
  refine ⟨n,?_⟩
  rw [hn]
  split
  ·rename_i τ hq;cases hq;exact absurd e (h1 τ)
  ·rfl
theorem zsS (hs:zbM sp) (bar:Nat) (p:Plan): ∀ (σ:St) (r),zaK (Rn fs sp bar) bar p σ=some r→ ∃ n,zaK (run fs sp n bar) bar p σ=some r:=by
 induction p with
 | fin=>exact fun _ _ e=>⟨0,e⟩
 | seq i s p ih=>exact zeL hs bar ih
 | one i s p ih=>exact fun σ r e=>zeL (i:=i) (s:=s) hs bar ih σ r e
 | alt i s p q ih ih2 =>
  intro σ r e
  simp only [zaE] at e ⊢
  split at e
  ·rename_i a b h1 h2
   obtain ⟨n,hn⟩:=zeL hs bar ih σ _ h1
   obtain ⟨m,hm⟩:=ih2 σ _ h2
   refine ⟨max n m,?_⟩
   rw [zhd (zex hs n (max n m) bar (Nat.le_max_left ..)) _ _ _ hn,zhd (zex hs m (max n m) bar (Nat.le_max_right ..)) _ _ _ hm]
   exact e
  ·cases e
-- the equations
theorem zbI (bar:Nat) (s:EH):evI fs sp bar .skip s=some (.norm,s):=zf9 _
theorem zBw (bar id:Nat) (s:EH):evI fs sp bar (.exit id) s=some (.exit id,s):=zf9 _
theorem zF6 (bar:Nat) (s:EH):evI fs sp bar .ret s=some (.ret,s):=zf9 _
theorem zv4 (hs:zbM sp) (bar:Nat) (ops:List AStep) (s:EH):evI fs sp bar (.region ops) s=(match zaL (Rn fs sp bar) bar ops ⟨s.1,[],[],s.2⟩ with
  | some (e, σ)=>some (e,(σ.env, σ.H))
  | none=>none):=by
 apply Option.ext
 intro r
 rw [za7 hs]
 constructor
 ·intro ⟨n,hn⟩
  simp only [ev] at hn
  split at hn
  ·rename_i e σ h1;rw [zh7 (zp7 hs n bar) _ _ _ h1];exact hn
  ·cases hn
 ·intro h
  split at h
  ·rename_i e σ h1
   obtain ⟨n,hn⟩:=zkV hs bar _ _ _ h1
   exact ⟨n,by simp only [ev];rw [hn];exact h⟩
  ·cases h
theorem zBx (hs:zbM sp) (bar:Nat) (p:Plan) (s:EH):evI fs sp bar (.draw p) s=(match zaK (Rn fs sp bar) bar p ⟨s.1,[],[],s.2⟩ with
  | some (e, σ)=>some (e,(σ.env, σ.H))
  | none=>none):=by
 apply Option.ext
 intro r
 rw [za7 hs]
 constructor
 ·intro ⟨n,hn⟩
  simp only [ev] at hn
  split at hn
  ·rename_i e σ h1;rw [zhd (zp7 hs n bar) _ _ _ h1];exact hn
  ·cases hn
 ·intro h
  split at h
  ·rename_i e σ h1
   obtain ⟨n,hn⟩:=zsS hs bar _ _ _ h1
   exact ⟨n,by simp only [ev];rw [hn];exact h⟩
  ·cases h
theorem zF5 (hs:zbM sp) (bar:Nat) (a b:ACode) (s:EH):evI fs sp bar (.seq a b) s=(match evI fs sp bar a s with
  | some (.norm,s)=>evI fs sp bar b s
  | r=>r):=by
 apply Option.ext
 intro r
 rw [za7 hs]
 constructor
 ·intro ⟨n,hn⟩
  simp only [ev] at hn
  split at hn
  ·rename_i τ h1;rw [(za7 hs).2 ⟨n,h1⟩];exact (za7 hs).2 ⟨n,hn⟩
  ·rename_i h1
   rw [(za7 hs).2 ⟨n,hn⟩]
   split
   ·rename_i τ hq;cases hq;exact absurd hn (h1 τ)
   ·rfl
 ·intro h
  split at h
  ·rename_i τ h1
   obtain ⟨n,hn⟩:=(za7 hs).1 h1
   obtain ⟨m,hm⟩:=(za7 hs).1 h
   refine ⟨max n m,?_⟩
   simp only [ev]
   rw [zBu hs bar a s n (max n m) _ (Nat.le_max_left ..) hn]
   exact zBu hs bar b τ m (max n m) _ (Nat.le_max_right ..) hm
  ·rename_i h1
   obtain ⟨n,hn⟩:=(za7 hs).1 h
   refine ⟨n,?_⟩
   simp only [ev]
   rw [hn]
   split
   ·rename_i τ hq;cases hq;exact absurd h (h1 τ)
   ·rfl
theorem zBy (hs:zbM sp) (bar:Nat) (clr:Bool) (c:Opd) (x y:ACode) (s:EH):evI fs sp bar (.cond clr c x y) s=(match zv8 s clr c with
  | some (true,s)=>evI fs sp bar x s
  | some (false,s)=>evI fs sp bar y s
  | none=>none):=by
 apply Option.ext
 intro r
 rw [za7 hs]
 simp only [ev]
 cases hc:zv8 s clr c with
 | none=>simp
 | some q =>
  obtain ⟨b,s'⟩:=q
  cases b
  ·exact (za7 hs).symm
  ·exact (za7 hs).symm
theorem zx4 (hs:zbM sp) (bar id:Nat) (c:ACode) (s:EH):evI fs sp bar (.block id c) s=(match evI fs sp bar c s with
  | some (.exit i,s)=>bif Nat.beq i id then some (.norm,s) else some (.exit i,s)
  | r=>r):=by
 apply Option.ext
 intro r
 rw [za7 hs]
 constructor
 ·intro ⟨n,hn⟩
  simp only [ev] at hn
  split at hn
  ·rename_i i τ h1;rw [(za7 hs).2 ⟨n,h1⟩];exact hn
  ·rename_i h1
   rw [(za7 hs).2 ⟨n,hn⟩]
   split
   ·rename_i i τ hq;cases hq;exact absurd hn (h1 i τ)
   ·rfl
 ·intro h
  split at h
  ·rename_i i τ h1
   obtain ⟨n,hn⟩:=(za7 hs).1 h1
   refine ⟨n,?_⟩
   simp only [ev]
   rw [hn];exact h
  ·rename_i h1
   obtain ⟨n,hn⟩:=(za7 hs).1 h
   refine ⟨n,?_⟩
   simp only [ev]
   rw [hn]
   split
   ·rename_i i τ hq;cases hq;exact absurd h (h1 i τ)
   ·rfl
theorem zBv (hs:zbM sp) (bar:Nat) (c:ACode) (s:EH):evI fs sp bar (.loop c) s=(match evI fs sp bar c s with
  | some (.norm,s)=>evI fs sp bar (.loop c) s
  | r=>r):=by
 apply Option.ext
 intro r
 rw [za7 hs]
 constructor
 ·intro ⟨n,hn⟩
  cases n with
  | zero=>simp [ev,zkr] at hn
  | succ n =>
   simp only [ev,zkr] at hn
   split at hn
   ·rename_i τ h1
    rw [(za7 hs).2 ⟨n+1,h1⟩]
    refine (za7 hs).2 ⟨n+1,?_⟩
    simp only [ev]
    exact zlp (fun _ _ h=>h) n (n+1) τ r (by omega) hn
   ·rename_i h1
    rw [(za7 hs).2 ⟨n+1,hn⟩]
    split
    ·rename_i τ hq;cases hq;exact absurd hn (h1 τ)
    ·rfl
 ·intro h
  split at h
  ·rename_i τ h1
   obtain ⟨n,hn⟩:=(za7 hs).1 h1
   obtain ⟨m,hm⟩:=(za7 hs).1 h
   refine ⟨max n m+1,?_⟩
   simp only [ev,zkr]
   rw [zBu hs bar c s n (max n m+1) _ (by omega) hn]
   simp only [ev] at hm
   exact zlp (fun s r=>zky (zex hs m (max n m+1) bar (by omega)) (by omega) c s r) m (max n m) τ r (by omega) hm
  ·rename_i h1
   obtain ⟨n,hn⟩:=(za7 hs).1 h
   refine ⟨n+1,?_⟩
   simp only [ev,zkr]
   rw [zBu hs bar c s n (n+1) _ (by omega) hn]
   split
   ·rename_i τ hq;cases hq;exact absurd h (h1 τ)
   ·rfl
theorem zjb (hs:zbM sp) {bar F as H r}:zC5 fs sp bar F as H=some r↔ ∃ n,zwA (run fs sp n bar) n bar F as H=some r:=by
 simp only [zC5,zwA]
 cases hb:Nat.beq as.length F.np<;>simp only [cond_true,cond_false]
 ·simp
 ·constructor
  ·intro h
   split at h
   ·rename_i s h1;obtain ⟨n,hn⟩:=(za7 hs).1 h1;exact ⟨n,by rw [hn];exact h⟩
   ·rename_i s h1;obtain ⟨n,hn⟩:=(za7 hs).1 h1;exact ⟨n,by rw [hn];exact h⟩
   ·rename_i v s h1;obtain ⟨n,hn⟩:=(za7 hs).1 h1;exact ⟨n,by rw [hn];exact h⟩
   ·cases h
  ·intro ⟨n,h⟩
   split at h
   ·rename_i s h1;rw [(za7 hs).2 ⟨n,h1⟩];exact h
   ·rename_i s h1;rw [(za7 hs).2 ⟨n,h1⟩];exact h
   ·rename_i v s h1;rw [(za7 hs).2 ⟨n,h1⟩];exact h
   ·cases h
theorem zje {n0:Nat} {H:Heap} {x:Option (Out×Heap)} {r}:zeu n0 H x=some r↔ ∃ q,x=some q∧zeu n0 H (some q)=some r:=by
 cases x with
 | none=>simp [zeu]
 | some q=>simp
theorem zwx (hs:zbM sp) {f:Nat} {F:AFunc} (hf:fs f=some F) (bar:Nat) (as:List AV) (H:Heap):Rn fs sp bar f as H =
  bif F.pure then (bif zcQ as then zeu 0 H (zC5 fs sp 0 F as []) else zeu H.length H (zC5 fs sp H.length F as H)) else zC5 fs sp bar F as H:=by
 apply Option.ext
 intro r
 rw [zgY hs]
 have key:(∃ n,run fs sp n bar f as H=some r)↔ ∃ n,run fs sp (n+1) bar f as H=some r:=by
  constructor
  ·intro ⟨n,hn⟩;exact ⟨n,zt5 hs bar f as H n (n+1) r (by omega) hn⟩
  ·intro ⟨n,hn⟩;exact ⟨_,hn⟩
 rw [key]
 simp only [run,hf]
 cases F.pure<;>simp only [cond_true,cond_false]
 ·rw [zjb hs]
 ·cases zcQ as<;>simp only [cond_true,cond_false]
  ·rw [zje]
   constructor
   ·intro ⟨n,hn⟩
    obtain ⟨q,h1,h2⟩:=zje.1 hn
    exact ⟨q,(zjb hs).2 ⟨n,h1⟩,h2⟩
   ·intro ⟨q,h1,h2⟩
    obtain ⟨n,hn⟩:=(zjb hs).1 h1
    exact ⟨n,by rw [hn];exact h2⟩
  ·rw [zje]
   constructor
   ·intro ⟨n,hn⟩
    obtain ⟨q,h1,h2⟩:=zje.1 hn
    exact ⟨q,(zjb hs).2 ⟨n,h1⟩,h2⟩
   ·intro ⟨q,h1,h2⟩
    obtain ⟨n,hn⟩:=(zjb hs).1 h1
    exact ⟨n,by rw [hn];exact h2⟩
theorem zHz (hs:zbM sp) {f:Nat} (hf:fs f=none) (bar:Nat) (as:List AV) (H:Heap):Rn fs sp bar f as H=limit fun n=>sp n (run fs sp n) bar f as H:=by
 have hm:Mono fun n=>sp n (run fs sp n) bar f as H:=fun n m a l e=>hs n m _ _ bar l (fun b=>zex hs n m b l) f as H a e
 apply Option.ext
 intro r
 rw [zgY hs,zfD hm]
 constructor
 ·intro ⟨n,hn⟩
  cases n with
  | zero=>cases hn
  | succ n=>simp only [run,hf] at hn;exact ⟨n,hn⟩
 ·intro ⟨n,hn⟩
  exact ⟨n+1,by simp only [run,hf];exact hn⟩
end
end Go.Ak
namespace Go.Ak
def zk4:Nat→Nat→Nat→List Nat
 | 0,_,_=> []
 | n+1,t,m=>bif Nat.beq m 0 then [] else bif Nat.beq (m%2) 1 then t::zk4 n (t+1) (m/2) else zk4 n (t+1) (m/2)
def mkE (m:Nat) (v:Nat→AV):List (Nat×AV):=(zk4 m 0 m).map fun t=>(t,v t)
def st (v:Nat→AV) (t:Nat) (a:AV):Nat→AV:=fun u=>if u=t then a else v u
def noV:Nat→AV:=fun _=> .undef
theorem zgZ (v:Nat→AV) (t:Nat) (a:AV) (u:Nat):st v t a u=if u=t then a else v u:=rfl
theorem zf8 (a b:Nat):Nat.beq a b=decide (a=b):=by
 cases h:Nat.beq a b
 ·exact (decide_eq_false (Nat.ne_of_beq_eq_false h)).symm
 ·exact (decide_eq_true (Nat.eq_of_beq_eq_true h)).symm
theorem zpW (a b:Nat):Nat.ble a b=decide (a≤b):=by
 cases h:Nat.ble a b
 ·exact (decide_eq_false (fun k=>by rw [Nat.ble_eq_true_of_le k] at h;cases h)).symm
 ·exact (decide_eq_true (Nat.le_of_ble_eq_true h)).symm
theorem zqn (a b:Nat):Nat.blt a b=decide (a<b):=by
 unfold Nat.blt;rw [zpW];rfl
theorem zbk (k:Nat) (a:AV) (r:List (Nat×AV)) (t:Nat):look ((k,a)::r) t=if k=t then a else look r t:=by
 simp only [look,zf8];by_cases h:k=t<;>simp [h]
theorem zbO (k:Nat) (r:List Nat) (t:Nat):ver (k::r) t=if k=t then ver r t+1 else ver r t:=by
 simp only [ver,zf8];by_cases h:k=t<;>simp [h]
theorem zpk: ∀ (n t m u:Nat),u∈zk4 n t m→t≤u
 | 0,_,_,_,h=>by simp [zk4] at h
 | n+1,t,m,u,h=>by
  simp only [zk4] at h
  cases h0:Nat.beq m 0<;>rw [h0] at h<;>simp only [cond_true,cond_false] at h
  ·cases h1:Nat.beq (m%2) 1<;>rw [h1] at h<;>simp only [cond_true,cond_false] at h
   ·have:=zpk n _ _ u h;omega
   ·rcases List.mem_cons.1 h with e | h
    ·omega
    ·have:=zpk n _ _ u h;omega
  ·cases h
theorem zuu (v:Nat→AV): ∀ (l:List Nat) (t:Nat),look (l.map fun t=>(t,v t)) t=if t∈l then v t else .undef
 | [],_=>by simp [look]
 | k::l,t=>by
  rw [List.map_cons,zbk,zuu v l t]
  by_cases h:k=t
  ·subst h;simp
  ·have: ¬ t=k:=fun e=>h e.symm
   simp [h,this]
theorem zq3: ∀ (n t m u:Nat),m<2^n→(u∈zk4 n t m↔t≤u∧(m >>> (u-t))%2=1)
 | 0,t,m,u,h=>by
  have:m=0:=by simpa using h
  subst this;simp [zk4]
 | n+1,t,m,u,h=>by
  simp only [zk4,zf8]
  by_cases h0:m=0
  ·subst h0;simp
  ·have hd:m/2<2^n:=by rw [Nat.pow_succ] at h;omega
   have ih:=zq3 n (t+1) (m/2) u hd
   have hsh: ∀ k,(m/2) >>> k=m >>> (k+1):=fun k=>by
    rw [Nat.shiftRight_eq_div_pow,Nat.shiftRight_eq_div_pow,Nat.div_div_eq_div_mul,Nat.pow_succ,Nat.mul_comm]
   rw [hsh] at ih
   by_cases hu:u=t
   ·subst hu
    have: ¬ u+1≤u:=by omega
    simp only [this,false_and,iff_false] at ih
    by_cases h1:m%2=1<;>simp [h0,h1,ih]
   ·by_cases hl:t≤u
    ·have e:u-(t+1)+1=u-t:=by omega
     rw [e] at ih
     have hl':t+1≤u:=by omega
     simp only [hl',true_and] at ih
     by_cases h1:m%2=1<;>simp [h0,h1,ih,hu,hl]
    ·have hl': ¬ t+1≤u:=by omega
     simp only [hl',false_and,iff_false] at ih
     by_cases h1:m%2=1<;>simp [h0,h1,ih,hu,hl]
theorem zbS (m:Nat) (v:Nat→AV) (t:Nat):look (mkE m v) t=if (m >>> t)%2=1 then v t else .undef:=by
 unfold mkE
 rw [zuu]
 have:=zq3 m 0 m t Nat.lt_two_pow_self
 simp only [Nat.zero_le,true_and,Nat.sub_zero] at this
 simp only [this]
theorem ziJ: ∀ (n t m:Nat),(zk4 n t m).Nodup
 | 0,_,_=>by simp [zk4]
 | n+1,t,m=>by
  simp only [zk4]
  cases h0:Nat.beq m 0<;>simp only [cond_true,cond_false]
  ·cases h1:Nat.beq (m%2) 1<;>simp only [cond_true,cond_false]
   ·exact ziJ n _ _
   ·exact List.nodup_cons.2 ⟨fun h=>by have:=zpk _ _ _ _ h;omega,ziJ n _ _⟩
  ·simp
theorem zwH (v:Nat→AV) (t:Nat) (a:AV): ∀ (l:List Nat),l.Nodup→upd (l.map fun t=>(t,v t)) t a=l.map fun u=>(u,st v t a u)
 | [],_=>rfl
 | k::l,h=>by
  obtain ⟨h1,h2⟩:=List.nodup_cons.1 h
  simp only [List.map_cons,upd,zf8]
  by_cases e:k=t
  ·subst e
   have:(l.map fun u=>(u,st v k a u))=l.map fun u=>(u,v u):=List.map_congr_left fun u hu=>by
    have:u≠k:=fun e=>h1 (e▸hu)
    simp [st,this]
   rw [this];simp [st]
  ·simp [e,st,zwH v t a l h2]
theorem zcM (m:Nat) (v:Nat→AV) (t:Nat) (a:AV):upd (mkE m v) t a=mkE m (st v t a):=zwH v t a _ (ziJ _ _ _)
section
variable {fs:Nat→Option AFunc} {sp:Nat→(Nat→CallF)→Nat→CallF} {hs:zbM sp} {bar:Nat}
def Wp (x:Option (AExit×EH)) (Q:AExit→EH→Prop):Prop:= ∃ e s,x=some (e,s)∧Q e s
theorem Wp.mono {x:Option (AExit×EH)} {Q R:AExit→EH→Prop} (h:Wp x Q) (k: ∀ e s,Q e s→R e s):Wp x R:=by
 obtain ⟨e,s,h1,h2⟩:=h;exact ⟨e,s,h1,k e s h2⟩
theorem zbd {e:AExit} {s:EH} {Q:AExit→EH→Prop}:Wp (some (e,s)) Q↔Q e s:=by
 constructor
 ·intro ⟨e',s',h1,h2⟩;cases h1;exact h2
 ·intro h;exact ⟨e,s,rfl,h⟩
theorem zhQ {Q:AExit→EH→Prop}:Wp none Q↔False:=by
 constructor
 ·intro ⟨_,_,h,_⟩;cases h
 ·exact False.elim
def andThen (f:EH→Option (AExit×EH)) (Q:AExit→EH→Prop) (e:AExit) (s:EH):Prop :=
 match e with
 | .norm=>Wp (f s) Q
 | e=>Q e s
def zlQ (id:Nat) (Q:AExit→EH→Prop) (e:AExit) (s:EH):Prop :=
 match e with
 | .exit i=>if i=id then Q .norm s else Q (.exit i) s
 | e=>Q e s
variable (hs)
theorem zc2 {s:EH} {Q}:Wp (evI fs sp bar .skip s) Q↔Q .norm s:=by rw [zbI,zbd]
theorem zc3 {id:Nat} {s:EH} {Q}:Wp (evI fs sp bar (.exit id) s) Q↔Q (.exit id) s:=by rw [zBw,zbd]
theorem zey {s:EH} {Q}:Wp (evI fs sp bar .ret s) Q↔Q .ret s:=by rw [zF6,zbd]
include hs in
theorem zad {a b:ACode} {s:EH} {Q}:Wp (evI fs sp bar (.seq a b) s) Q↔Wp (evI fs sp bar a s) (andThen (evI fs sp bar b) Q):=by
 rw [zF5 hs]
 cases h:evI fs sp bar a s with
 | none=>rw [zhQ,zhQ]
 | some q =>
  obtain ⟨e,s'⟩:=q
  rw [zbd]
  cases e<;>simp only [andThen]
  all_goals rw [zbd]
include hs in
theorem zab {id:Nat} {c:ACode} {s:EH} {Q}:Wp (evI fs sp bar (.block id c) s) Q↔Wp (evI fs sp bar c s) (zlQ id Q):=by
 rw [zx4 hs]
 cases h:evI fs sp bar c s with
 | none=>rw [zhQ,zhQ]
 | some q =>
  obtain ⟨e,s'⟩:=q
  rw [zbd]
  cases e<;>simp only [zlQ]
  case exit i =>
   simp only [zf8]
   by_cases h:i=id<;>simp [h,zbd]
  all_goals rw [zbd]
include hs in
theorem zHx {c:ACode} {s:EH} {Q}:Wp (evI fs sp bar (.loop c) s) Q↔Wp (evI fs sp bar c s) (andThen (evI fs sp bar (.loop c)) Q):=by
 rw [zBv hs]
 cases h:evI fs sp bar c s with
 | none=>rw [zhQ,zhQ]
 | some q =>
  obtain ⟨e,s'⟩:=q
  rw [zbd]
  cases e<;>simp only [andThen]
  all_goals rw [zbd]
include hs in
theorem zah {c b:ACode} (h:c=b) {s:EH} {Q}:Wp (evI fs sp bar (.loop c) s) Q↔Wp (evI fs sp bar b s) (andThen (evI fs sp bar (.loop c)) Q):=by
 subst h;exact zHx hs
include hs in
theorem zac {clr:Bool} {t:Nat} {x y:ACode} {m:Nat} {v:Nat→AV} {H:Heap} {Q} {b:Bool} (hb:look (mkE m v) t= .bool b):Wp (evI fs sp bar (.cond clr (.v t) x y) (mkE m v,H)) Q ↔
  Wp (evI fs sp bar (bif b then x else y) (mkE m (bif clr then st v t .undef else v),H)) Q:=by
 rw [zBy hs]
 simp only [zv8,hb]
 cases clr<;>cases b<;>simp [zcM]
def Ws (x:Option (AExit×St)) (Q:AExit→EH→Prop):Prop:= ∃ e σ,x=some (e, σ)∧Q e (σ.env, σ.H)
theorem zcH {e:AExit} {σ:St} {Q:AExit→EH→Prop}:Ws (some (e, σ)) Q↔Q e (σ.env, σ.H):=by
 constructor
 ·intro ⟨e',s',h1,h2⟩;cases h1;exact h2
 ·intro h;exact ⟨e, σ,rfl,h⟩
theorem zAk {Q:AExit→EH→Prop}:Ws none Q↔False:=by
 constructor
 ·intro ⟨_,_,h,_⟩;cases h
 ·exact False.elim
include hs in
theorem zaa {ops:List AStep} {E:List (Nat×AV)} {H:Heap} {Q}:Wp (evI fs sp bar (.region ops) (E,H)) Q↔Ws (zaL (Rn fs sp bar) bar ops ⟨E,[],[],H⟩) Q:=by
 rw [zv4 hs]
 cases h:zaL (Rn fs sp bar) bar ops ⟨E,[],[],H⟩ with
 | none=>rw [zhQ,zAk]
 | some q=>obtain ⟨e, σ⟩:=q;rw [zbd,zcH]
include hs in
theorem zai {p:Plan} {E:List (Nat×AV)} {H:Heap} {Q}:Wp (evI fs sp bar (.draw p) (E,H)) Q↔Ws (zaK (Rn fs sp bar) bar p ⟨E,[],[],H⟩) Q:=by
 rw [zBx hs]
 cases h:zaK (Rn fs sp bar) bar p ⟨E,[],[],H⟩ with
 | none=>rw [zhQ,zAk]
 | some q=>obtain ⟨e, σ⟩:=q;rw [zbd,zcH]
theorem zaD {f:EH→Option (AExit×EH)} {Q} {s:EH}:andThen f Q .norm s↔Wp (f s) Q:=Iff.rfl
theorem zaW {f:EH→Option (AExit×EH)} {Q} {s:EH}:andThen f Q .ret s↔Q .ret s:=Iff.rfl
theorem zaN {f:EH→Option (AExit×EH)} {Q} {i:Nat} {s:EH}:andThen f Q (.exit i) s↔Q (.exit i) s:=Iff.rfl
theorem zaX {f:EH→Option (AExit×EH)} {Q} {a:AV} {s:EH}:andThen f Q (.pan a) s↔Q (.pan a) s:=Iff.rfl
theorem zbc {id:Nat} {Q:AExit→EH→Prop} {s:EH}:zlQ id Q .norm s↔Q .norm s:=Iff.rfl
theorem zbt {id:Nat} {Q:AExit→EH→Prop} {s:EH}:zlQ id Q .ret s↔Q .ret s:=Iff.rfl
theorem zbu {id:Nat} {Q:AExit→EH→Prop} {a:AV} {s:EH}:zlQ id Q (.pan a) s↔Q (.pan a) s:=Iff.rfl
theorem za6 {id:Nat} {Q:AExit→EH→Prop} {i:Nat} {s:EH}:zlQ id Q (.exit i) s↔if i=id then Q .norm s else Q (.exit i) s:=Iff.rfl
def fin (res:List ARes) (Q:Out→Heap→Prop) (e:AExit) (s:EH):Prop :=
 match e with
 | .norm | .ret=> ∃ v,zek s res=some v∧Q (.ret v) s.2
 | .pan v=>Q (.pan v) s.2
 | .exit _=>False
theorem zbY {res:List ARes} {Q} {s:EH}:fin res Q .norm s↔ ∃ v,zek s res=some v∧Q (.ret v) s.2:=Iff.rfl
theorem zcZ {res:List ARes} {Q} {s:EH}:fin res Q .ret s↔ ∃ v,zek s res=some v∧Q (.ret v) s.2:=Iff.rfl
theorem zc0 {res:List ARes} {Q} {s:EH} {v:AV}:fin res Q (.pan v) s↔Q (.pan v) s.2:=Iff.rfl
def Wc (x:Option (Out×Heap)) (Q:Out→Heap→Prop):Prop:= ∃ o H,x=some (o,H)∧Q o H
theorem Wc.mono {x:Option (Out×Heap)} {Q R:Out→Heap→Prop} (h:Wc x Q) (k: ∀ e s,Q e s→R e s):Wc x R:=by
 obtain ⟨e,s,h1,h2⟩:=h;exact ⟨e,s,h1,k e s h2⟩
theorem znb {x:Option (Out×Heap)} {o:Out} {H:Heap}:Wc x (fun p K=>p=o∧K=H)↔x=some (o,H):=by
 constructor
 ·intro ⟨p,K,h,h1,h2⟩;subst h1 h2;exact h
 ·intro h;exact ⟨o,H,h,rfl,rfl⟩
theorem zoN {F:AFunc} {as:List AV} {H:Heap} {Q} (hn:Nat.beq as.length F.np=true) (h:Wp (evI fs sp bar F.body (zaw F.vars as,H)) (fin F.res Q)):Wc (zC5 fs sp bar F as H) Q:=by
 obtain ⟨e,s,h1,h2⟩:=h
 simp only [zC5,hn,cond_true,h1]
 cases e with
 | norm=>obtain ⟨v,h3,h4⟩:=h2;simp only [h3];exact ⟨_,_,rfl,h4⟩
 | ret=>obtain ⟨v,h3,h4⟩:=h2;simp only [h3];exact ⟨_,_,rfl,h4⟩
 | pan v=>exact ⟨_,_,rfl,h2⟩
 | exit i=>exact h2.elim
include hs in
theorem za8 {f:Nat} {F:AFunc} (hf:fs f=some F) {as:List AV} {H:Heap} {Q} (hp:F.pure=false) (hn:Nat.beq as.length F.np=true) (h:Wp (evI fs sp bar F.body (zaw F.vars as,H)) (fin F.res Q)):Wc (Rn fs sp bar f as H) Q:=by
 rw [zwx hs hf,hp]
 exact zoN hn h
def thaw (n0:Nat) (Q:Out→Prop) (o:Out) (H:Heap):Prop :=
 match o with
 | .ret v=> ∃ u,frz n0 H v=some u∧Q (.ret u)
 | .pan v=> ∃ u,frz n0 H v=some u∧Q (.pan u)
theorem zbP {n0:Nat} {Q:Out→Prop} {v:AV} {H:Heap}:thaw n0 Q (.ret v) H↔ ∃ u,frz n0 H v=some u∧Q (.ret u):=Iff.rfl
theorem zbQ {n0:Nat} {Q:Out→Prop} {v:AV} {H:Heap}:thaw n0 Q (.pan v) H↔ ∃ u,frz n0 H v=some u∧Q (.pan u):=Iff.rfl
theorem zul {n0:Nat} {H:Heap} {x:Option (Out×Heap)} {Q:Out→Prop} (h:Wc x (thaw n0 Q)):Wc (zeu n0 H x) (fun o K=>Q o∧K=H):=by
 obtain ⟨o,K,h1,h2⟩:=h
 subst h1
 cases o with
 | ret v=>obtain ⟨u,h3,h4⟩:=h2;exact ⟨.ret u,H,by simp only [zeu,h3],h4,rfl⟩
 | pan v=>obtain ⟨u,h3,h4⟩:=h2;exact ⟨.pan u,H,by simp only [zeu,h3],h4,rfl⟩
include hs in
theorem zAl {f:Nat} {F:AFunc} (hf:fs f=some F) {as:List AV} {H:Heap} {Q} (hp:F.pure=true) (hc:zcQ as=true) (hn:Nat.beq as.length F.np=true) (h:Wp (evI fs sp 0 F.body (zaw F.vars as,[])) (fin F.res (thaw 0 Q))) :
  Wc (Rn fs sp bar f as H) (fun o K=>Q o∧K=H):=by
 rw [zwx hs hf,hp,hc]
 exact zul (zoN hn h)
include hs in
theorem zva {f:Nat} {F:AFunc} (hf:fs f=some F) {as:List AV} {H:Heap} {Q} (hp:F.pure=true) (hc:zcQ as=false) (hn:Nat.beq as.length F.np=true) (h:Wp (evI fs sp H.length F.body (zaw F.vars as,H)) (fin F.res (thaw H.length Q))) :
  Wc (Rn fs sp bar f as H) (fun o K=>Q o∧K=H):=by
 rw [zwx hs hf,hp,hc]
 exact zul (zoN hn h)
include hs in
theorem zao {f:Nat} {F:AFunc} (hf:fs f=some F) {as:List AV} {H:Heap} {r:AV} (hp:F.pure=true) (hc:zcQ as=true) (hn:Nat.beq as.length F.np=true) (h:Wp (evI fs sp 0 F.body (zaw F.vars as,[])) (fin F.res (thaw 0 (· = .ret r)))) :
  Rn fs sp bar f as H=some (.ret r,H):=znb.1 (zAl hs hf hp hc hn h)
include hs in
theorem ze7 {f:Nat} {F:AFunc} (hf:fs f=some F) {as:List AV} {H:Heap} {r:AV} (hp:F.pure=true) (hc:zcQ as=false) (hn:Nat.beq as.length F.np=true) (h:Wp (evI fs sp H.length F.body (zaw F.vars as,H)) (fin F.res (thaw H.length (· = .ret r)))) :
  Rn fs sp bar f as H=some (.ret r,H):=znb.1 (zva hs hf hp hc hn h)
end
theorem zaj (n:Int) (h: -9223372036854775808≤n∧n≤9223372036854775807):IntKind.i64.wrap n=n:=by
 have h1:(2:Int)^64=18446744073709551616:=by decide
 have h2:(2:Int)^63=9223372036854775808:=by decide
 simp only [IntKind.wrap,IntKind.bits,IntKind.signed,h1,h2,Bool.true_and,decide_eq_true_eq,Nat.reduceSub]
 split<;>omega
theorem zbU (sz:Nat):zj8 sz []=true:=rfl
theorem zbv (sz:Nat) (e:AV) (l:List AV):zj8 sz (e::l)=Nat.beq e.cells.length (step sz):=rfl
theorem zbX (n:Nat) (H:Heap) (b:Bool):frz n H (.bool b)=some (.bool b):=by simp [frz]
theorem zcY (n:Nat) (H:Heap) (k:IntKind) (i:Int):frz n H (.int k i)=some (.int k i):=by simp [frz]
theorem zcX (n:Nat) (H:Heap) (s:List UInt8):frz n H (.str s)=some (.str s):=by simp [frz]
theorem zbV (n:Nat) (H:Heap):frz n H .nils=some .nils:=by simp [frz]
theorem zbW (n:Nat) (H:Heap):frz n H .nilp=some .nilp:=by simp [frz]
def hget (H:Heap) (i:Nat):Option (Option (List AV)):=H[i]?
theorem zcW (H:Heap) (i:Nat):H[i]? = hget H i:=rfl
theorem zau {H:Heap} {i:Nat} {x:Option (List AV)} (h:hget H i=some x):i<H.length:=(List.getElem?_eq_some_iff.1 h).1
theorem zbb {H:Heap} {i:Nat} (l:Heap) (h:i<H.length):hget (H++l) i=hget H i:=List.getElem?_append_left h
theorem zba (H:Heap) (x:Option (List AV)):hget (H ++ [x]) H.length=some x:=by simp [hget]
theorem zjk (H:Heap) (x:Option (List AV)) (n:Nat) (h:n=H.length):hget (H ++ [x]) n=some x:=by subst h;exact zba H x
theorem zay {H:Heap} {i k:Nat} (x:Option (List AV)) (h:i≠k):hget (H.set i x) k=hget H k:=List.getElem?_set_ne h
theorem zae {H:Heap} {i:Nat} (x:Option (List AV)) (h:i<H.length):hget (H.set i x) i=some x:=List.getElem?_set_self h
theorem zaA (a:Option (List AV)) (l:Heap):hget (a::l) 0=some a:=rfl
theorem zaB (a:Option (List AV)) (l:Heap) (n:Nat):hget (a::l) (n+1)=hget l n:=rfl
theorem zbT (n:Nat):hget [] n=none:=by simp [hget]
abbrev num (n:Nat):AV:= .int .i64 n
end Go.Ak
namespace Go.Ak
theorem zIZ (x0 x1 x2:AV):zaw a159.vars [x0,x1,x2]=mkE 4227015 (st (st (st noV 0 x0) 1 x1) 2 x2):=rfl
theorem env8 (x0:AV):zaw a8.vars [x0]=mkE 61 (st noV 0 x0):=rfl
theorem env157 (x0 x1:AV):zaw a157.vars [x0,x1]=mkE 2233384077299 (st (st noV 0 x0) 1 x1):=rfl
theorem zDh (x0:AV):zaw a160.vars [x0]=mkE 5 (st noV 0 x0):=rfl
theorem env161:zaw a161.vars []=mkE 3 noV:=rfl
theorem zBz (x0 x1 x2:AV):zaw a80.vars [x0,x1,x2]=mkE 77446811471983961258852295 (st (st (st noV 0 x0) 1 x1) 2 x2):=rfl
theorem zuD (x0 x1 x2:AV):zaw a151.vars [x0,x1,x2]=mkE 1393966882245442077970300392704551965425607 (st (st (st noV 0 x0) 1 x1) 2 x2):=rfl
theorem env165:zaw a165.vars []=mkE 1 noV:=rfl
theorem env167 (x0 x1 x2:AV):zaw a167.vars [x0,x1,x2]=mkE 2229191 (st (st (st noV 0 x0) 1 x1) 2 x2):=rfl
theorem env168 (x0 x1 x2 x3:AV):zaw a168.vars [x0,x1,x2,x3]=mkE 33551 (st (st (st (st noV 0 x0) 1 x1) 2 x2) 3 x3):=rfl
theorem env169 (x0:AV):zaw a169.vars [x0]=mkE 5 (st noV 0 x0):=rfl
theorem env172 (x0:AV):zaw a172.vars [x0]=mkE 5 (st noV 0 x0):=rfl
theorem env14 (x0:AV):zaw a14.vars [x0]=mkE 269484285 (st noV 0 x0):=rfl
theorem env38 (x0:AV):zaw a38.vars [x0]=mkE 7 (st noV 0 x0):=rfl
theorem env10 (x0:AV):zaw a10.vars [x0]=mkE 33620477 (st noV 0 x0):=rfl
theorem env180 (x0:AV):zaw a180.vars [x0]=mkE 5 (st noV 0 x0):=rfl
theorem env94 (x0 x1:AV):zaw a94.vars [x0,x1]=mkE 4398063551475 (st (st noV 0 x0) 1 x1):=rfl
theorem zF7 (x0 x1:AV):zaw a95.vars [x0,x1]=mkE 115 (st (st noV 0 x0) 1 x1):=rfl
theorem env97 (x0 x1:AV):zaw a97.vars [x0,x1]=mkE 66483 (st (st noV 0 x0) 1 x1):=rfl
theorem env96 (x0:AV):zaw a96.vars [x0]=mkE 7 (st noV 0 x0):=rfl
theorem zI1 (x0 x1:AV):zaw a154.vars [x0,x1]=mkE 275 (st (st noV 0 x0) 1 x1):=rfl
theorem zI3 (x0 x1:AV):zaw a143.vars [x0,x1]=mkE 140737622837239 (st (st noV 0 x0) 1 x1):=rfl
theorem env188 (x0 x1 x2:AV):zaw a188.vars [x0,x1,x2]=mkE 8391 (st (st (st noV 0 x0) 1 x1) 2 x2):=rfl
theorem env44 (x0:AV):zaw a44.vars [x0]=mkE 1049213 (st noV 0 x0):=rfl
theorem env45 (x0:AV):zaw a45.vars [x0]=mkE 1103 (st noV 0 x0):=rfl
theorem env63 (x0:AV):zaw a63.vars [x0]=mkE 7 (st noV 0 x0):=rfl
theorem env34 (x0:AV):zaw a34.vars [x0]=mkE 2367 (st noV 0 x0):=rfl
theorem env42 (x0:AV):zaw a42.vars [x0]=mkE 39 (st noV 0 x0):=rfl
theorem zJu (x0 x1:AV):zaw a103.vars [x0,x1]=mkE 524339 (st (st noV 0 x0) 1 x1):=rfl
theorem zx6 (x0 x1:AV):zaw a104.vars [x0,x1]=mkE 4339 (st (st noV 0 x0) 1 x1):=rfl
theorem env46 (x0 x1:AV):zaw a46.vars [x0,x1]=mkE 22847157054575562436918159888043788588013600759 (st (st noV 0 x0) 1 x1):=rfl
theorem zI2 (x0 x1:AV):zaw a152.vars [x0,x1]=mkE 4202995 (st (st noV 0 x0) 1 x1):=rfl
theorem env194 (x0 x1:AV):zaw a194.vars [x0,x1]=mkE 19 (st (st noV 0 x0) 1 x1):=rfl
theorem env69 (x0 x1:AV):zaw a69.vars [x0,x1]=mkE 8307 (st (st noV 0 x0) 1 x1):=rfl
theorem env70 (x0 x1 x2:AV):zaw a70.vars [x0,x1,x2]=mkE 2722944318552834909416890706682699579855 (st (st (st noV 0 x0) 1 x1) 2 x2):=rfl
theorem env71 (x0:AV):zaw a71.vars [x0]=mkE 2361255369402436685855 (st noV 0 x0):=rfl
theorem env85 (x0 x1 x2:AV):zaw a85.vars [x0,x1,x2]=mkE 549760008655 (st (st (st noV 0 x0) 1 x1) 2 x2):=rfl
theorem env86 (x0 x1:AV):zaw a86.vars [x0,x1]=mkE 2099 (st (st noV 0 x0) 1 x1):=rfl
theorem env57 (x0:AV):zaw a57.vars [x0]=mkE 39 (st noV 0 x0):=rfl
theorem env59 (x0 x1 x2:AV):zaw a59.vars [x0,x1,x2]=mkE 19343108262865700173913047 (st (st (st noV 0 x0) 1 x1) 2 x2):=rfl
theorem zIY (x0 x1:AV):zaw a58.vars [x0,x1]=mkE 27 (st (st noV 0 x0) 1 x1):=rfl
theorem env65 (x0 x1 x2:AV):zaw a65.vars [x0,x1,x2]=mkE 1267650600670987429023578062959 (st (st (st noV 0 x0) 1 x1) 2 x2):=rfl
theorem env66 (x0:AV):zaw a66.vars [x0]=mkE 263952017659567 (st noV 0 x0):=rfl
theorem env43 (x0 x1 x2:AV):zaw a43.vars [x0,x1,x2]=mkE 2148535239 (st (st (st noV 0 x0) 1 x1) 2 x2):=rfl
theorem env72 (x0:AV):zaw a72.vars [x0]=mkE 159 (st noV 0 x0):=rfl
theorem env73 (x0 x1:AV):zaw a73.vars [x0,x1]=mkE 73022850035 (st (st noV 0 x0) 1 x1):=rfl
theorem env74 (x0 x1:AV):zaw a74.vars [x0,x1]=mkE 4202995 (st (st noV 0 x0) 1 x1):=rfl
theorem env75 (x0:AV):zaw a75.vars [x0]=mkE 4785353776964093 (st noV 0 x0):=rfl
theorem zI0 (x0:AV):zaw a155.vars [x0]=mkE 16669 (st noV 0 x0):=rfl
theorem env92 (x0 x1:AV):zaw a92.vars [x0,x1]=mkE 33554547 (st (st noV 0 x0) 1 x1):=rfl
theorem zIW (x0:AV):zaw a93.vars [x0]=mkE 524293 (st noV 0 x0):=rfl
theorem env3 (x0 x1:AV):zaw a3.vars [x0,x1]=mkE 2392674742044787 (st (st noV 0 x0) 1 x1):=rfl
theorem env87 (x0 x1:AV):zaw a87.vars [x0,x1]=mkE 67109107 (st (st noV 0 x0) 1 x1):=rfl
theorem zIX (x0 x1:AV):zaw a88.vars [x0,x1]=mkE 262259 (st (st noV 0 x0) 1 x1):=rfl
theorem zF8 (x0 x1:AV):zaw a89.vars [x0,x1]=mkE 70643760244403 (st (st noV 0 x0) 1 x1):=rfl
theorem env81 (x0:AV):zaw a81.vars [x0]=mkE 7 (st noV 0 x0):=rfl
theorem env82 (x0:AV):zaw a82.vars [x0]=mkE 584262617007 (st noV 0 x0):=rfl
theorem env83 (x0 x1 x2:AV):zaw a83.vars [x0,x1,x2]=mkE 126102713711727575 (st (st (st noV 0 x0) 1 x1) 2 x2):=rfl
theorem env91 (x0 x1:AV):zaw a91.vars [x0,x1]=mkE 19 (st (st noV 0 x0) 1 x1):=rfl
theorem env90 (x0 x1 x2:AV):zaw a90.vars [x0,x1,x2]=mkE 31 (st (st (st noV 0 x0) 1 x1) 2 x2):=rfl
theorem env35 (x0 x1 x2:AV):zaw a35.vars [x0,x1,x2]=mkE 199 (st (st (st noV 0 x0) 1 x1) 2 x2):=rfl
theorem zJv (x0 x1:AV):zaw a101.vars [x0,x1]=mkE 98735055699304187507286263408835596128243 (st (st noV 0 x0) 1 x1):=rfl
theorem zDj (x0 x1:AV):zaw a102.vars [x0,x1]=mkE 4874663954868102531948795 (st (st noV 0 x0) 1 x1):=rfl
theorem zIV (x0:AV):zaw a98.vars [x0]=mkE 8205 (st noV 0 x0):=rfl
theorem env99 (x0 x1:AV):zaw a99.vars [x0,x1]=mkE 76677619 (st (st noV 0 x0) 1 x1):=rfl
theorem zJw (x0 x1:AV):zaw a100.vars [x0,x1]=mkE 66483 (st (st noV 0 x0) 1 x1):=rfl
theorem env37 (x0 x1 x2 x3:AV):zaw a37.vars [x0,x1,x2,x3]=mkE 2379663764704762803983 (st (st (st (st noV 0 x0) 1 x1) 2 x2) 3 x3):=rfl
theorem env60 (x0 x1:AV):zaw a60.vars [x0,x1]=mkE 3 (st (st noV 0 x0) 1 x1):=rfl
theorem zDi (x0 x1 x2:AV):zaw a107.vars [x0,x1,x2]=mkE 1031 (st (st (st noV 0 x0) 1 x1) 2 x2):=rfl
theorem zJr (x0 x1:AV):zaw a108.vars [x0,x1]=mkE 240225565480938577807985484469345695599948758954541043 (st (st noV 0 x0) 1 x1):=rfl
theorem zJq (x0:AV):zaw a109.vars [x0]=mkE 13 (st noV 0 x0):=rfl
theorem zJp:zaw a110.vars []=mkE 1 noV:=rfl
theorem zJo (x0:AV):zaw a111.vars [x0]=mkE 137439019037 (st noV 0 x0):=rfl
theorem zJt (x0 x1:AV):zaw a105.vars [x0,x1]=mkE 723267678280255871351330443251 (st (st noV 0 x0) 1 x1):=rfl
theorem zJs (x0 x1:AV):zaw a106.vars [x0,x1]=mkE 549758435827 (st (st noV 0 x0) 1 x1):=rfl
theorem env61 (x0 x1 x2 x3:AV):zaw a61.vars [x0,x1,x2,x3]=mkE 39614082438300250541364643599 (st (st (st (st noV 0 x0) 1 x1) 2 x2) 3 x3):=rfl
theorem env62 (x0 x1:AV):zaw a62.vars [x0,x1]=mkE 23 (st (st noV 0 x0) 1 x1):=rfl
theorem zJh (x0 x1:AV):zaw a119.vars [x0,x1]=mkE 275 (st (st noV 0 x0) 1 x1):=rfl
theorem zfK (x0 x1:AV):zaw a120.vars [x0,x1]=mkE 83402540892580794972557710289011187 (st (st noV 0 x0) 1 x1):=rfl
theorem zJg (x0 x1:AV):zaw a121.vars [x0,x1]=mkE 10486899 (st (st noV 0 x0) 1 x1):=rfl
theorem zJf (x0:AV):zaw a122.vars [x0]=mkE 1048735 (st noV 0 x0):=rfl
theorem zJn (x0 x1 x2:AV):zaw a113.vars [x0,x1,x2]=mkE 7 (st (st (st noV 0 x0) 1 x1) 2 x2):=rfl
theorem zJm (x0 x1:AV):zaw a114.vars [x0,x1]=mkE 2342153315636223987 (st (st noV 0 x0) 1 x1):=rfl
theorem zJl (x0:AV):zaw a115.vars [x0]=mkE 7 (st noV 0 x0):=rfl
theorem zJj (x0:AV):zaw a117.vars [x0]=mkE 5 (st noV 0 x0):=rfl
theorem zJk (x0:AV):zaw a116.vars [x0]=mkE 369100829 (st noV 0 x0):=rfl
theorem zJi (x0:AV):zaw a118.vars [x0]=mkE 16777981 (st noV 0 x0):=rfl
theorem env84 (x0 x1:AV):zaw a84.vars [x0,x1]=mkE 23 (st (st noV 0 x0) 1 x1):=rfl
theorem zJe (x0 x1:AV):zaw a124.vars [x0,x1]=mkE 19 (st (st noV 0 x0) 1 x1):=rfl
theorem zJd (x0:AV):zaw a125.vars [x0]=mkE 328829003598998184994543613 (st noV 0 x0):=rfl
theorem zJc (x0 x1:AV):zaw a126.vars [x0,x1]=mkE 255 (st (st noV 0 x0) 1 x1):=rfl
theorem zJb (x0:AV):zaw a127.vars [x0]=mkE 63 (st noV 0 x0):=rfl
theorem zJa (x0 x1 x2:AV):zaw a128.vars [x0,x1,x2]=mkE 79 (st (st (st noV 0 x0) 1 x1) 2 x2):=rfl
theorem zI9 (x0 x1:AV):zaw a133.vars [x0,x1]=mkE 19 (st (st noV 0 x0) 1 x1):=rfl
theorem zI8 (x0:AV):zaw a134.vars [x0]=mkE 4221 (st noV 0 x0):=rfl
theorem zI7 (x0:AV):zaw a135.vars [x0]=mkE 72103773534683229 (st noV 0 x0):=rfl
theorem zI6 (x0 x1 x2:AV):zaw a136.vars [x0,x1,x2]=mkE 8399 (st (st (st noV 0 x0) 1 x1) 2 x2):=rfl
theorem zI5 (x0 x1:AV):zaw a137.vars [x0,x1]=mkE 19 (st (st noV 0 x0) 1 x1):=rfl
theorem zI4 (x0:AV):zaw a138.vars [x0]=mkE 89478493 (st noV 0 x0):=rfl
end Go.Ak
