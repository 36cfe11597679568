/- The functions that the law reaches, in the evaluator's words (checked against the loaded program in another part of the claim), and the evaluator without a bound. -/
import Derived.Test.YtfcgnpphabplbaaGreatDoorMa
set_option linter.unusedVariables false
set_option linter.unusedSimpArgs false
set_option maxRecDepth 100000
namespace Go.Ak
abbrev SL:=List AStep
def sR (l:SL) (c:ACode):ACode:=.seq (.region l) c
def sT (l:SL):ACode:=.seq (.region l) .ret
def cV (n:Nat) (a b:ACode):ACode:=.cond true (.v n) a b
def bL (n:Nat) (c:ACode):ACode:=.block n (.loop c)
def mvV (a b:Nat):AStep:=⟨.l a,none, .mov (.v b)⟩
def mvL (a b:Nat):AStep:=⟨.l a,none, .mov (.l b)⟩
def mgV (a g:Nat) (t:Bool) (b:Nat):AStep:=⟨.l a,some (.l g,t), .mov (.v b)⟩
def mgL (a g:Nat) (t:Bool) (b:Nat):AStep:=⟨.l a,some (.l g,t), .mov (.l b)⟩
def asL (a n b:Nat):AStep:=⟨.v a,none, .asg n (.l b)⟩
def asI (a n:Nat) (k:Int):AStep:=⟨.v a,none, .asg n (.c (.int .i64 k))⟩
def asB (a n:Nat) (k:Bool):AStep:=⟨.v a,none, .asg n (.c (.bool k))⟩
def ldN (a b:Nat):AStep:=⟨.l a,none, .load none (.l b)⟩
def ldV (a k b:Nat):AStep:=⟨.l a,none, .load (some k) (.v b)⟩
def ldL (a k b:Nat):AStep:=⟨.l a,none, .load (some k) (.l b)⟩
def ldG (a g:Nat) (t:Bool) (b:Nat):AStep:=⟨.l a,some (.l g,t), .load none (.l b)⟩
def stV (k a b:Nat):AStep:=⟨.no,none, .store (some k) (.v a) (.l b)⟩
def stL (a b:Nat):AStep:=⟨.no,none, .store none (.l a) (.l b)⟩
def fdL (a i b:Nat):AStep:=⟨.l a,none, .faddr i (.l b)⟩
def fdV (a i b:Nat):AStep:=⟨.l a,none, .faddr i (.v b)⟩
def fdG (a g:Nat) (t:Bool) (i b:Nat):AStep:=⟨.l a,some (.l g,t), .faddr i (.v b)⟩
def fgL (a g:Nat) (t:Bool) (i b:Nat):AStep:=⟨.l a,some (.l g,t), .faddr i (.l b)⟩
def nlC (a b:Nat):AStep:=⟨.l a,none, .nilchk (.l b)⟩
def nlG (a g:Nat) (t:Bool) (b:Nat):AStep:=⟨.l a,some (.l g,t), .nilchk (.l b)⟩
def bnI (a:Nat) (o:BinOp) (b:Nat) (k:Int):AStep:=⟨.l a,none, .bin o (.l b) (.c (.int .i64 k))⟩
def bvI (a:Nat) (o:BinOp) (b:Nat) (k:Int):AStep:=⟨.v a,none, .bin o (.l b) (.c (.int .i64 k))⟩
def bnL (a:Nat) (o:BinOp) (b d:Nat):AStep:=⟨.l a,none, .bin o (.l b) (.l d)⟩
def bvL (a:Nat) (o:BinOp) (b d:Nat):AStep:=⟨.v a,none, .bin o (.l b) (.l d)⟩
def bxI (a:Nat) (o:BinOp) (b:Nat) (k:Int):AStep:=⟨.l a,none, .bin o (.v b) (.c (.int .i64 k))⟩
def bxU (a:Nat) (o:BinOp) (b:Nat) (k:Int):AStep:=⟨.l a,none, .bin o (.v b) (.c (.int .u8 k))⟩
def bgI (a g:Nat) (t:Bool) (o:BinOp) (b:Nat) (k:Int):AStep:=⟨.l a,some (.l g,t), .bin o (.l b) (.c (.int .i64 k))⟩
def bgL (a g:Nat) (t:Bool) (o:BinOp) (b d:Nat):AStep:=⟨.l a,some (.l g,t), .bin o (.l b) (.l d)⟩
def exT (a i b:Nat):AStep:=⟨.l a,none, .ext i (.l b)⟩
def lnS (a:Nat) (t:Bool) (b:Nat):AStep:=⟨.l a,none, .len t (.l b)⟩
def lgS (a g:Nat) (t u:Bool) (b:Nat):AStep:=⟨.l a,some (.l g,t), .len u (.l b)⟩
def clA (a f b:Nat):AStep:=⟨.l a,none, .call f [.pl (.l b)]⟩
def clB (a f b d:Nat):AStep:=⟨.l a,none, .call f [.pl (.l b), .pl (.l d)]⟩
def clC (a f b d e:Nat):AStep:=⟨.l a,none, .call f [.pl (.l b), .pl (.l d), .pl (.l e)]⟩
def clI (a f b d:Nat) (k:Int):AStep:=⟨.l a,none, .call f [.pl (.l b), .pl (.l d), .pl (.c (.int .i64 k))]⟩
def pkT (a b d:Nat):AStep:=⟨.l a,none, .pick (.l b) (.c (.bool true)) (.l d)⟩
def pkF (a b d:Nat):AStep:=⟨.l a,none, .pick (.l b) (.l d) (.c (.bool false))⟩
def pvT (a b d:Nat):AStep:=⟨.v a,none, .pick (.l b) (.c (.bool true)) (.l d)⟩
def pvF (a b d:Nat):AStep:=⟨.v a,none, .pick (.l b) (.l d) (.c (.bool false))⟩
def pgT (a g:Nat) (t:Bool) (b d:Nat):AStep:=⟨.l a,some (.l g,t), .pick (.l b) (.c (.bool true)) (.l d)⟩
def pgF (a g:Nat) (t:Bool) (b d:Nat):AStep:=⟨.l a,some (.l g,t), .pick (.l b) (.l d) (.c (.bool false))⟩
def ixL (a k b d:Nat):AStep:=⟨.l a,none, .iaddr k (.l b) (.l d)⟩
def axV (a k i b d:Nat):AStep:=⟨.l a,none, .aaddr k i (.v b) (.l d)⟩
def bxV (a b:Nat):AStep:=⟨.v a,none, .boxL (.v b)⟩
def apL (a k b d:Nat):AStep:=⟨.l a,none, .append false k (.l b) (.l d)⟩
def zsc:SL:= [asB 4 4 false]
def zsb:SL:= [mvV 11 0,lnS 12 true 11,bnI 13 .gtr 12 25,mvL 14 13,mgV 15 14 false 1,lgS 16 14 false true 15,bgI 17 14 false .gtr 16 1,mgL 18 14 false 17,mgV 19 18 true 1,⟨.l 20,some (.l 18,true), .call 8 [.pl (.l 19)]⟩,⟨.l 21,some (.l 18,true), .un .not (.l 20)⟩,pgF 22 14 false 18 21,pvT 23 14 22]
def zsa:SL:= [⟨.l 24,none, .call 19 []⟩,asL 4 4 24]
def zr9:SL:= [mvV 26 0,mvV 27 1,clB 28 157 26 27,mvL 25 28,exT 29 0 25,exT 30 1 25,exT 31 2 25,asL 5 5 29,asL 6 6 30,asL 7 7 31]
def zr8:SL:= [mvV 33 0,mvV 34 1,clB 35 158 33 34,mvL 32 35,exT 36 0 32,exT 37 1 32,exT 38 2 32,asL 8 8 36,asL 9 9 37,asL 10 10 38]
def zr7:SL:= [mvV 39 5,mvV 40 8,clB 41 147 39 40,mvL 42 41,mgV 43 42 true 6,mgV 44 42 true 9,bgL 45 42 true .eql 43 44,pkF 46 42 45,mvL 47 46,mgV 48 47 true 7,mgV 49 47 true 10,bgL 50 47 true .eql 48 49,pkF 51 47 50,mvL 52 51,⟨.l 53,some (.l 52,true), .call 19 []⟩,pkF 54 52 53,asL 4 4 54]
def a156:AFunc:=⟨2,[0,1,4,5,6,7,8,9,10,23],[.tmp 4],(sR zsc (.seq (sR zsb (cV 23 (sT zsa) .skip)) (sR zr9 (sR zr8 (sT zr7))))),true⟩
def a8r0:SL:= [asB 2 2 false]
def a8r1:SL:= [mvV 7 0,clA 8 14 7,mvL 6 8,exT 9 0 6,exT 10 1 6,exT 11 2 6,⟨.v 3,none, .allocL [.int .i64 0, .int .u64 0, .int .u64 0, .int .u64 0, .int .u64 0, .int .i64 0, .int .i64 0, .nils]⟩,stV 8 3 9,asL 4 4 10,asL 5 5 11]
def a8r2:SL:= [mvV 12 5,bnI 13 .neq 12 0,mvL 14 13,⟨.l 15,some (.l 14,false), .load (some 8) (.v 3)⟩,⟨.l 16,some (.l 14,false), .call 38 [.pl (.l 15)]⟩,pkT 17 14 16,asL 2 2 17]
def a8:AFunc:=⟨1,[0,2,3,4,5],[.tmp 2],(sR a8r0 (sR a8r1 (sT a8r2))),true⟩
def a19r0:SL:= [asB 0 0 false]
def a19r1:SL:= [⟨.l 7,none, .call 10 [.pl (.c (.str [97]))]⟩,mvL 6 7,exT 8 0 6,exT 9 1 6,exT 10 2 6,asL 1 1 8,asL 2 2 9,asL 3 3 10]
def a19r2:SL:= [mvV 11 1,⟨.v 12,none, .eq false 1 (.l 11) (.c .nilp)⟩]
def a19r3:SL:= [asB 0 0 false]
def a19r4:SL:= [mvV 14 1,⟨.l 15,none, .call 20 [.pl (.l 14), .pl (.c (.str [60,38,62])), .pl (.c (.str [98,97,110,97,110,97]))]⟩,mvL 13 15,exT 16 0 13,exT 17 1 13,asL 4 4 16,asL 5 5 17]
def a19r5:SL:= [mvV 18 4,⟨.l 19,none, .bin .eql (.l 18) (.c (.str [98,60,97,62,110,60,97,62,110,60,97,62]))⟩,mvL 20 19,mgV 21 20 true 5,bgI 22 20 true .eql 21 3,pkF 23 20 22,asL 0 0 23]
def a19:AFunc:=⟨0,[0,1,2,3,4,5,12],[.tmp 0],(sR a19r0 (sR a19r1 (.seq (sR a19r2 (cV 12 (sT a19r3) .skip)) (sR a19r4 (sT a19r5))))),true⟩
def zkt:SL:= [⟨.v 4,none, .asg 4 (.c .nils)⟩,asI 5 5 0,asI 6 6 0]
def zks:SL:= [mvV 11 1,⟨.l 12,none, .bin .eql (.l 11) (.c (.str [32]))⟩,asL 10 10 12]
def zkr:SL:= [mvV 13 0,clA 14 180 13,asL 4 4 14,asI 5 5 0,asI 6 6 0]
def zkq:SL:= [mvV 16 1,⟨.l 17,none, .bin .eql (.l 16) (.c (.str []))⟩,asL 15 15 17]
def zkp:SL:= [mvV 18 0,clA 19 181 18,asL 4 4 19,asI 5 5 0,asI 6 6 0]
def zko:SL:= [mvV 21 1,lnS 22 true 21,bnI 23 .gtr 22 1,mvL 24 23,mgV 25 24 false 1,⟨.l 26,some (.l 24,false), .bin .eql (.l 25) (.c (.str [92]))⟩,pkT 27 24 26,asL 20 20 27]
def zkn:SL:= [mvV 29 1,clA 30 10 29,mvL 28 30,exT 31 0 28,exT 32 1 28,exT 33 2 28,asL 7 7 31,asL 8 8 32,asL 9 9 33]
def zkm:SL:= [mvV 34 9,bvI 35 .neq 34 0]
def zkl:SL:= [mvV 36 8,mvV 37 9,⟨.v 4,none, .asg 4 (.c .nils)⟩,asL 5 8 36,asL 6 9 37]
def zkk:SL:= [mvV 38 7,mvV 39 0,clB 40 153 38 39,asL 4 4 40,asI 5 5 0,asI 6 6 0]
def zgC:SL:= [mvV 42 0,⟨.l 43,none, .bin .eql (.l 42) (.c (.str []))⟩,asL 41 41 43]
def zgB:SL:= [⟨.v 4,none, .asg 4 (.c .nils)⟩,asI 5 5 0,asI 6 6 0]
def zgA:SL:= [mvV 44 0,mvV 45 1,clB 46 182 44 45,asL 4 4 46,asI 5 5 0,asI 6 6 0]
def a157:AFunc:=⟨2,[0,1,4,5,6,7,8,9,10,15,20,35,41],[.tmp 4, .tmp 5, .tmp 6],(sR zkt (.seq (.block 0 (sR zks (cV 10 (sT zkr) (sR zkq (cV 15 (sT zkp) (sR zko (cV 20 (sR zkn (.seq (sR zkm (cV 35 (sT zkl) .skip)) (sT zkk))) (sR zgC (cV 41 (sT zgB) .skip))))))))) (sT zgA))),true⟩
def znn:SL:= [⟨.v 4,none, .asg 4 (.c .nils)⟩,asI 5 5 0,asI 6 6 0]
def znm:SL:= [mvV 13 1,⟨.v 14,none, .bin .eql (.l 13) (.c (.str [32]))⟩]
def znl:SL:= [mvV 15 0,clA 16 183 15,asL 4 4 16,asI 5 5 0,asI 6 6 0]
def znk:SL:= [mvV 17 1,⟨.v 18,none, .bin .eql (.l 17) (.c (.str []))⟩]
def znj:SL:= [mvV 19 0,clA 20 184 19,asL 4 4 20,asI 5 5 0,asI 6 6 0]
def zni:SL:= [mvV 21 1,lnS 22 true 21,bnI 23 .gtr 22 1,mvL 24 23,mgV 25 24 false 1,⟨.l 26,some (.l 24,false), .bin .eql (.l 25) (.c (.str [92]))⟩,pvT 27 24 26]
def znh:SL:= [mvV 29 1,clA 30 14 29,mvL 28 30,exT 31 0 28,exT 32 1 28,exT 33 2 28,⟨.v 7,none, .allocL [.int .i64 0, .int .u64 0, .int .u64 0, .int .u64 0, .int .u64 0, .int .i64 0, .int .i64 0, .nils]⟩,stV 8 7 31,asL 8 8 32,asL 9 9 33]
def zng:SL:= [mvV 34 9,bvI 35 .neq 34 0]
def znf:SL:= [mvV 36 8,mvV 37 9,⟨.v 4,none, .asg 4 (.c .nils)⟩,asL 5 8 36,asL 6 9 37]
def zne:SL:= [ldV 38 8 7,mvV 39 0,clB 40 148 38 39,asL 4 4 40,asI 5 5 0,asI 6 6 0]
def zja:SL:= [⟨.l 41,none, .bslice false (.str []) 0 []⟩,asL 10 10 41,asI 11 11 0]
def zi9:SL:= [asI 12 12 0]
def zfJ:SL:= [mvV 42 12,mvV 43 0,lnS 44 true 43,bnL 45 .leq 42 44,mvL 46 45,mgV 47 46 true 0,⟨.l 48,some (.l 46,true), .bin .neq (.l 47) (.c (.str []))⟩,pvF 49 46 48]
def zfK:Plan:=(.seq 0 (mvV 52 12) (.seq 1 (mvV 53 0) (.seq 2 (lnS 54 true 53) (.seq 3 (bnL 55 .eql 52 54) (.seq 4 (mvL 56 55) (.seq 5 (mgV 57 56 false 0) (.seq 6 (mgV 58 56 false 12) (.seq 7 ⟨.l 59,some (.l 56,false), .sidx (.l 57) (.l 58)⟩ (.seq 8 (mgV 60 56 false 1) (.seq 9 ⟨.l 61,some (.l 56,false), .sidx (.l 60) (.c (.int .i64 0))⟩ (.seq 10 (bgL 62 56 false .eql 59 61) (.seq 11 (pvT 63 56 62) .fin))))))))))))
def zfI:SL:= [mvV 64 10,mvV 65 0,mvV 66 11,mvV 67 12,⟨.l 68,none, .slice none (.l 65) (some (.l 66)) (some (.l 67))⟩,⟨.l 69,none, .bslice false (.str []) 1 [(0,(.l 68))]⟩,apL 70 0 64 69,mvV 71 12,bnI 72 .add 71 1,asL 10 10 70,asL 11 11 72]
def zfH:SL:= [mvV 50 12,bnI 51 .add 50 1,asL 12 12 51]
def a158l16:ACode:=(.seq (sR zfJ (cV 49 .skip (.exit 0))) (.seq (.block 1 (.seq (.draw zfK) (cV 63 (.region zfI) .skip))) (.region zfH)))
def zi8:SL:= [mvV 73 10,asL 4 10 73,asI 5 5 0,asI 6 6 0]
def a158:AFunc:=⟨2,[0,1,4,5,6,7,8,9,10,11,12,14,18,27,35,49,63],[.tmp 4, .tmp 5, .tmp 6],(sR znn (.seq (sR znm (cV 14 (sT znl) .skip)) (.seq (sR znk (cV 18 (sT znj) .skip)) (.seq (sR zni (cV 27 (sR znh (.seq (sR zng (cV 35 (sT znf) .skip)) (sT zne))) .skip)) (sR zja (.seq (sR zi9 (bL 0 a158l16)) (sT zi8))))))),true⟩
def zvS:SL:= [asB 4 4 false]
def zvR:SL:= [mvV 6 0,lnS 7 false 6,mvV 8 1,lnS 9 false 8,bvL 10 .neq 7 9]
def zvQ:SL:= [asB 4 4 false]
def zvP:SL:= [asI 5 5 0]
def zsd:SL:= [mvV 11 5,mvV 12 0,lnS 13 false 12,bvL 14 .lss 11 13]
def zvT:Plan:=(.seq 0 (mvV 17 0) (.seq 1 (mvV 18 5) (.seq 2 (ixL 19 0 17 18) (.seq 3 (ldN 20 19) (.seq 4 (mvV 21 1) (.seq 5 (mvV 22 5) (.seq 6 (ixL 23 0 21 22) (.seq 7 (ldN 24 23) (.seq 8 (bvL 25 .neq 20 24) .fin)))))))))
def zvO:SL:= [asB 4 4 false]
def zvN:SL:= [mvV 15 5,bnI 16 .add 15 1,asL 5 5 16]
def a147l8:ACode:=(.seq (sR zsd (cV 14 .skip (.exit 0))) (.seq (.block 1 (.seq (.draw zvT) (cV 25 (sT zvO) .skip))) (.region zvN)))
def zvM:SL:= [asB 4 4 true]
def a147:AFunc:=⟨2,[0,1,4,5,10,14,25],[.tmp 4],(sR zvS (.seq (sR zvR (cV 10 (sT zvQ) .skip)) (.seq (sR zvP (bL 0 a147l8)) (sT zvM)))),true⟩
def zzW:SL:= [⟨.v 2,none, .allocL [.int .i64 0, .int .u64 0, .int .u64 0, .int .u64 0, .int .u64 0, .int .i64 0, .int .i64 0, .nils]⟩,asI 3 3 0,asI 4 4 0]
def zzV:SL:= [mvV 9 0,clA 10 44 9,mvL 8 10,exT 11 0 8,exT 12 1 8,exT 13 2 8,⟨.v 5,none, .allocL [.int .i64 0, .int .u64 0, .int .u64 0, .int .u64 0, .int .u64 0, .int .i64 0, .int .i64 0, .nils]⟩,stV 8 5 11,asL 6 6 12,asL 7 7 13]
def zzU:SL:= [mvV 14 7,bnI 15 .eql 14 0,mvL 16 15,⟨.l 17,some (.l 16,true), .load (some 8) (.v 5)⟩,⟨.l 18,some (.l 16,true), .call 45 [.pl (.l 17)]⟩,bgI 19 16 true .eql 18 0,pvF 20 16 19]
def zzT:SL:= [⟨.l 21,none, .build [.int .i64 0, .int .u64 0, .int .u64 0, .int .u64 0, .int .u64 0, .int .i64 0, .int .i64 0, .nils] []⟩,stV 8 2 21,asI 3 3 0,asI 4 4 1]
def zzS:SL:= [mvV 22 7,bnI 23 .eql 22 0,mvL 24 23,⟨.l 25,some (.l 24,true), .load (some 8) (.v 5)⟩,⟨.l 26,some (.l 24,true), .call 45 [.pl (.l 25)]⟩,bgI 27 24 true .gtr 26 500,pvF 28 24 27]
def zzR:SL:= [⟨.l 29,none, .build [.int .i64 0, .int .u64 0, .int .u64 0, .int .u64 0, .int .u64 0, .int .i64 0, .int .i64 0, .nils] []⟩,stV 8 2 29,asI 3 3 0,asI 4 4 2]
def zzQ:SL:= [ldV 30 8 5,mvV 31 6,mvV 32 7,stV 8 2 30,asL 3 6 31,asL 4 7 32]
def a14:AFunc:=⟨1,[0,2,3,4,5,6,7,20,28],[.cell 2 (some 8), .tmp 3, .tmp 4],(sR zzW (sR zzV (.seq (sR zzU (cV 20 (sT zzT) .skip)) (.seq (sR zzS (cV 28 (sT zzR) .skip)) (sT zzQ))))),true⟩
def zDl:SL:= [bxV 1 0,asB 2 2 false]
def zDk:SL:= [ldV 3 8 1,clA 4 63 3,mvL 5 4,⟨.l 6,some (.l 5,true), .load (some 8) (.v 1)⟩,⟨.l 7,some (.l 5,true), .call 45 [.pl (.l 6)]⟩,bgI 8 5 true .leq 7 300,pkF 9 5 8,asL 2 2 9]
def a38:AFunc:=⟨1,[0,1,2],[.tmp 2],(sR zDl (sT zDk)),true⟩
def zAx:SL:= [⟨.v 2,none, .asg 2 (.c .nilp)⟩,asI 3 3 0,asI 4 4 0]
def zAw:SL:= [mvV 10 0,clA 11 41 10,mvL 9 11,exT 12 0 9,exT 13 1 9,exT 14 2 9,⟨.v 5,none, .allocL [.int .i64 0, .int .u64 0, .int .u64 0, .int .u64 0, .int .u64 0, .int .i64 0, .int .i64 0, .nils]⟩,stV 8 5 12,asL 6 6 13,asL 7 7 14]
def zAv:SL:= [mvV 15 7,bvI 16 .neq 15 0]
def zAu:SL:= [mvV 17 6,mvV 18 7,⟨.v 2,none, .asg 2 (.c .nilp)⟩,asL 3 6 17,asL 4 7 18]
def zDu:SL:= [ldV 20 8 5,clA 21 34 20,mvL 19 21,exT 22 0 19,exT 23 1 19,asL 8 8 22,asL 7 7 23]
def zDt:SL:= [mvV 24 7,bvI 25 .neq 24 0]
def zDs:SL:= [mvV 26 7,⟨.v 2,none, .asg 2 (.c .nilp)⟩,asI 3 3 0,asL 4 7 26]
def zL9:SL:= [mvV 27 0,mvV 28 8,ldV 29 8 5,clA 30 42 29,⟨.l 31,none, .build [.str [], .nilp, .int .i64 0] [(0,1,(.l 27)),(1,1,(.l 28)),(2,1,(.l 30))]⟩,⟨.l 32,none, .boxH (.l 31)⟩,asL 2 2 32,asI 3 3 0,asI 4 4 0]
def a10:AFunc:=⟨1,[0,2,3,4,5,6,7,8,16,25],[.tmp 2, .tmp 3, .tmp 4],(sR zAx (sR zAw (.seq (sR zAv (cV 16 (sT zAu) .skip)) (sR zDu (.seq (sR zDt (cV 25 (sT zDs) .skip)) (sT zL9)))))),false⟩
def a20r0:SL:= [⟨.v 6,none, .asg 6 (.c (.str []))⟩,asI 7 7 0]
def a20r1:SL:= [mvV 8 0,⟨.v 9,none, .eq false 1 (.l 8) (.c .nilp)⟩]
def a20r2:SL:= [mvV 10 2,asL 6 2 10,asI 7 7 0]
def a20r3:SL:= [mvV 11 0,mvV 12 2,clB 13 11 11 12,mvV 14 1,mvV 15 2,clC 16 47 13 14 15,exT 17 0 16,exT 18 1 16,asL 6 6 17,asL 7 7 18]
def a20:AFunc:=⟨3,[0,1,2,6,7,9],[.tmp 6, .tmp 7],(sR a20r0 (.seq (sR a20r1 (cV 9 (sT a20r2) .skip)) (sT a20r3))),true⟩
def zEr:SL:= [⟨.v 2,none, .asg 2 (.c .nils)⟩]
def zEq:SL:= [mvV 3 0,⟨.l 4,none, .call 191 [.pl (.l 3), .pl (.c (.fn 190 []))]⟩,asL 2 2 4]
def a180:AFunc:=⟨1,[0,2],[.tmp 2],(sR zEr (sT zEq)),true⟩
def zvJ:SL:= [⟨.v 4,none, .asg 4 (.c .nils)⟩]
def zvI:SL:= [mvV 9 1,⟨.v 10,none, .bin .eql (.l 9) (.c (.str []))⟩]
def zvH:SL:= [⟨.v 4,none, .asg 4 (.c .nils)⟩]
def zzM:SL:= [⟨.v 5,none, .asg 5 (.c .nils)⟩]
def zzL:SL:= [asI 6 6 0]
def zzK:SL:= [mvV 11 0,⟨.v 12,none, .eq true 1 (.l 11) (.c .nilp)⟩]
def zzJ:SL:= [mvV 13 0,mvV 14 1,⟨.v 15,none, .call 11 [.pl (.l 13), .pl (.l 14)]⟩,⟨.v 16,none, .len false (.v 15)⟩,asI 17 17 0]
def zo9:SL:= [⟨.v 18,none, .bin .lss (.v 17) (.v 16)⟩]
def zvG:SL:= [⟨.l 19,none, .iaddr 2 (.v 15) (.v 17)⟩,ldL 20 2 19,⟨.v 8,none, .allocL [.int .i64 0, .int .i64 0]⟩,stV 2 8 20]
def zvF:SL:= [⟨.l 21,none, .aaddr 2 0 (.v 8) (.c (.int .i64 0))⟩,ldN 22 21,⟨.l 23,none, .aaddr 2 0 (.v 8) (.c (.int .i64 1))⟩,ldN 24 23,bvL 25 .lss 22 24]
def zqm:SL:= [mvV 26 5,mvV 27 1,mvV 28 6,⟨.l 29,none, .aaddr 2 0 (.v 8) (.c (.int .i64 0))⟩,ldN 30 29,⟨.l 31,none, .slice none (.l 27) (some (.l 28)) (some (.l 30))⟩,⟨.l 32,none, .bslice false (.str []) 1 [(0,(.l 31))]⟩,apL 33 0 26 32,asL 5 5 33]
def zql:SL:= [⟨.l 34,none, .aaddr 2 0 (.v 8) (.c (.int .i64 1))⟩,ldN 35 34,asL 6 6 35]
def zqk:SL:= [bxI 36 .add 17 1,asL 17 17 36]
def a153l13:ACode:=(sR zo9 (.seq (cV 18 .skip (.exit 0)) (.seq (.block 1 (sR zvG (sR zvF (cV 25 (sR zqm (.region zql)) .skip)))) (.region zqk))))
def zqj:SL:= [mvV 37 5,mvV 38 1,mvV 39 6,⟨.l 40,none, .slice none (.l 38) (some (.l 39)) none⟩,⟨.l 41,none, .bslice false (.str []) 1 [(0,(.l 40))]⟩,apL 42 0 37 41,asL 4 4 42]
def a153:AFunc:=⟨2,[0,1,4,5,6,8,10,12,15,16,17,18,25],[.tmp 4],(sR zvJ (.seq (sR zvI (cV 10 (sT zvH) .skip)) (sR zzM (sR zzL (.seq (sR zzK (cV 12 (sR zzJ (bL 0 a153l13)) .skip)) (sT zqj)))))),true⟩
def zEp:SL:= [⟨.v 2,none, .asg 2 (.c .nils)⟩]
def zEo:SL:= [⟨.l 6,none, .bslice false (.str []) 0 []⟩,asL 3 3 6,asI 4 4 (-1)]
def zEn:SL:= [asI 5 5 0]
def zkj:SL:= [mvV 7 5,mvV 8 0,lnS 9 true 8,bvL 10 .leq 7 9]
def zki:SL:= [mvV 13 5,mvV 14 0,lnS 15 true 14,bnL 16 .eql 13 15,mvL 17 16,mgV 18 17 false 0,mgV 19 17 false 5,⟨.l 20,some (.l 17,false), .sidx (.l 18) (.l 19)⟩,⟨.l 21,some (.l 17,false), .call 193 [.pl (.l 20)]⟩,pvT 22 17 21]
def zkh:SL:= [mvV 23 4,bvI 24 .geq 23 0]
def zkg:SL:= [mvV 25 3,mvV 26 0,mvV 27 4,mvV 28 5,⟨.l 29,none, .slice none (.l 26) (some (.l 27)) (some (.l 28))⟩,⟨.l 30,none, .bslice false (.str []) 1 [(0,(.l 29))]⟩,apL 31 0 25 30,asL 3 3 31]
def zkf:SL:= [asI 4 4 (-1)]
def zke:SL:= [mvV 32 4,bvI 33 .lss 32 0]
def zkd:SL:= [mvV 34 5,asL 4 4 34]
def zgz:SL:= [mvV 11 5,bnI 12 .add 11 1,asL 5 5 12]
def a183l11:ACode:=(.seq (sR zkj (cV 10 .skip (.exit 0))) (.seq (.block 1 (sR zki (cV 22 (.seq (sR zkh (cV 24 (.region zkg) .skip)) (.region zkf)) (sR zke (cV 33 (.region zkd) .skip))))) (.region zgz)))
def zzF:SL:= [mvV 35 3,asL 2 3 35]
def a183:AFunc:=⟨1,[0,2,3,4,5,10,22,24,33],[.tmp 2],(sR zEp (sR zEo (.seq (sR zEn (bL 0 a183l11)) (sT zzF)))),true⟩
def zz2:SL:= [bxV 2 0,⟨.v 4,none, .asg 4 (.c .nils)⟩]
def zz1:SL:= [⟨.l 9,none, .bslice false (.str []) 0 []⟩,asL 5 5 9,asI 6 6 0]
def zzZ:SL:= [mvV 10 1,⟨.v 11,none, .bin .eql (.l 10) (.c (.str []))⟩]
def zzY:SL:= [mvV 12 5,asL 4 5 12]
def zEB:SL:= [ldV 13 8 2,mvV 14 1,clB 15 143 13 14,asL 7 7 15]
def zEA:SL:= [asI 8 8 0]
def zvL:SL:= [mvV 16 8,mvV 17 7,lnS 18 false 17,bvL 19 .lss 16 18]
def zz4:Plan:=(.seq 0 (mvV 22 7) (.seq 1 (mvV 23 8) (.seq 2 (ixL 24 2 22 23) (.seq 3 ⟨.l 25,none, .aaddr 2 0 (.l 24) (.c (.int .i64 0))⟩ (.seq 4 (ldN 26 25) (.seq 5 (mvV 27 7) (.seq 6 (mvV 28 8) (.seq 7 (ixL 29 2 27 28) (.seq 8 ⟨.l 30,none, .aaddr 2 0 (.l 29) (.c (.int .i64 1))⟩ (.seq 9 (ldN 31 30) (.seq 10 (bvL 32 .lss 26 31) .fin)))))))))))
def zz3:Plan:=(.seq 0 (mvV 33 5) (.seq 1 (mvV 34 1) (.seq 2 (mvV 35 6) (.seq 3 (mvV 36 7) (.seq 4 (mvV 37 8) (.seq 5 (ixL 38 2 36 37) (.seq 6 ⟨.l 39,none, .aaddr 2 0 (.l 38) (.c (.int .i64 0))⟩ (.seq 7 (ldN 40 39) (.seq 8 ⟨.l 41,none, .slice none (.l 34) (some (.l 35)) (some (.l 40))⟩ (.seq 11 (mvV 44 7) (.seq 12 (mvV 45 8) (.seq 13 (ixL 46 2 44 45) (.seq 14 ⟨.l 47,none, .aaddr 2 0 (.l 46) (.c (.int .i64 1))⟩ (.alt 9 ⟨.l 42,none, .bslice false (.str []) 1 [(0,(.l 41))]⟩ (.alt 10 (apL 43 0 33 42) (.seq 15 (ldN 48 47) (.seq 16 (asL 5 5 43) (.seq 17 (asL 6 6 48) .fin))) (.one 15 (ldN 48 47) (.one 10 (apL 43 0 33 42) (.seq 16 (asL 5 5 43) (.seq 17 (asL 6 6 48) .fin))))) (.one 15 (ldN 48 47) (.one 9 ⟨.l 42,none, .bslice false (.str []) 1 [(0,(.l 41))]⟩ (.one 10 (apL 43 0 33 42) (.seq 16 (asL 5 5 43) (.seq 17 (asL 6 6 48) .fin)))))))))))))))))))
def zzX:SL:= [mvV 20 8,bnI 21 .add 20 1,asL 8 8 21]
def a148l10:ACode:=(.seq (sR zvL (cV 19 .skip (.exit 0))) (.seq (.block 1 (.seq (.draw zz4) (cV 32 (.draw zz3) .skip))) (.region zzX)))
def zz0:SL:= [mvV 49 5,mvV 50 1,mvV 51 6,⟨.l 52,none, .slice none (.l 50) (some (.l 51)) none⟩,⟨.l 53,none, .bslice false (.str []) 1 [(0,(.l 52))]⟩,apL 54 0 49 53,asL 4 4 54]
def a148:AFunc:=⟨2,[0,1,2,4,5,6,7,8,11,19,32],[.tmp 4],(sR zz2 (sR zz1 (.seq (sR zzZ (cV 11 (sT zzY) .skip)) (sR zEB (.seq (sR zEA (bL 0 a148l10)) (sT zz0)))))),true⟩
def zG5:SL:= [⟨.v 4,none, .asg 4 (.c (.str []))⟩,⟨.v 5,none, .asg 5 (.c (.str []))⟩,asB 6 6 false]
def zG4:SL:= [mvV 7 0,mvV 8 1,clB 9 104 7 8,exT 10 0 9,exT 11 1 9,exT 12 2 9,asL 4 4 10,asL 5 5 11,asL 6 6 12]
def a95:AFunc:=⟨2,[0,1,4,5,6],[.tmp 4, .tmp 5, .tmp 6],(sR zG5 (sT zG4)),true⟩
def zED:SL:= [bxV 2 0,⟨.v 4,none, .asg 4 (.c .nils)⟩]
def zEC:SL:= [⟨.l 11,none, .bslice false (.agg [.int .i64 0, .int .i64 0]) 0 []⟩,ldV 12 8 2,mvV 13 1,clB 14 46 12 13,asL 5 5 11,asI 6 6 0,asL 7 7 14]
def zno:SL:= [mvV 15 6,mvV 16 1,lnS 17 true 16,bvL 18 .leq 15 17]
def zpc:SL:= [mvV 20 7,mvV 21 6,clB 22 152 20 21,mvL 19 22,exT 23 0 19,exT 24 1 19,exT 25 2 19,asL 8 8 23,asL 9 9 24,asL 10 10 25]
def zpb:SL:= [mvV 26 10,⟨.v 27,none, .un .not (.l 26)⟩]
def zpa:SL:= [mvV 28 5,asL 4 5 28]
def zsf:SL:= [mvV 29 8,mvV 30 9,bnL 31 .eql 29 30,mvL 32 31,mgV 33 32 true 5,lgS 34 32 true false 33,bgI 35 32 true .gtr 34 0,pkF 36 32 35,mvL 37 36,mgV 38 37 true 5,mgV 39 37 true 5,lgS 40 37 true false 39,bgI 41 37 true .sub 40 1,⟨.l 42,some (.l 37,true), .iaddr 2 (.l 38) (.l 41)⟩,⟨.l 43,some (.l 37,true), .aaddr 2 0 (.l 42) (.c (.int .i64 1))⟩,ldG 44 37 true 43,mgV 45 37 true 8,bgL 46 37 true .eql 44 45,pvF 47 37 46]
def zse:SL:= [mvV 48 8,bnI 49 .add 48 1,asL 6 6 49]
def zvU:SL:= [mvV 50 5,mvV 51 8,mvV 52 9,⟨.l 53,none, .build [.int .i64 0, .int .i64 0] [(0,1,(.l 51)),(1,1,(.l 52))]⟩,⟨.l 54,none, .bslice false (.agg [.int .i64 0, .int .i64 0]) 1 [(0,(.l 53))]⟩,apL 55 2 50 54,mvV 56 9,asL 5 5 55,asL 6 6 56]
def a143l9:ACode:=(.seq (sR zno (cV 18 .skip (.exit 0))) (.block 1 (sR zpc (.seq (sR zpb (cV 27 (sT zpa) .skip)) (sR zsf (cV 47 (.region zse) (.region zvU)))))))
def zz5:SL:= [mvV 57 5,asL 4 5 57]
def a143:AFunc:=⟨2,[0,1,2,4,5,6,7,8,9,10,18,27,47],[.tmp 4],(sR zED (sR zEC (.seq (bL 0 a143l9) (sT zz5)))),true⟩
def zDe:SL:= [⟨.v 2,none, .allocL [.int .i64 0, .int .u64 0, .int .u64 0, .int .u64 0, .int .u64 0, .int .i64 0, .int .i64 0, .nils]⟩,asI 3 3 0,asI 4 4 0]
def zDd:SL:= [mvV 7 0,lnS 8 true 7,bvI 9 .gtr 8 400]
def zDc:SL:= [⟨.l 10,none, .build [.int .i64 0, .int .u64 0, .int .u64 0, .int .u64 0, .int .u64 0, .int .i64 0, .int .i64 0, .nils] []⟩,stV 8 2 10,asI 3 3 0,asI 4 4 2]
def zHN:SL:= [mvV 11 0,⟨.l 12,none, .build [.str [], .int .i64 0, .int .i64 0, .int .i64 0] [(0,1,(.l 11))]⟩,⟨.l 13,none, .boxH (.l 12)⟩,asL 5 5 13]
def zHM:SL:= [mvV 14 5,⟨.l 15,none, .call 69 [.pl (.l 14), .pl (.c (.int .i64 0))]⟩,⟨.v 6,none, .allocL [.int .i64 0, .int .u64 0, .int .u64 0, .int .u64 0, .int .u64 0, .int .i64 0, .int .i64 0, .nils]⟩,stV 8 6 15]
def zHL:SL:= [mvV 16 5,nlC 17 16,fdL 18 3 17,ldN 19 18,bvI 20 .neq 19 0]
def zHO:Plan:=(.seq 0 ⟨.l 21,none, .build [.int .i64 0, .int .u64 0, .int .u64 0, .int .u64 0, .int .u64 0, .int .i64 0, .int .i64 0, .nils] []⟩ (.seq 1 (mvV 22 5) (.seq 2 (nlC 23 22) (.seq 3 (fdL 24 2 23) (.seq 5 (mvV 26 5) (.seq 6 (nlC 27 26) (.seq 7 (fdL 28 3 27) (.alt 4 (ldN 25 24) (.alt 8 (ldN 29 28) (.one 9 (stV 8 2 21) (.seq 10 (asL 3 3 25) (.seq 11 (asL 4 4 29) .fin))) (.one 9 (stV 8 2 21) (.seq 8 (ldN 29 28) (.seq 10 (asL 3 3 25) (.seq 11 (asL 4 4 29) .fin))))) (.alt 8 (ldN 29 28) (.alt 4 (ldN 25 24) (.one 9 (stV 8 2 21) (.seq 10 (asL 3 3 25) (.seq 11 (asL 4 4 29) .fin))) (.one 9 (stV 8 2 21) (.seq 4 (ldN 25 24) (.seq 10 (asL 3 3 25) (.seq 11 (asL 4 4 29) .fin))))) (.one 9 (stV 8 2 21) (.seq 4 (ldN 25 24) (.seq 8 (ldN 29 28) (.seq 10 (asL 3 3 25) (.seq 11 (asL 4 4 29) .fin))))))))))))))
def zHK:SL:= [ldV 30 8 6,stV 8 2 30,asI 3 3 0,asI 4 4 0]
def a44:AFunc:=⟨1,[0,2,3,4,5,6,9,20],[.cell 2 (some 8), .tmp 3, .tmp 4],(sR zDe (.seq (sR zDd (cV 9 (sT zDc) .skip)) (sR zHN (sR zHM (.seq (sR zHL (cV 20 (.seq (.draw zHO) .ret) .skip)) (sT zHK)))))),true⟩
def zDb:SL:= [bxV 1 0,asI 2 2 0]
def zDa:SL:= [ldV 4 8 1,⟨.l 5,none, .call 70 [.pl (.l 4), .pl (.c (.int .i64 (-1))), .pl (.c (.int .i64 1))]⟩,⟨.v 6,none, .un .not (.l 5)⟩]
def zC9:SL:= [asI 2 2 0]
def zC8:SL:= [ldV 7 8 1,clA 8 71 7,asL 3 3 8]
def zC7:SL:= [mvV 9 3,bvI 10 .gtr 9 500]
def zC6:SL:= [asI 3 3 500]
def zC5:SL:= [mvV 11 3,bnI 12 .add 11 1,asL 2 2 12]
def a45:AFunc:=⟨1,[0,1,2,3,6,10],[.tmp 2],(sR zDb (.seq (sR zDa (cV 6 (sT zC9) .skip)) (sR zC8 (.seq (sR zC7 (cV 10 (.region zC6) .skip)) (sT zC5))))),true⟩
def zLz:SL:= [bxV 1 0,asB 2 2 false]
def zLy:SL:= [ldV 3 8 1,⟨.l 4,none, .call 85 [.pl (.l 3), .pl (.c (.int .i64 150)), .pl (.c (.int .i64 400))]⟩,bnI 5 .leq 4 400,asL 2 2 5]
def a63:AFunc:=⟨1,[0,1,2],[.tmp 2],(sR zLz (sT zLy)),true⟩
def zDr:SL:= [bxV 1 0,⟨.v 2,none, .asg 2 (.c .nilp)⟩,asI 3 3 0]
def zDq:SL:= [ldV 6 8 1,clA 7 57 6,asL 4 4 7]
def zDp:SL:= [mvV 9 4,bnI 10 .eql 9 0,asL 8 8 10]
def zDo:SL:= [⟨.v 2,none, .asg 2 (.c .nilp)⟩,asI 3 3 1]
def zDn:SL:= [mvV 12 4,bnI 13 .gtr 12 500,asL 11 11 13]
def zDm:SL:= [⟨.v 2,none, .asg 2 (.c .nilp)⟩,asI 3 3 2]
def zL5:SL:= [⟨.l 14,none, .build [.nils, .int .i64 0] []⟩,⟨.l 15,none, .boxH (.l 14)⟩,asL 5 5 15]
def zL6:Plan:=(.seq 0 (mvV 16 5) (.seq 1 (mvV 17 5) (.seq 3 (mvV 19 5) (.seq 4 ⟨.l 20,none, .build [.int .i64 0, .int .u64 0, .int .u64 0, .int .u64 0, .int .u64 0, .int .i64 0, .int .i64 0] [(0,1,(.c (.int .i64 4)))]⟩ (.alt 2 (ldV 18 8 1) (.one 5 (clB 21 58 19 20) (.one 6 (clC 22 59 17 18 21) (.seq 7 (nlC 23 16) (.seq 8 (fdL 24 1 23) (.one 9 (stL 24 22) .fin))))) (.one 5 (clB 21 58 19 20) (.seq 2 (ldV 18 8 1) (.one 6 (clC 22 59 17 18 21) (.seq 7 (nlC 23 16) (.seq 8 (fdL 24 1 23) (.one 9 (stL 24 22) .fin)))))))))))
def zL4:SL:= [mvV 25 5,asL 2 5 25,asI 3 3 0]
def a34:AFunc:=⟨1,[0,1,2,3,4,5,8,11],[.tmp 2, .tmp 3],(sR zDr (sR zDq (.seq (.block 0 (sR zDp (cV 8 (sT zDo) (sR zDn (cV 11 (sT zDm) .skip))))) (sR zL5 (.seq (.draw zL6) (sT zL4)))))),false⟩
def zLW:SL:= [bxV 1 0,asI 2 2 0]
def zLV:SL:= [ldV 3 8 1,⟨.l 4,none, .call 65 [.pl (.l 3), .pl (.c (.int .i64 (-1))), .pl (.c (.int .i64 1))]⟩,⟨.v 5,none, .un .not (.l 4)⟩]
def zLU:SL:= [asI 2 2 0]
def zLT:SL:= [ldV 6 8 1,clA 7 66 6,asL 2 2 7]
def a42:AFunc:=⟨1,[0,1,2,5],[.tmp 2],(sR zLW (.seq (sR zLV (cV 5 (sT zLU) .skip)) (sT zLT))),true⟩
def a47r0:SL:= [⟨.v 6,none, .asg 6 (.c (.str []))⟩,asI 7 7 0]
def a47r1:SL:= [⟨.v 8,none, .allocT 4 [.nilp, .nils]⟩]
def a47r2:SL:= [asI 9 9 0]
def a47r3:SL:= [⟨.v 12,none, .asg 12 (.v 0)⟩,⟨.v 13,none, .len false (.v 12)⟩,asI 14 14 0]
def a47r4:SL:= [⟨.v 15,none, .bin .lss (.v 14) (.v 13)⟩]
def a47r5:SL:= [⟨.l 16,none, .iaddr 2 (.v 12) (.v 14)⟩,ldL 17 2 16,⟨.v 11,none, .allocL [.int .i64 0, .int .i64 0]⟩,stV 2 11 17]
def a47r6:SL:= [mvV 18 2,mvV 19 9,⟨.l 20,none, .aaddr 2 0 (.v 11) (.c (.int .i64 0))⟩,ldN 21 20,⟨.l 22,none, .slice none (.l 18) (some (.l 19)) (some (.l 21))⟩,⟨.l 23,none, .call 51 [.pl (.v 8), .pl (.l 22)]⟩]
def a47r7:SL:= [mvV 24 1,mvV 25 2,⟨.l 26,none, .aaddr 2 0 (.v 11) (.c (.int .i64 0))⟩,ldN 27 26,⟨.l 28,none, .aaddr 2 0 (.v 11) (.c (.int .i64 1))⟩,ldN 29 28,⟨.l 30,none, .slice none (.l 25) (some (.l 27)) (some (.l 29))⟩,clB 31 48 24 30,⟨.l 32,none, .call 51 [.pl (.v 8), .pl (.l 31)]⟩]
def a47r8:SL:= [⟨.l 33,none, .aaddr 2 0 (.v 11) (.c (.int .i64 1))⟩,ldN 34 33,asL 9 9 34]
def a47r9:SL:= [bxI 35 .add 14 1,asL 14 14 35]
def zLJ:ACode:=(sR a47r4 (.seq (cV 15 .skip (.exit 0)) (.seq (.block 1 (sR a47r5 (sR a47r6 (sR a47r7 (.region a47r8))))) (.region a47r9))))
def zLI:SL:= [mvV 36 2,mvV 37 9,⟨.l 38,none, .slice none (.l 36) (some (.l 37)) none⟩,⟨.l 39,none, .call 51 [.pl (.v 8), .pl (.l 38)]⟩]
def zLH:SL:= [⟨.l 40,none, .call 55 [.pl (.v 8)]⟩,mvV 41 0,lnS 42 false 41,asL 6 6 40,asL 7 7 42]
def a47:AFunc:=⟨3,[0,1,2,6,7,8,9,11,12,13,14,15],[.tmp 6, .tmp 7],(sR a47r0 (sR a47r1 (sR a47r2 (.seq (sR a47r3 (bL 0 zLJ)) (sR zLI (sT zLH)))))),true⟩
def zr6:SL:= [asB 2 2 false]
def zr5:SL:= [mvV 3 0,⟨.l 4,none, .bin .eql (.l 3) (.c (.int .u8 32))⟩,mvL 5 4,mgV 6 5 false 0,⟨.l 7,some (.l 5,false), .bin .eql (.l 6) (.c (.int .u8 9))⟩,pkT 8 5 7,mvL 9 8,mgV 10 9 false 0,⟨.l 11,some (.l 9,false), .bin .eql (.l 10) (.c (.int .u8 10))⟩,pkT 12 9 11,asL 2 2 12]
def a193:AFunc:=⟨1,[0,2],[.tmp 2],(sR zr6 (sT zr5)),true⟩
def zAS:SL:= [⟨.v 4,none, .asg 4 (.c (.str []))⟩,⟨.v 5,none, .asg 5 (.c (.str []))⟩,asB 6 6 false]
def zAR:SL:= [mvV 8 0,mvV 9 1,clB 10 112 8 9,asL 7 7 10]
def zAQ:SL:= [mvV 11 7,bvI 12 .geq 11 0]
def zAT:Plan:=(.seq 0 (mvV 13 0) (.seq 1 (mvV 14 7) (.seq 2 ⟨.l 15,none, .slice none (.l 13) none (some (.l 14))⟩ (.seq 3 (mvV 16 0) (.seq 4 (mvV 17 7) (.seq 5 (mvV 18 1) (.seq 6 (lnS 19 true 18) (.seq 7 (bnL 20 .add 17 19) (.seq 8 ⟨.l 21,none, .slice none (.l 16) (some (.l 20)) none⟩ (.seq 9 (asL 4 4 15) (.seq 10 (asL 5 5 21) (.seq 11 (asB 6 6 true) .fin))))))))))))
def zAP:SL:= [mvV 22 0,asL 4 0 22,⟨.v 5,none, .asg 5 (.c (.str []))⟩,asB 6 6 false]
def a104:AFunc:=⟨2,[0,1,4,5,6,7,12],[.tmp 4, .tmp 5, .tmp 6],(sR zAS (.seq (sR zAR (sR zAQ (cV 12 (.seq (.draw zAT) .ret) .skip))) (sT zAP))),true⟩
def zLN:SL:= [bxV 2 0,⟨.v 4,none, .asg 4 (.c .nils)⟩]
def zLM:SL:= [⟨.l 14,none, .bslice false (.nils) 0 []⟩,asL 5 5 14]
def zLL:SL:= [asI 6 6 0]
def zHJ:SL:= [mvV 15 6,mvV 16 1,lnS 17 true 16,bvL 18 .leq 15 17]
def zLK:SL:= [mvV 21 1,lnS 22 true 21,bnI 23 .add 22 1,⟨.l 24,none, .mslice false (.bool false) (.l 23) (.l 23)⟩,asL 7 7 24]
def znd:SL:= [mvV 25 7,mvV 26 6,fdV 27 0 2,ldN 28 27,bnI 29 .eql 28 0,mvL 30 29,fdG 31 30 false 0 2,ldG 32 30 false 31,bgI 33 30 false .eql 32 2,mgL 34 30 false 33,mgV 35 34 true 6,bgI 36 34 true .eql 35 0,pgF 37 30 false 34 36,pkT 38 30 37,mvL 39 38,fdG 40 39 false 0 2,ldG 41 39 false 40,bgI 42 39 false .eql 41 3,mgL 43 39 false 42,mgV 44 43 true 6,mgV 45 43 true 1,lgS 46 43 true true 45,bgL 47 43 true .eql 44 46,pgF 48 39 false 43 47,pkT 49 39 48,mvL 50 49,fdG 51 50 false 0 2,ldG 52 50 false 51,bgI 53 50 false .eql 52 4,pkT 54 50 53,mvL 55 54,fdG 56 55 false 0 2,ldG 57 55 false 56,bgI 58 55 false .eql 57 6,pkT 59 55 58,ixL 60 0 25 26,stL 60 59]
def zC3:SL:= [fdV 61 0 2,ldN 62 61,bnI 63 .eql 62 1,mvL 64 63,mgV 65 64 true 6,mgV 66 64 true 1,lgS 67 64 true true 66,bgL 68 64 true .lss 65 67,pvF 69 64 68]
def zC4:Plan:=(.seq 0 (mvV 70 7) (.seq 1 (mvV 71 6) (.seq 2 (bnI 72 .add 71 1) (.seq 3 (fdV 73 1 2) (.seq 4 (ldL 74 4 73) (.seq 6 (mvV 76 1) (.seq 7 (mvV 77 6) (.seq 8 ⟨.l 78,none, .sidx (.l 76) (.l 77)⟩ (.one 5 (clA 75 72 74) (.seq 9 ⟨.l 79,none, .aidx 256 none (.l 75) (.l 78)⟩ (.seq 10 (ixL 80 0 70 72) (.one 11 (stL 80 79) .fin))))))))))))
def zC2:SL:= [mvV 81 5,mvV 82 7,⟨.l 83,none, .bslice false (.nils) 1 [(0,(.l 82))]⟩,apL 84 0 81 83,asL 5 5 84]
def zC1:SL:= [mvV 19 6,bnI 20 .add 19 1,asL 6 6 20]
def a46l10:ACode:=(.seq (sR zHJ (cV 18 .skip (.exit 0))) (.seq (.block 1 (sR zLK (sR znd (.seq (sR zC3 (cV 69 (.draw zC4) .skip)) (.region zC2))))) (.region zC1)))
def zr4:SL:= [fdV 85 0 2,ldN 86 85,bvI 87 .eql 86 4]
def zr3:SL:= [asI 8 8 0]
def zo8:SL:= [mvV 88 8,fdV 89 7 2,ldN 90 89,lnS 91 false 90,bvL 92 .lss 88 91]
def zr2:SL:= [mvV 95 5,fdV 96 7 2,ldN 97 96,mvV 98 8,ixL 99 8 97 98,ldL 100 8 99,mvV 101 1,clB 102 46 100 101,clB 103 73 95 102,asL 5 5 103]
def zr1:SL:= [mvV 93 8,bnI 94 .add 93 1,asL 8 8 94]
def a46l16:ACode:=(.seq (sR zo8 (cV 92 .skip (.exit 2))) (.seq (.block 3 (.region zr2)) (.region zr1)))
def zr0:SL:= [fdV 104 0 2,ldN 105 104,bvI 106 .eql 105 5]
def zrZ:SL:= [asI 9 9 0]
def zo7:SL:= [mvV 107 9,fdV 108 7 2,ldN 109 108,lnS 110 false 109,bvL 111 .lss 107 110]
def zrY:SL:= [mvV 114 5,fdV 115 7 2,ldN 116 115,mvV 117 9,ixL 118 8 116 117,ldL 119 8 118,mvV 120 1,clB 121 46 119 120,clB 122 74 114 121,asL 5 5 122]
def zrX:SL:= [mvV 112 9,bnI 113 .add 112 1,asL 9 9 113]
def a46l22:ACode:=(.seq (sR zo7 (cV 111 .skip (.exit 4))) (.seq (.block 5 (.region zrY)) (.region zrX)))
def zrW:SL:= [fdV 123 0 2,ldN 124 123,bvI 125 .eql 124 6]
def zEl:SL:= [fdV 126 7 2,ldN 127 126,⟨.l 128,none, .iaddr 8 (.l 127) (.c (.int .i64 0))⟩,ldL 129 8 128,mvV 130 1,clB 131 46 129 130,asL 10 10 131]
def zEk:SL:= [asI 11 11 0]
def zzB:SL:= [mvV 132 11,fdV 133 5 2,ldN 134 133,bvL 135 .lss 132 134]
def zEj:SL:= [mvV 138 5,mvV 139 10,clB 140 73 138 139,asL 5 5 140]
def zEi:SL:= [mvV 136 11,bnI 137 .add 136 1,asL 11 11 137]
def a46l29:ACode:=(.seq (sR zzB (cV 135 .skip (.exit 6))) (.seq (.block 7 (.region zEj)) (.region zEi)))
def zvD:SL:= [fdV 141 6 2,ldN 142 141,bvI 143 .lss 142 0]
def zvC:SL:= [mvV 144 5,mvV 145 10,clA 146 75 145,clB 147 73 144 146,asL 4 4 147]
def zzA:SL:= [mvV 148 5,asL 12 12 148]
def zzz:SL:= [fdV 149 5 2,ldN 150 149,asL 13 13 150]
def zzy:SL:= [mvV 151 13,fdV 152 6 2,ldN 153 152,bvL 154 .lss 151 153]
def zEh:SL:= [mvV 157 12,mvV 158 10,clB 159 73 157 158,asL 12 12 159]
def zEg:SL:= [mvV 160 5,mvV 161 12,clB 162 74 160 161,asL 5 5 162]
def zEf:SL:= [mvV 155 13,bnI 156 .add 155 1,asL 13 13 156]
def a46l38:ACode:=(.seq (sR zzy (cV 154 .skip (.exit 8))) (.seq (.block 9 (sR zEh (.region zEg))) (.region zEf)))
def zvB:SL:= [mvV 163 5,asL 4 5 163]
def a46:AFunc:=⟨2,[0,1,2,4,5,6,7,8,9,10,11,12,13,18,69,87,92,106,111,125,135,143,154],[.tmp 4],(sR zLN (sR zLM (.seq (sR zLL (bL 0 a46l10)) (.seq (sR zr4 (cV 87 (sR zr3 (bL 2 a46l16)) .skip)) (.seq (sR zr0 (cV 106 (sR zrZ (bL 4 a46l22)) .skip)) (.seq (sR zrW (cV 125 (sR zEl (.seq (sR zEk (bL 6 a46l29)) (.seq (sR zvD (cV 143 (sT zvC) .skip)) (sR zzA (sR zzz (bL 8 a46l38)))))) .skip)) (sT zvB))))))),true⟩
def zEz:SL:= [asI 4 4 0,asI 5 5 0,asB 6 6 false]
def zEy:SL:= [mvV 9 1,asL 7 7 9]
def zvK:SL:= [mvV 10 7,mvV 11 0,lnS 12 false 11,bvL 13 .lss 10 12]
def zzP:SL:= [mvV 16 0,mvV 17 7,ixL 18 0 16 17,ldN 19 18,clA 20 155 19,asL 8 8 20]
def zzO:SL:= [mvV 21 8,bvI 22 .geq 21 0]
def zzN:SL:= [mvV 23 7,mvV 24 8,asL 4 7 23,asL 5 8 24,asB 6 6 true]
def zEx:SL:= [mvV 14 7,bnI 15 .add 14 1,asL 7 7 15]
def a152l7:ACode:=(.seq (sR zvK (cV 13 .skip (.exit 0))) (.seq (.block 1 (sR zzP (sR zzO (cV 22 (sT zzN) .skip)))) (.region zEx)))
def zEw:SL:= [asI 4 4 0,asI 5 5 0,asB 6 6 false]
def a152:AFunc:=⟨2,[0,1,4,5,6,7,8,13,22],[.tmp 4, .tmp 5, .tmp 6],(sR zEz (.seq (sR zEy (bL 0 a152l7)) (sT zEw))),true⟩
def zHE:SL:= [⟨.v 4,none, .allocL [.int .i64 0, .int .u64 0, .int .u64 0, .int .u64 0, .int .u64 0, .int .i64 0, .int .i64 0, .nils]⟩]
def zHD:SL:= [mvV 7 0,mvV 8 1,clB 9 92 7 8,⟨.l 10,none, .bslice false (.agg [.int .i64 0, .int .u64 0, .int .u64 0, .int .u64 0, .int .u64 0, .int .i64 0, .int .i64 0, .nils]) 1 [(0,(.l 9))]⟩,asL 5 5 10]
def zzt:SL:= [mvV 11 0,clA 12 93 11,bvI 13 .eql 12 124]
def zHC:SL:= [mvV 14 0,nlC 15 14,fdL 16 1 15,ldN 17 16,bnI 18 .add 17 1,nlC 19 14,fdL 20 1 19,stL 20 18]
def zHB:SL:= [mvV 21 0,mvV 22 1,clB 23 92 21 22,⟨.v 6,none, .allocL [.int .i64 0, .int .u64 0, .int .u64 0, .int .u64 0, .int .u64 0, .int .i64 0, .int .i64 0, .nils]⟩,stV 8 6 23]
def zHA:SL:= [mvV 24 5,ldV 25 8 6,⟨.l 26,none, .bslice false (.agg [.int .i64 0, .int .u64 0, .int .u64 0, .int .u64 0, .int .u64 0, .int .i64 0, .int .i64 0, .nils]) 1 [(0,(.l 25))]⟩,apL 27 8 24 26,asL 5 5 27]
def a69l6:ACode:=(.seq (sR zzt (cV 13 .skip (.exit 0))) (.block 1 (sR zHC (sR zHB (.region zHA)))))
def zHz:SL:= [mvV 28 5,⟨.l 29,none, .call 3 [.pl (.c (.int .i64 5)), .pl (.l 28)]⟩,stV 8 4 29]
def a69:AFunc:=⟨2,[0,1,4,5,6,13],[.cell 4 (some 8)],(sR zHE (sR zHD (.seq (bL 0 a69l6) (sT zHz)))),false⟩
def zLv:SL:= [bxV 3 0,asB 6 6 false]
def zLu:SL:= [fdV 9 0 3,ldN 10 9,asL 7 7 10]
def ziB:SL:= [mvV 11 2,bnI 12 .gtr 11 100,mvL 13 12,mgV 14 13 false 7,bgI 15 13 false .lss 14 0,pkT 16 13 15,mvL 17 16,mgV 18 17 false 7,bgI 19 17 false .gtr 18 6,pkT 20 17 19,mvL 21 20,mgV 22 21 false 7,bgI 23 21 false .neq 22 1,mgL 24 21 false 23,fdG 25 24 true 1 3,⟨.l 26,some (.l 24,true), .load (some 4) (.l 25)⟩,⟨.l 27,some (.l 24,true), .build [.int .u64 0, .int .u64 0, .int .u64 0, .int .u64 0] []⟩,⟨.l 28,some (.l 24,true), .eqG true (List.replicate 4 1) (.l 26) (.l 27)⟩,pgF 29 21 false 24 28,pkT 30 21 29,mvL 31 30,mgV 32 31 false 7,bgI 33 31 false .neq 32 6,mgL 34 31 false 33,fdG 35 34 true 5 3,ldG 36 34 true 35,bgI 37 34 true .neq 36 0,mgL 38 34 true 37,fdG 39 38 false 6 3,ldG 40 38 false 39,bgI 41 38 false .neq 40 0,pgT 42 34 true 38 41,pgF 43 31 false 34 42,pkT 44 31 43,mvL 45 44,mgV 46 45 false 7,bgI 47 45 false .lss 46 4,mgL 48 45 false 47,fdG 49 48 true 7 3,ldG 50 48 true 49,lgS 51 48 true false 50,bgI 52 48 true .gtr 51 0,pgF 53 45 false 48 52,pvT 54 45 53]
def zLt:SL:= [asB 6 6 false]
def zqc:SL:= [mvV 55 7,bnI 56 .eql 55 0,mvL 57 56,mgV 58 57 true 1,bgI 59 57 true .eql 58 4,pkF 60 57 59,mvL 61 60,mgV 62 61 false 7,bgI 63 61 false .eql 62 4,mgL 64 61 false 63,mgV 65 64 false 7,bgI 66 64 false .eql 65 5,pgT 67 61 false 64 66,mgL 68 61 false 67,mgV 69 68 true 7,mgV 70 68 true 1,bgL 71 68 true .eql 69 70,mgL 72 68 true 71,fdG 73 72 false 7 3,ldG 74 72 false 73,lgS 75 72 false false 74,bgI 76 72 false .lss 75 2,pgT 77 68 true 72 76,pgF 78 61 false 68 77,pvT 79 61 78]
def zLs:SL:= [asB 6 6 false]
def zm1:SL:= [mvV 80 7,bnI 81 .eql 80 6,mvL 82 81,fdG 83 82 true 7 3,ldG 84 82 true 83,lgS 85 82 true false 84,bgI 86 82 true .neq 85 1,mgL 87 82 true 86,fdG 88 87 false 5 3,ldG 89 87 false 88,bgI 90 87 false .lss 89 0,pgT 91 82 true 87 90,mgL 92 82 true 91,fdG 93 92 false 5 3,ldG 94 92 false 93,bgI 95 92 false .gtr 94 50,pgT 96 82 true 92 95,mgL 97 82 true 96,fdG 98 97 false 6 3,ldG 99 97 false 98,bgI 100 97 false .gtr 99 50,pgT 101 82 true 97 100,mgL 102 82 true 101,fdG 103 102 false 6 3,ldG 104 102 false 103,fdG 105 102 false 5 3,ldG 106 102 false 105,bgL 107 102 false .lss 104 106,mgL 108 102 false 107,fdG 109 108 true 6 3,ldG 110 108 true 109,bgI 111 108 true .neq 110 (-1),pgF 112 102 false 108 111,pgT 113 82 true 102 112,pvF 114 82 113]
def zLr:SL:= [asB 6 6 false]
def zLq:SL:= [asI 8 8 0]
def zCU:SL:= [mvV 115 8,fdV 116 7 3,ldN 117 116,lnS 118 false 117,bvL 119 .lss 115 118]
def zzs:SL:= [fdV 122 7 3,ldN 123 122,mvV 124 8,ixL 125 8 123 124,ldL 126 8 125,mvV 127 7,mvV 128 2,bnI 129 .add 128 1,clC 130 70 126 127 129,⟨.v 131,none, .un .not (.l 130)⟩]
def zzr:SL:= [asB 6 6 false]
def zzq:SL:= [mvV 120 8,bnI 121 .add 120 1,asL 8 8 121]
def a70l13:ACode:=(.seq (sR zCU (cV 119 .skip (.exit 0))) (.seq (.block 1 (sR zzs (cV 131 (sT zzr) .skip))) (.region zzq)))
def zD6:SL:= [asB 6 6 true]
def a70:AFunc:=⟨3,[0,1,2,3,6,7,8,54,79,114,119,131],[.tmp 6],(sR zLv (sR zLu (.seq (sR ziB (cV 54 (sT zLt) .skip)) (.seq (sR zqc (cV 79 (sT zLs) .skip)) (.seq (sR zm1 (cV 114 (sT zLr) .skip)) (.seq (sR zLq (bL 0 a70l13)) (sT zD6))))))),true⟩
def zzp:SL:= [bxV 1 0,asI 2 2 0]
def zzo:SL:= [fdV 5 0 1,ldN 6 5,bnI 7 .geq 6 1,mvL 8 7,fdG 9 8 true 0 1,ldG 10 8 true 9,bgI 11 8 true .leq 10 3,pvF 12 8 11]
def zzn:SL:= [asI 2 2 1]
def zLp:SL:= [asI 3 3 0]
def zLo:SL:= [asI 4 4 0]
def zCT:SL:= [mvV 13 4,fdV 14 7 1,ldN 15 14,lnS 16 false 15,bvL 17 .lss 13 16]
def zHy:SL:= [mvV 20 3,fdV 21 7 1,ldN 22 21,mvV 23 4,ixL 24 8 22 23,ldL 25 8 24,clA 26 71 25,bnL 27 .add 20 26,asL 3 3 27]
def zHx:SL:= [mvV 28 3,bvI 29 .gtr 28 500]
def zHw:SL:= [asI 2 2 1000]
def zHv:SL:= [mvV 18 4,bnI 19 .add 18 1,asL 4 4 19]
def a71l10:ACode:=(.seq (sR zCT (cV 17 .skip (.exit 0))) (.seq (.block 1 (sR zHy (sR zHx (cV 29 (sT zHw) .skip)))) (.region zHv)))
def zrV:SL:= [fdV 30 0 1,ldN 31 30,bvI 32 .eql 31 5]
def zrU:SL:= [mvV 33 3,fdV 34 7 1,ldN 35 34,lnS 36 false 35,bnL 37 .add 33 36,bnI 38 .sub 37 1,asL 3 3 38]
def zrT:SL:= [fdV 39 0 1,ldN 40 39,bnI 41 .eql 40 6,mvL 42 41,fdG 43 42 true 6 1,ldG 44 42 true 43,bgI 45 42 true .lss 44 0,pvF 46 42 45]
def zrS:SL:= [fdV 47 5 1,ldN 48 47,mvV 49 3,bnL 50 .mul 48 49,mvV 51 3,bnL 52 .add 50 51,bnI 53 .add 52 1,asL 3 3 53]
def zrR:SL:= [fdV 54 0 1,ldN 55 54,bvI 56 .eql 55 6]
def zrQ:SL:= [fdV 57 5 1,ldN 58 57,mvV 59 3,bnL 60 .mul 58 59,fdV 61 6 1,ldN 62 61,fdV 63 5 1,ldN 64 63,bnL 65 .sub 62 64,mvV 66 3,bnI 67 .add 66 1,bnL 68 .mul 65 67,bnL 69 .add 60 68,asL 3 3 69]
def zvz:SL:= [mvV 70 3,bvI 71 .gtr 70 500]
def zvy:SL:= [asI 2 2 1000]
def zvx:SL:= [mvV 72 3,asL 2 3 72]
def a71:AFunc:=⟨1,[0,1,2,3,4,12,17,29,32,46,56,71],[.tmp 2],(sR zzp (.seq (sR zzo (cV 12 (sT zzn) .skip)) (sR zLp (.seq (sR zLo (bL 0 a71l10)) (.seq (sR zrV (cV 32 (.region zrU) .skip)) (.seq (sR zrT (cV 46 (.region zrS) (sR zrR (cV 56 (.region zrQ) .skip)))) (.seq (sR zvz (cV 71 (sT zvy) .skip)) (sT zvx)))))))),true⟩
def zKV:SL:= [bxV 3 0,asI 6 6 0]
def zKU:SL:= [asI 7 7 1]
def zKT:SL:= [asI 8 8 0]
def zze:SL:= [mvV 9 8,fdV 10 7 3,ldN 11 10,lnS 12 false 11,bnL 13 .lss 9 12,mvL 14 13,mgV 15 14 true 7,mgV 16 14 true 2,bgL 17 14 true .leq 15 16,pkF 18 14 17,mvL 19 18,mgV 20 19 true 1,bgI 21 19 true .gtr 20 0,pvF 22 19 21]
def zCO:SL:= [mvV 25 7,fdV 26 7 3,ldN 27 26,mvV 28 8,ixL 29 8 27 28,ldL 30 8 29,mvV 31 1,bnI 32 .sub 31 1,mvV 33 2,mvV 34 7,bnL 35 .sub 33 34,clC 36 85 30 32 35,bnL 37 .add 25 36,asL 7 7 37]
def zCN:SL:= [mvV 23 8,bnI 24 .add 23 1,asL 8 8 24]
def a85l6:ACode:=(.seq (sR zze (cV 22 .skip (.exit 0))) (.seq (.block 1 (.region zCO)) (.region zCN)))
def zHe:SL:= [mvV 38 1,bvI 39 .leq 38 0]
def zHd:SL:= [mvV 40 2,bnI 41 .add 40 1,asL 6 6 41]
def zHc:SL:= [mvV 42 7,asL 6 7 42]
def a85:AFunc:=⟨3,[0,1,2,3,6,7,8,22,39],[.tmp 6],(sR zKV (sR zKU (.seq (sR zKT (bL 0 a85l6)) (.seq (sR zHe (cV 39 (sT zHd) .skip)) (sT zHc))))),true⟩
def zHb:SL:= [⟨.v 4,none, .allocL [.int .i64 0, .int .u64 0, .int .u64 0, .int .u64 0, .int .u64 0, .int .i64 0, .int .i64 0, .nils]⟩]
def zHa:SL:= [mvV 6 0,mvV 7 1,clB 8 87 6 7,⟨.l 9,none, .bslice false (.agg [.int .i64 0, .int .u64 0, .int .u64 0, .int .u64 0, .int .u64 0, .int .i64 0, .int .i64 0, .nils]) 1 [(0,(.l 8))]⟩,asL 5 5 9]
def zCM:SL:= [mvV 10 0,⟨.v 11,none, .call 88 [.pl (.l 10), .pl (.c (.int .u8 124))]⟩]
def zG9:SL:= [mvV 12 5,mvV 13 0,mvV 14 1,clB 15 87 13 14,⟨.l 16,none, .bslice false (.agg [.int .i64 0, .int .u64 0, .int .u64 0, .int .u64 0, .int .u64 0, .int .i64 0, .int .i64 0, .nils]) 1 [(0,(.l 15))]⟩,apL 17 8 12 16,asL 5 5 17]
def a86l4:ACode:=(.seq (sR zCM (cV 11 .skip (.exit 0))) (.block 1 (.region zG9)))
def zKS:SL:= [mvV 18 5,⟨.l 19,none, .call 89 [.pl (.c (.int .i64 5)), .pl (.l 18)]⟩,stV 8 4 19]
def a86:AFunc:=⟨2,[0,1,4,5,11],[.cell 4 (some 8)],(sR zHb (sR zHa (.seq (bL 0 a86l4) (sT zKS)))),false⟩
def zC0:SL:= [bxV 1 0,asI 2 2 0]
def zCZ:SL:= [ldV 3 8 1,clA 4 81 3,⟨.v 5,none, .un .not (.l 4)⟩]
def zCY:SL:= [asI 2 2 0]
def zCX:SL:= [ldV 6 8 1,clA 7 82 6,⟨.l 8,none, .minI (.l 7) (.c (.int .i64 500))⟩,bnI 9 .add 8 1,asL 2 2 9]
def a57:AFunc:=⟨1,[0,1,2,5],[.tmp 2],(sR zC0 (.seq (sR zCZ (cV 5 (sT zCY) .skip)) (sT zCX))),true⟩
def zlV:SL:= [bxV 4 1,asI 6 6 0]
def zlU:SL:= [fdV 10 0 4,⟨.v 11,none, .load none (.l 10)⟩]
def zlT:SL:= [bxI 13 .eql 11 1,asL 12 12 13]
def zlS:SL:= [mvV 14 0,fdV 15 1 4,ldL 16 4 15,mvV 17 2,⟨.l 18,none, .build [.int .i64 0, .int .u64 0, .int .u64 0, .int .u64 0, .int .u64 0, .int .i64 0, .int .i64 0] [(0,1,(.c (.int .i64 0))),(1,4,(.l 16)),(5,1,(.l 17))]⟩,clB 19 58 14 18,asL 6 6 19]
def zlR:SL:= [bxI 21 .eql 11 2,asL 20 20 21]
def zlQ:SL:= [mvV 22 0,mvV 23 2,⟨.l 24,none, .build [.int .i64 0, .int .u64 0, .int .u64 0, .int .u64 0, .int .u64 0, .int .i64 0, .int .i64 0] [(0,1,(.c (.int .i64 1))),(5,1,(.l 23))]⟩,clB 25 58 22 24,asL 6 6 25]
def zlP:SL:= [bxI 27 .eql 11 3,asL 26 26 27]
def zlO:SL:= [mvV 28 0,mvV 29 2,⟨.l 30,none, .build [.int .i64 0, .int .u64 0, .int .u64 0, .int .u64 0, .int .u64 0, .int .i64 0, .int .i64 0] [(0,1,(.c (.int .i64 2))),(5,1,(.l 29))]⟩,clB 31 58 28 30,asL 6 6 31]
def zlN:SL:= [bxI 33 .eql 11 4,asL 32 32 33]
def zlM:SL:= [fdV 34 7 4,ldN 35 34,lnS 36 false 35,bnI 37 .sub 36 1,asL 7 7 37]
def zfu:SL:= [mvV 38 7,bvI 39 .geq 38 0]
def zft:SL:= [mvV 42 0,fdV 43 7 4,ldN 44 43,mvV 45 7,ixL 46 8 44 45,ldL 47 8 46,mvV 48 2,clC 49 59 42 47 48,asL 2 2 49]
def zfs:SL:= [mvV 40 7,bnI 41 .sub 40 1,asL 7 7 41]
def a59l13:ACode:=(.seq (sR zfu (cV 39 .skip (.exit 1))) (.seq (.block 2 (.region zft)) (.region zfs)))
def zg8:SL:= [bxI 51 .eql 11 5,asL 50 50 51]
def zg7:SL:= [mvV 52 0,fdV 53 7 4,ldN 54 53,fdV 55 7 4,ldN 56 55,lnS 57 false 56,bnI 58 .sub 57 1,ixL 59 8 54 58,ldL 60 8 59,mvV 61 2,clC 62 59 52 60 61,asL 8 8 62]
def zg6:SL:= [fdV 63 7 4,ldN 64 63,lnS 65 false 64,bnI 66 .sub 65 2,asL 9 9 66]
def zfr:SL:= [mvV 67 9,bvI 68 .geq 67 0]
def zfq:SL:= [mvV 71 0,mvV 72 0,fdV 73 7 4,ldN 74 73,mvV 75 9,ixL 76 8 74 75,ldL 77 8 76,mvV 78 2,clC 79 59 72 77 78,mvV 80 8,⟨.l 81,none, .build [.int .i64 0, .int .u64 0, .int .u64 0, .int .u64 0, .int .u64 0, .int .i64 0, .int .i64 0] [(0,1,(.c (.int .i64 3))),(5,1,(.l 79)),(6,1,(.l 80))]⟩,clB 82 58 71 81,asL 8 8 82]
def zfp:SL:= [mvV 69 9,bnI 70 .sub 69 1,asL 9 9 70]
def a59l20:ACode:=(.seq (sR zfr (cV 68 .skip (.exit 3))) (.seq (.block 4 (.region zfq)) (.region zfp)))
def zg5:SL:= [mvV 83 8,asL 6 8 83]
def zg4:SL:= [bxI 85 .eql 11 6,asL 84 84 85]
def zg3:SL:= [mvV 86 0,ldV 87 8 4,mvV 88 2,clC 89 83 86 87 88,asL 6 6 89]
def zg2:SL:= [mvV 90 2,asL 6 2 90]
def a59:AFunc:=⟨3,[0,1,2,4,6,7,8,9,11,12,20,26,32,39,50,68,84],[.tmp 6],(sR zlV (.seq (sR zlU (.block 0 (sR zlT (cV 12 (sT zlS) (sR zlR (cV 20 (sT zlQ) (sR zlP (cV 26 (sT zlO) (sR zlN (cV 32 (sR zlM (bL 1 a59l13)) (sR zg8 (cV 50 (sR zg7 (.seq (sR zg6 (bL 3 a59l20)) (sT zg5))) (sR zg4 (cV 84 (sT zg3) .skip)))))))))))))) (sT zg2))),false⟩
def zHH:SL:= [bxV 3 1,asI 4 4 0]
def zHI:Plan:=(.seq 0 (mvV 5 0) (.seq 1 (mvV 6 0) (.seq 2 (nlC 7 6) (.seq 3 (fdL 8 0 7) (.seq 5 (ldV 10 7 3) (.alt 4 (ldN 9 8) (.one 6 ⟨.l 11,none, .bslice false (.agg [.int .i64 0, .int .u64 0, .int .u64 0, .int .u64 0, .int .u64 0, .int .i64 0, .int .i64 0]) 1 [(0,(.l 10))]⟩ (.one 7 ⟨.l 12,none, .append true 7 (.l 9) (.l 11)⟩ (.seq 8 (nlC 13 5) (.seq 9 (fdL 14 0 13) (.one 10 (stL 14 12) .fin))))) (.one 6 ⟨.l 11,none, .bslice false (.agg [.int .i64 0, .int .u64 0, .int .u64 0, .int .u64 0, .int .u64 0, .int .i64 0, .int .i64 0]) 1 [(0,(.l 10))]⟩ (.seq 4 (ldN 9 8) (.one 7 ⟨.l 12,none, .append true 7 (.l 9) (.l 11)⟩ (.seq 8 (nlC 13 5) (.seq 9 (fdL 14 0 13) (.one 10 (stL 14 12) .fin))))))))))))
def zHG:SL:= [mvV 15 0,nlC 16 15,fdL 17 0 16,ldN 18 17,lnS 19 false 18,bnI 20 .sub 19 1,asL 4 4 20]
def a58:AFunc:=⟨2,[0,1,3,4],[.tmp 4],(sR zHH (.seq (.draw zHI) (sT zHG))),false⟩
def zLx:SL:= [⟨.v 3,none, .boxH (.v 0)⟩,⟨.v 5,none, .boxH (.v 2)⟩,asB 6 6 false]
def zm9:SL:= [⟨.l 7,none, .load none (.v 5)⟩,bnI 8 .gtr 7 100,mvL 9 8,fdG 10 9 false 0 3,ldG 11 9 false 10,bgI 12 9 false .neq 11 1,mgL 13 9 false 12,fdG 14 13 true 1 3,⟨.l 15,some (.l 13,true), .load (some 4) (.l 14)⟩,⟨.l 16,some (.l 13,true), .build [.int .u64 0, .int .u64 0, .int .u64 0, .int .u64 0] []⟩,⟨.l 17,some (.l 13,true), .eqG true (List.replicate 4 1) (.l 15) (.l 16)⟩,pgF 18 9 false 13 17,pkT 19 9 18,mvL 20 19,fdG 21 20 false 0 3,ldG 22 20 false 21,bgI 23 20 false .neq 22 6,mgL 24 20 false 23,fdG 25 24 true 5 3,ldG 26 24 true 25,bgI 27 24 true .neq 26 0,mgL 28 24 true 27,fdG 29 28 false 6 3,ldG 30 28 false 29,bgI 31 28 false .neq 30 0,pgT 32 24 true 28 31,pgF 33 20 false 24 32,pvT 34 20 33]
def zlL:SL:= [asB 6 6 false]
def zm8:SL:= [fdV 35 0 3,⟨.v 36,none, .load none (.l 35)⟩]
def zm7:SL:= [bxI 38 .eql 36 0,asL 37 37 38]
def zm6:SL:= [fdV 39 7 3,ldN 40 39,lnS 41 false 40,bnI 42 .eql 41 0,mvL 43 42,mgV 44 43 true 1,bgI 45 43 true .neq 44 4,pkF 46 43 45,asL 6 6 46]
def zm5:SL:= [bxI 48 .eql 36 1,asL 47 47 48]
def zm4:SL:= [bxI 49 .eql 36 2,asL 47 47 49]
def zm3:SL:= [bxI 50 .eql 36 3,asL 47 47 50]
def zm2:SL:= [fdV 51 7 3,ldN 52 51,lnS 53 false 52,bnI 54 .eql 53 0,asL 6 6 54]
def zhU:SL:= [bxI 56 .eql 36 4,asL 55 55 56]
def zhT:SL:= [bxI 57 .eql 36 5,asL 55 55 57]
def zhS:SL:= [mvV 58 1,fdV 59 0 3,ldN 60 59,bnL 61 .eql 58 60,mvL 62 61,fdG 63 62 false 7 3,ldG 64 62 false 63,lgS 65 62 false false 64,bgI 66 62 false .lss 65 2,pvT 67 62 66]
def zhR:SL:= [asB 6 6 false]
def zhQ:SL:= [bxI 69 .eql 36 6,asL 68 68 69]
def zdU:SL:= [fdV 70 7 3,ldN 71 70,lnS 72 false 71,bnI 73 .neq 72 1,mvL 74 73,fdG 75 74 false 5 3,ldG 76 74 false 75,bgI 77 74 false .lss 76 0,pkT 78 74 77,mvL 79 78,fdG 80 79 false 5 3,ldG 81 79 false 80,bgI 82 79 false .gtr 81 50,pkT 83 79 82,mvL 84 83,fdG 85 84 false 6 3,ldG 86 84 false 85,bgI 87 84 false .neq 86 (-1),mgL 88 84 false 87,fdG 89 88 true 6 3,ldG 90 88 true 89,fdG 91 88 true 5 3,ldG 92 88 true 91,bgL 93 88 true .lss 90 92,mgL 94 88 true 93,fdG 95 94 false 6 3,ldG 96 94 false 95,bgI 97 94 false .gtr 96 50,pgT 98 88 true 94 97,pgF 99 84 false 88 98,pvT 100 84 99]
def zg1:SL:= [asB 6 6 false]
def zg0:SL:= [asB 6 6 false]
def zgZ:SL:= [fdV 101 7 3,ldN 102 101,⟨.l 103,none, .mkfn 90 [(.v 3),(.v 5)]⟩,clB 104 91 102 103,⟨.l 105,none, .un .not (.l 104)⟩,asL 6 6 105]
def a65:AFunc:=⟨3,[0,1,2,3,5,6,34,36,37,47,55,67,68,100],[.tmp 6],(sR zLx (.seq (sR zm9 (cV 34 (sT zlL) .skip)) (.seq (sR zm8 (.block 0 (sR zm7 (cV 37 (sT zm6) (.seq (sR zm5 (.cond false (.v 47) .skip (sR zm4 (.cond false (.v 47) .skip (.region zm3))))) (.cond false (.v 47) (sT zm2) (.seq (sR zhU (.cond false (.v 55) .skip (.region zhT))) (.cond false (.v 55) (sR zhS (cV 67 (sT zhR) .skip)) (sR zhQ (cV 68 (sR zdU (cV 100 (sT zg1) .skip)) (sT zg0))))))))))) (sT zgZ)))),true⟩
def zxi:SL:= [bxV 1 0,asI 2 2 0]
def zxh:SL:= [asI 3 3 0]
def zxg:SL:= [fdV 8 0 1,⟨.v 9,none, .load none (.l 8)⟩]
def zxf:SL:= [bxI 11 .eql 9 1,asL 10 10 11]
def zzv:SL:= [asI 2 2 1]
def zzu:SL:= [bxI 13 .eql 9 6,asL 12 12 13]
def zCW:Plan:=(.seq 0 (fdV 14 5 1) (.seq 2 (fdV 16 7 1) (.seq 3 (ldN 17 16) (.seq 4 ⟨.l 18,none, .iaddr 8 (.l 17) (.c (.int .i64 0))⟩ (.seq 5 (ldL 19 8 18) (.alt 1 (ldN 15 14) (.one 6 (clA 20 66 19) (.seq 7 (bnL 21 .mul 15 20) (.seq 8 (asL 2 2 21) .fin))) (.one 6 (clA 20 66 19) (.seq 1 (ldN 15 14) (.seq 7 (bnL 21 .mul 15 20) (.seq 8 (asL 2 2 21) .fin))))))))))
def zCV:SL:= [bxI 23 .eql 9 4,asL 22 22 23]
def zLw:SL:= [fdV 24 7 1,⟨.v 25,none, .load none (.l 24)⟩,⟨.v 26,none, .len false (.v 25)⟩,asI 27 27 0]
def zHF:SL:= [⟨.v 28,none, .bin .lss (.v 27) (.v 26)⟩]
def zEe:SL:= [⟨.l 29,none, .iaddr 8 (.v 25) (.v 27)⟩,ldL 30 8 29,⟨.v 5,none, .allocL [.int .i64 0, .int .u64 0, .int .u64 0, .int .u64 0, .int .u64 0, .int .i64 0, .int .i64 0, .nils]⟩,stV 8 5 30]
def zEd:SL:= [mvV 31 3,ldV 32 8 5,clA 33 66 32,bnL 34 .add 31 33,asL 3 3 34]
def zEc:SL:= [bxI 35 .add 27 1,asL 27 27 35]
def a66l13:ACode:=(sR zHF (.seq (cV 28 .skip (.exit 1)) (.seq (.block 2 (sR zEe (.region zEd))) (.region zEc))))
def zzx:SL:= [bxI 37 .eql 9 5,asL 36 36 37]
def zEb:SL:= [fdV 38 7 1,ldN 39 38,⟨.l 40,none, .iaddr 8 (.l 39) (.c (.int .i64 0))⟩,ldL 41 8 40,clA 42 66 41,asL 3 3 42]
def zEa:SL:= [fdV 43 7 1,⟨.v 44,none, .load none (.l 43)⟩,⟨.v 45,none, .len false (.v 44)⟩,asI 46 46 0]
def zzw:SL:= [⟨.v 47,none, .bin .lss (.v 46) (.v 45)⟩]
def zD9:SL:= [⟨.l 48,none, .iaddr 8 (.v 44) (.v 46)⟩,ldL 49 8 48,⟨.v 7,none, .allocL [.int .i64 0, .int .u64 0, .int .u64 0, .int .u64 0, .int .u64 0, .int .i64 0, .int .i64 0, .nils]⟩,stV 8 7 49]
def zD8:SL:= [mvV 50 3,ldV 51 8 7,clA 52 66 51,⟨.l 53,none, .minI (.l 50) (.l 52)⟩,asL 3 3 53]
def zD7:SL:= [bxI 54 .add 46 1,asL 46 46 54]
def a66l21:ACode:=(sR zzw (.seq (cV 47 .skip (.exit 3)) (.seq (.block 4 (sR zD9 (.region zD8))) (.region zD7))))
def zvA:SL:= [mvV 55 3,asL 2 3 55]
def a66:AFunc:=⟨1,[0,1,2,3,5,7,9,10,12,22,25,26,27,28,36,44,45,46,47],[.tmp 2],(sR zxi (sR zxh (.seq (sR zxg (.block 0 (sR zxf (cV 10 (sT zzv) (sR zzu (cV 12 (.seq (.draw zCW) .ret) (sR zCV (cV 22 (sR zLw (bL 1 a66l13)) (sR zzx (cV 36 (sR zEb (sR zEa (bL 3 a66l21))) .skip)))))))))) (sT zvA)))),true⟩
def a51r0:SL:= [asI 4 4 0,⟨.v 5,none, .asg 5 (.c .nili)⟩]
def a51r1:SL:= [mvV 6 0,clA 7 79 6]
def a51r2:SL:= [mvV 8 0,mvV 9 0,nlC 10 9,fdL 11 1 10,ldN 12 11,mvV 13 1,⟨.l 14,none, .appB (.l 12) (.l 13)⟩,nlC 15 8,fdL 16 1 15,stL 16 14]
def a51r3:SL:= [mvV 17 1,lnS 18 true 17,asL 4 4 18,⟨.v 5,none, .asg 5 (.c .nili)⟩]
def a51:AFunc:=⟨2,[0,1,4,5],[.tmp 4, .tmp 5],(sR a51r0 (sR a51r1 (sR a51r2 (sT a51r3)))),false⟩
def a48r0:SL:= [⟨.v 4,none, .asg 4 (.c (.str []))⟩]
def a48r1:SL:= [⟨.v 5,none, .allocT 4 [.nilp, .nils]⟩]
def a48r2:SL:= [asI 6 6 0]
def a48r3:SL:= [mvV 8 6,mvV 9 0,lnS 10 true 9,bvL 11 .lss 8 10]
def a48r4:SL:= [mvV 14 0,mvV 15 6,⟨.l 16,none, .sidx (.l 14) (.l 15)⟩,asL 7 7 16]
def a48r5:SL:= [mvV 17 7,⟨.l 18,none, .bin .eql (.l 17) (.c (.int .u8 92))⟩,mvL 19 18,mgV 20 19 true 6,bgI 21 19 true .add 20 1,mgV 22 19 true 0,lgS 23 19 true true 22,bgL 24 19 true .lss 21 23,pkF 25 19 24,mvL 26 25,mgV 27 26 true 0,mgV 28 26 true 6,bgI 29 26 true .add 28 1,⟨.l 30,some (.l 26,true), .sidx (.l 27) (.l 29)⟩,⟨.l 31,some (.l 26,true), .bin .eql (.l 30) (.c (.int .u8 38))⟩,mgL 32 26 true 31,mgV 33 32 false 0,mgV 34 32 false 6,bgI 35 32 false .add 34 1,⟨.l 36,some (.l 32,false), .sidx (.l 33) (.l 35)⟩,⟨.l 37,some (.l 32,false), .bin .eql (.l 36) (.c (.int .u8 92))⟩,pgT 38 26 true 32 37,pvF 39 26 38]
def a48r6:SL:= [mvV 40 6,bnI 41 .add 40 1,asL 6 6 41]
def a48r7:SL:= [mvV 42 0,mvV 43 6,⟨.l 44,none, .sidx (.l 42) (.l 43)⟩,⟨.l 45,none, .call 76 [.pl (.v 5), .pl (.l 44)]⟩]
def a48r8:SL:= [mvV 46 7,⟨.v 47,none, .bin .eql (.l 46) (.c (.int .u8 38))⟩]
def a48r9:SL:= [mvV 48 1,⟨.l 49,none, .call 51 [.pl (.v 5), .pl (.l 48)]⟩]
def zLF:SL:= [mvV 50 7,⟨.l 51,none, .call 76 [.pl (.v 5), .pl (.l 50)]⟩]
def zLE:SL:= [mvV 12 6,bnI 13 .add 12 1,asL 6 6 13]
def zLG:ACode:=(.seq (sR a48r3 (cV 11 .skip (.exit 0))) (.seq (.block 1 (sR a48r4 (.seq (sR a48r5 (cV 39 (sR a48r6 (sR a48r7 (.exit 1))) .skip)) (.seq (sR a48r8 (cV 47 (sR a48r9 (.exit 1)) .skip)) (.region zLF))))) (.region zLE)))
def zLD:SL:= [⟨.l 52,none, .call 55 [.pl (.v 5)]⟩,asL 4 4 52]
def a48:AFunc:=⟨2,[0,1,4,5,6,7,11,39,47],[.tmp 4],(sR a48r0 (sR a48r1 (.seq (sR a48r2 (bL 0 zLG)) (sT zLD)))),true⟩
def zL8:SL:= [asI 4 4 0]
def zL7:SL:= [mvV 5 0,mvV 6 1,clB 7 129 5 6,asL 4 4 7]
def a123:AFunc:=⟨2,[0,1,4],[.tmp 4],(sR zL8 (sT zL7)),false⟩
def zLS:SL:= [asI 6 6 0,asI 7 7 0,asB 8 8 false]
def zLR:SL:= [mvV 10 2,bvI 11 .lss 10 0]
def zLQ:SL:= [asI 6 6 0,asI 7 7 0,asB 8 8 false]
def zzC:SL:= [mvV 12 2,mvV 13 0,nlC 14 13,fdL 15 2 14,ldN 16 15,bnL 17 .add 12 16,mvV 18 1,lnS 19 true 18,bvL 20 .leq 17 19]
def zHR:SL:= [mvV 23 0,nlC 24 23,fdL 25 1 24,ldN 26 25,mvV 27 1,mvV 28 2,clC 29 35 26 27 28,asL 9 9 29]
def zHQ:SL:= [mvV 30 9,bvI 31 .geq 30 0]
def zHP:SL:= [mvV 32 2,mvV 33 9,asL 6 2 32,asL 7 9 33,asB 8 8 true]
def zLP:SL:= [mvV 21 2,bnI 22 .add 21 1,asL 2 2 22]
def a43l8:ACode:=(.seq (sR zzC (cV 20 .skip (.exit 0))) (.seq (.block 1 (sR zHR (sR zHQ (cV 31 (sT zHP) .skip)))) (.region zLP)))
def zLO:SL:= [asI 6 6 0,asI 7 7 0,asB 8 8 false]
def a43:AFunc:=⟨3,[0,1,2,6,7,8,9,11,20,31],[.tmp 6, .tmp 7, .tmp 8],(sR zLS (.seq (sR zLR (cV 11 (sT zLQ) .skip)) (.seq (bL 0 a43l8) (sT zLO)))),true⟩
def zLn:SL:= [bxV 1 0,⟨.v 2,none, .allocL (List.replicate 256 (.bool false))⟩]
def zLm:SL:= [⟨.l 5,none, .build (List.replicate 256 (.bool false)) []⟩,⟨.v 3,none, .allocL (List.replicate 256 (.bool false))⟩,stV 256 3 5]
def zLl:SL:= [asI 4 4 0]
def zHu:SL:= [mvV 6 4,bvI 7 .lss 6 256]
def zLk:SL:= [mvV 10 4,mvV 11 4,bnI 12 .quo 11 64,axV 13 4 0 1 12,ldN 14 13,mvV 15 4,bnI 16 .rem 15 64,⟨.l 17,none, .conv .u64 (.l 16)⟩,bnL 18 .shr 14 17,⟨.l 19,none, .bin .rem (.l 18) (.c (.int .u64 2))⟩,⟨.l 20,none, .bin .eql (.l 19) (.c (.int .u64 1))⟩,axV 21 256 0 3 10,stL 21 20]
def zLj:SL:= [mvV 8 4,bnI 9 .add 8 1,asL 4 4 9]
def a72l6:ACode:=(.seq (sR zHu (cV 7 .skip (.exit 0))) (.seq (.block 1 (.region zLk)) (.region zLj)))
def zLi:SL:= [ldV 22 256 3,stV 256 2 22]
def a72:AFunc:=⟨1,[0,1,2,3,4,7],[.cell 2 (some 256)],(sR zLn (sR zLm (.seq (sR zLl (bL 0 a72l6)) (sT zLi)))),true⟩
def zLh:SL:= [⟨.v 4,none, .asg 4 (.c .nils)⟩]
def zLg:SL:= [⟨.l 10,none, .bslice false (.nils) 0 []⟩,asL 5 5 10]
def zLf:SL:= [asI 6 6 0]
def zHt:SL:= [mvV 11 6,mvV 12 0,lnS 13 false 12,bvL 14 .lss 11 13]
def zLe:SL:= [mvV 17 0,lnS 18 false 17,⟨.l 19,none, .mslice false (.bool false) (.l 18) (.l 18)⟩,asL 7 7 19]
def zLd:SL:= [asI 8 8 0]
def zCS:SL:= [mvV 20 8,mvV 21 0,lnS 22 false 21,bvL 23 .lss 20 22]
def zHs:SL:= [mvV 26 0,mvV 27 6,ixL 28 0 26 27,ldN 29 28,mvV 30 8,ixL 31 0 29 30,⟨.v 32,none, .load none (.l 31)⟩]
def zHr:SL:= [asI 9 9 0]
def zCR:SL:= [mvV 33 9,mvV 34 0,lnS 35 false 34,bvL 36 .lss 33 35]
def zzm:SL:= [mvV 39 7,mvV 40 9,mvV 41 7,mvV 42 9,ixL 43 0 41 42,ldN 44 43,mvL 45 44,mgV 46 45 false 1,mgV 47 45 false 8,⟨.l 48,some (.l 45,false), .iaddr 0 (.l 46) (.l 47)⟩,ldG 49 45 false 48,mgV 50 45 false 9,⟨.l 51,some (.l 45,false), .iaddr 0 (.l 49) (.l 50)⟩,ldG 52 45 false 51,pkT 53 45 52,ixL 54 0 39 40,stL 54 53]
def zzl:SL:= [mvV 37 9,bnI 38 .add 37 1,asL 9 9 38]
def a73l12:ACode:=(.seq (sR zCR (cV 36 .skip (.exit 4))) (.seq (.block 5 (.region zzm)) (.region zzl)))
def zzk:SL:= [mvV 24 8,bnI 25 .add 24 1,asL 8 8 25]
def a73l14:ACode:=(.seq (sR zCS (cV 23 .skip (.exit 2))) (.seq (.block 3 (sR zHs (cV 32 (sR zHr (bL 4 a73l12)) .skip))) (.region zzk)))
def zD5:SL:= [mvV 55 5,mvV 56 7,⟨.l 57,none, .bslice false (.nils) 1 [(0,(.l 56))]⟩,apL 58 0 55 57,asL 5 5 58]
def zD4:SL:= [mvV 15 6,bnI 16 .add 15 1,asL 6 6 16]
def a73l17:ACode:=(.seq (sR zHt (cV 14 .skip (.exit 0))) (.seq (.block 1 (sR zLe (.seq (sR zLd (bL 2 a73l14)) (.region zD5)))) (.region zD4)))
def zD3:SL:= [mvV 59 5,asL 4 5 59]
def a73:AFunc:=⟨2,[0,1,4,5,6,7,8,9,14,23,32,36],[.tmp 4],(sR zLh (sR zLg (.seq (sR zLf (bL 0 a73l17)) (sT zD3)))),true⟩
def zLc:SL:= [⟨.v 4,none, .asg 4 (.c .nils)⟩]
def zLb:SL:= [⟨.l 9,none, .bslice false (.nils) 0 []⟩,asL 5 5 9]
def zLa:SL:= [asI 6 6 0]
def zHq:SL:= [mvV 10 6,mvV 11 0,lnS 12 false 11,bvL 13 .lss 10 12]
def zK9:SL:= [mvV 16 0,lnS 17 false 16,⟨.l 18,none, .mslice false (.bool false) (.l 17) (.l 17)⟩,asL 7 7 18]
def zK8:SL:= [asI 8 8 0]
def zCQ:SL:= [mvV 19 8,mvV 20 0,lnS 21 false 20,bvL 22 .lss 19 21]
def zHp:SL:= [mvV 25 7,mvV 26 8,mvV 27 0,mvV 28 6,ixL 29 0 27 28,ldN 30 29,mvV 31 8,ixL 32 0 30 31,ldN 33 32,mvL 34 33,mgV 35 34 false 1,mgV 36 34 false 6,⟨.l 37,some (.l 34,false), .iaddr 0 (.l 35) (.l 36)⟩,ldG 38 34 false 37,mgV 39 34 false 8,⟨.l 40,some (.l 34,false), .iaddr 0 (.l 38) (.l 39)⟩,ldG 41 34 false 40,pkT 42 34 41,ixL 43 0 25 26,stL 43 42]
def zHo:SL:= [mvV 23 8,bnI 24 .add 23 1,asL 8 8 24]
def a74l9:ACode:=(.seq (sR zCQ (cV 22 .skip (.exit 2))) (.seq (.block 3 (.region zHp)) (.region zHo)))
def zD2:SL:= [mvV 44 5,mvV 45 7,⟨.l 46,none, .bslice false (.nils) 1 [(0,(.l 45))]⟩,apL 47 0 44 46,asL 5 5 47]
def zD1:SL:= [mvV 14 6,bnI 15 .add 14 1,asL 6 6 15]
def a74l12:ACode:=(.seq (sR zHq (cV 13 .skip (.exit 0))) (.seq (.block 1 (sR zK9 (.seq (sR zK8 (bL 2 a74l9)) (.region zD2)))) (.region zD1)))
def zD0:SL:= [mvV 48 5,asL 4 5 48]
def a74:AFunc:=⟨2,[0,1,4,5,6,7,8,13,22],[.tmp 4],(sR zLc (sR zLb (.seq (sR zLa (bL 0 a74l12)) (sT zD0)))),true⟩
def zK7:SL:= [⟨.v 2,none, .asg 2 (.c .nils)⟩]
def zK6:SL:= [⟨.l 9,none, .bslice false (.nils) 0 []⟩,asL 3 3 9]
def zK5:SL:= [asI 4 4 0]
def zHn:SL:= [mvV 10 4,mvV 11 0,lnS 12 false 11,bvL 13 .lss 10 12]
def zK4:SL:= [⟨.l 16,none, .bslice true (.bool false) 0 []⟩,mvV 17 0,mvV 18 4,ixL 19 0 17 18,ldN 20 19,apL 21 0 16 20,asL 5 5 21]
def zK3:SL:= [mvV 22 5,mvV 23 4,ixL 24 0 22 23,⟨.no,none, .store none (.l 24) (.c (.bool true))⟩]
def zK2:SL:= [mvV 25 3,mvV 26 5,⟨.l 27,none, .bslice false (.nils) 1 [(0,(.l 26))]⟩,apL 28 0 25 27,asL 3 3 28]
def zK1:SL:= [mvV 14 4,bnI 15 .add 14 1,asL 4 4 15]
def a75l8:ACode:=(.seq (sR zHn (cV 13 .skip (.exit 0))) (.seq (.block 1 (sR zK4 (sR zK3 (.region zK2)))) (.region zK1)))
def zK0:SL:= [asI 6 6 0]
def zzi:SL:= [mvV 29 6,mvV 30 0,lnS 31 false 30,bvL 32 .lss 29 31]
def zDZ:SL:= [asI 7 7 0]
def zvw:SL:= [mvV 35 7,mvV 36 0,lnS 37 false 36,bvL 38 .lss 35 37]
def zzh:SL:= [mvV 41 3,mvV 42 7,ixL 43 0 41 42,ldN 44 43,mvV 45 6,ixL 46 0 44 45,ldN 47 46,⟨.v 48,none, .un .not (.l 47)⟩]
def zDY:SL:= [asI 8 8 0]
def zvv:SL:= [mvV 49 8,mvV 50 0,lnS 51 false 50,bvL 52 .lss 49 51]
def zzj:Plan:=(.seq 0 (mvV 55 3) (.seq 1 (mvV 56 7) (.seq 2 (ixL 57 0 55 56) (.seq 3 (ldN 58 57) (.seq 4 (mvV 59 8) (.seq 5 (mvV 60 3) (.seq 6 (mvV 61 7) (.seq 7 (ixL 62 0 60 61) (.seq 8 (ldN 63 62) (.seq 9 (mvV 64 8) (.seq 10 (ixL 65 0 63 64) (.seq 11 (ldN 66 65) (.seq 12 (mvL 67 66) (.seq 13 (mgV 68 67 false 3) (.seq 14 (mgV 69 67 false 6) (.seq 15 ⟨.l 70,some (.l 67,false), .iaddr 0 (.l 68) (.l 69)⟩ (.seq 16 (ldG 71 67 false 70) (.seq 17 (mgV 72 67 false 8) (.seq 18 ⟨.l 73,some (.l 67,false), .iaddr 0 (.l 71) (.l 72)⟩ (.seq 19 (ldG 74 67 false 73) (.seq 20 (pkT 75 67 74) (.seq 21 (ixL 76 0 58 59) (.one 22 (stL 76 75) .fin)))))))))))))))))))))))
def zzg:SL:= [mvV 53 8,bnI 54 .add 53 1,asL 8 8 54]
def a75l18:ACode:=(.seq (sR zvv (cV 52 .skip (.exit 6))) (.seq (.block 7 (.draw zzj)) (.region zzg)))
def zzf:SL:= [mvV 39 7,bnI 40 .add 39 1,asL 7 7 40]
def a75l20:ACode:=(.seq (sR zvw (cV 38 .skip (.exit 4))) (.seq (.block 5 (.seq (sR zzh (cV 48 (.exit 5) .skip)) (sR zDY (bL 6 a75l18)))) (.region zzf)))
def zDX:SL:= [mvV 33 6,bnI 34 .add 33 1,asL 6 6 34]
def a75l22:ACode:=(.seq (sR zzi (cV 32 .skip (.exit 2))) (.seq (.block 3 (sR zDZ (bL 4 a75l20))) (.region zDX)))
def zDW:SL:= [mvV 77 3,asL 2 3 77]
def a75:AFunc:=⟨1,[0,2,3,4,5,6,7,8,13,32,38,48,52],[.tmp 2],(sR zK7 (sR zK6 (.seq (sR zK5 (bL 0 a75l8)) (.seq (sR zK0 (bL 2 a75l22)) (sT zDW))))),true⟩
def zEv:SL:= [asI 2 2 0]
def zEu:SL:= [asI 3 3 (-1)]
def zEt:SL:= [asI 4 4 0]
def zvE:SL:= [mvV 5 4,mvV 6 0,lnS 7 false 6,bvL 8 .lss 5 7]
def zzI:SL:= [mvV 11 0,mvV 12 4,ixL 13 0 11 12,⟨.v 14,none, .load none (.l 13)⟩]
def zzH:SL:= [mvV 15 4,asL 3 3 15]
def zzG:SL:= [mvV 9 4,bnI 10 .add 9 1,asL 4 4 10]
def a155l7:ACode:=(.seq (sR zvE (cV 8 .skip (.exit 0))) (.seq (.block 1 (sR zzI (cV 14 (.region zzH) .skip))) (.region zzG)))
def zEs:SL:= [mvV 16 3,asL 2 3 16]
def a155:AFunc:=⟨1,[0,2,3,4,8,14],[.tmp 2],(sR zEv (sR zEu (.seq (sR zEt (bL 0 a155l7)) (sT zEs)))),true⟩
def zKJ:SL:= [⟨.v 4,none, .allocL [.int .i64 0, .int .u64 0, .int .u64 0, .int .u64 0, .int .u64 0, .int .i64 0, .int .i64 0, .nils]⟩]
def zKI:SL:= [⟨.l 7,none, .bslice false (.agg [.int .i64 0, .int .u64 0, .int .u64 0, .int .u64 0, .int .u64 0, .int .i64 0, .int .i64 0, .nils]) 0 []⟩,asL 5 5 7]
def zrP:SL:= [mvV 8 0,clA 9 93 8,bnI 10 .geq 9 0,mvL 11 10,mgV 12 11 true 0,⟨.l 13,some (.l 11,true), .call 93 [.pl (.l 12)]⟩,bgI 14 11 true .neq 13 124,pkF 15 11 14,mvL 16 15,mgV 17 16 true 0,⟨.l 18,some (.l 16,true), .call 93 [.pl (.l 17)]⟩,bgI 19 16 true .eql 18 41,mgL 20 16 true 19,mgV 21 20 true 1,bgI 22 20 true .gtr 21 0,pgF 23 16 true 20 22,⟨.l 24,some (.l 16,true), .un .not (.l 23)⟩,pvF 25 16 24]
def zCB:SL:= [mvV 26 0,mvV 27 1,clB 28 101 26 27,⟨.v 6,none, .allocL [.int .i64 0, .int .u64 0, .int .u64 0, .int .u64 0, .int .u64 0, .int .i64 0, .int .i64 0, .nils]⟩,stV 8 6 28]
def zCA:SL:= [mvV 29 0,ldV 30 8 6,clB 31 102 29 30,stV 8 6 31]
def zCz:SL:= [mvV 32 5,ldV 33 8 6,⟨.l 34,none, .bslice false (.agg [.int .i64 0, .int .u64 0, .int .u64 0, .int .u64 0, .int .u64 0, .int .i64 0, .int .i64 0, .nils]) 1 [(0,(.l 33))]⟩,apL 35 8 32 34,asL 5 5 35]
def a92l6:ACode:=(.seq (sR zrP (cV 25 .skip (.exit 0))) (.block 1 (sR zCB (sR zCA (.region zCz)))))
def zG6:SL:= [mvV 36 5,⟨.l 37,none, .call 3 [.pl (.c (.int .i64 4)), .pl (.l 36)]⟩,stV 8 4 37]
def a92:AFunc:=⟨2,[0,1,4,5,6,25],[.cell 4 (some 8)],(sR zKJ (sR zKI (.seq (bL 0 a92l6) (sT zG6)))),false⟩
def zCw:SL:= [asI 2 2 0]
def zCy:Plan:=(.seq 0 (mvV 3 0) (.seq 1 (nlC 4 3) (.seq 2 (fdL 5 3 4) (.seq 3 (ldN 6 5) (.seq 4 (bnI 7 .neq 6 0) (.seq 5 (mvL 8 7) (.seq 6 (mgV 9 8 false 0) (.seq 7 (nlG 10 8 false 9) (.seq 8 (fgL 11 8 false 1 10) (.seq 9 (ldG 12 8 false 11) (.seq 10 (mgV 13 8 false 0) (.seq 11 (nlG 14 8 false 13) (.seq 12 (fgL 15 8 false 0 14) (.seq 13 (ldG 16 8 false 15) (.seq 14 (lgS 17 8 false true 16) (.seq 15 (bgL 18 8 false .geq 12 17) (.seq 16 (pvT 19 8 18) .fin)))))))))))))))))
def zCv:SL:= [asI 2 2 (-1)]
def zCx:Plan:=(.seq 0 (mvV 20 0) (.seq 1 (nlC 21 20) (.seq 2 (fdL 22 0 21) (.seq 3 (ldN 23 22) (.seq 4 (mvV 24 0) (.seq 5 (nlC 25 24) (.seq 6 (fdL 26 1 25) (.seq 7 (ldN 27 26) (.seq 8 ⟨.l 28,none, .sidx (.l 23) (.l 27)⟩ (.one 9 ⟨.l 29,none, .conv .i64 (.l 28)⟩ (.seq 10 (asL 2 2 29) .fin)))))))))))
def a93:AFunc:=⟨1,[0,2,19],[.tmp 2],(sR zCw (.seq (.seq (.draw zCy) (cV 19 (sT zCv) .skip)) (.seq (.draw zCx) .ret))),true⟩
def a3r0:SL:= [⟨.v 4,none, .allocL [.int .i64 0, .int .u64 0, .int .u64 0, .int .u64 0, .int .u64 0, .int .i64 0, .int .i64 0, .nils]⟩]
def a3r1:SL:= [⟨.l 7,none, .bslice false (.agg [.int .i64 0, .int .u64 0, .int .u64 0, .int .u64 0, .int .u64 0, .int .i64 0, .int .i64 0, .nils]) 0 []⟩,asL 5 5 7]
def a3r2:SL:= [asI 6 6 0]
def zEm:SL:= [mvV 8 6,mvV 9 1,lnS 10 false 9,bvL 11 .lss 8 10]
def zIa:SL:= [mvV 14 1,mvV 15 6,ixL 16 8 14 15,fdL 17 0 16,ldN 18 17,mvV 19 0,bvL 20 .eql 18 19]
def zH9:SL:= [mvV 21 5,mvV 22 1,mvV 23 6,ixL 24 8 22 23,fdL 25 7 24,ldN 26 25,apL 27 8 21 26,asL 5 5 27]
def zH8:SL:= [mvV 28 1,mvV 29 6,ixL 30 8 28 29,fdL 31 0 30,ldN 32 31,bnI 33 .neq 32 0,mvL 34 33,mgV 35 34 false 0,bgI 36 34 false .eql 35 5,pvT 37 34 36]
def zH7:SL:= [mvV 38 5,mvV 39 1,mvV 40 6,ixL 41 8 39 40,ldL 42 8 41,⟨.l 43,none, .bslice false (.agg [.int .i64 0, .int .u64 0, .int .u64 0, .int .u64 0, .int .u64 0, .int .i64 0, .int .i64 0, .nils]) 1 [(0,(.l 42))]⟩,apL 44 8 38 43,asL 5 5 44]
def zH6:SL:= [mvV 12 6,bnI 13 .add 12 1,asL 6 6 13]
def a3l9:ACode:=(.seq (sR zEm (cV 11 .skip (.exit 0))) (.seq (.block 1 (sR zIa (cV 20 (.region zH9) (sR zH8 (cV 37 (.region zH7) .skip))))) (.region zH6)))
def zDj:SL:= [mvV 45 5,lnS 46 false 45,bvI 47 .eql 46 0]
def zDi:SL:= [⟨.l 48,none, .build [.int .i64 0, .int .u64 0, .int .u64 0, .int .u64 0, .int .u64 0, .int .i64 0, .int .i64 0, .nils] []⟩,stV 8 4 48]
def zDh:SL:= [mvV 49 5,lnS 50 false 49,bvI 51 .eql 50 1]
def zDg:SL:= [mvV 52 5,⟨.l 53,none, .iaddr 8 (.l 52) (.c (.int .i64 0))⟩,ldL 54 8 53,stV 8 4 54]
def zDf:SL:= [mvV 55 0,mvV 56 5,⟨.l 57,none, .build [.int .i64 0, .int .u64 0, .int .u64 0, .int .u64 0, .int .u64 0, .int .i64 0, .int .i64 0, .nils] [(0,1,(.l 55)),(7,1,(.l 56))]⟩,stV 8 4 57]
def a3:AFunc:=⟨2,[0,1,4,5,6,11,20,37,47,51],[.cell 4 (some 8)],(sR a3r0 (sR a3r1 (.seq (sR a3r2 (bL 0 a3l9)) (.seq (sR zDj (cV 47 (sT zDi) .skip)) (.seq (sR zDh (cV 51 (sT zDg) .skip)) (sT zDf)))))),true⟩
def zKR:SL:= [⟨.v 4,none, .allocL [.int .i64 0, .int .u64 0, .int .u64 0, .int .u64 0, .int .u64 0, .int .i64 0, .int .i64 0, .nils]⟩]
def zKQ:SL:= [⟨.v 5,none, .asg 5 (.c .nils)⟩]
def zi7:SL:= [mvV 9 0,clA 10 98 9,mvL 8 10,exT 11 0 8,exT 12 1 8,asL 6 6 11,asL 7 7 12]
def zi6:SL:= [mvV 13 7,⟨.l 14,none, .un .not (.l 13)⟩,mvL 15 14,mgV 16 15 false 6,⟨.l 17,some (.l 15,false), .bin .eql (.l 16) (.c (.int .u8 124))⟩,pkT 18 15 17,mvL 19 18,mgV 20 19 false 6,⟨.l 21,some (.l 19,false), .bin .eql (.l 20) (.c (.int .u8 41))⟩,mgL 22 19 false 21,mgV 23 22 true 1,bgI 24 22 true .gtr 23 0,pgF 25 19 false 22 24,pvT 26 19 25]
def zi5:SL:= [mvV 27 5,⟨.l 28,none, .call 89 [.pl (.c (.int .i64 4)), .pl (.l 27)]⟩,stV 8 4 28]
def zi4:SL:= [mvV 29 5,mvV 30 0,mvV 31 1,clB 32 99 30 31,⟨.l 33,none, .bslice false (.agg [.int .i64 0, .int .u64 0, .int .u64 0, .int .u64 0, .int .u64 0, .int .i64 0, .int .i64 0, .nils]) 1 [(0,(.l 32))]⟩,apL 34 8 29 33,asL 5 5 34]
def a87l6:ACode:=(.block 1 (sR zi7 (.seq (sR zi6 (cV 26 (sT zi5) .skip)) (.region zi4))))
def a87:AFunc:=⟨2,[0,1,4,5,6,7,26],[.cell 4 (some 8)],(sR zKR (sR zKQ (bL 0 a87l6))),false⟩
def zCL:SL:= [asB 4 4 false]
def zCK:SL:= [mvV 8 0,clA 9 98 8,mvL 7 9,exT 10 0 7,exT 11 1 7,asL 5 5 10,asL 6 6 11]
def zCJ:SL:= [mvV 12 6,mvL 13 12,mgV 14 13 true 5,mgV 15 13 true 1,bgL 16 13 true .eql 14 15,pkF 17 13 16,asL 6 6 17]
def zCI:SL:= [⟨.v 18,none, .asg 18 (.v 6)⟩]
def zCH:SL:= [mvV 19 0,nlC 20 19,fdL 21 1 20,ldN 22 21,bnI 23 .add 22 1,nlC 24 19,fdL 25 1 24,stL 25 23]
def zCG:SL:= [mvV 26 6,asL 4 6 26]
def a88:AFunc:=⟨2,[0,1,4,5,6,18],[.tmp 4],(sR zCL (sR zCK (.seq (sR zCJ (sR zCI (cV 18 (.region zCH) .skip))) (sT zCG)))),false⟩
def zCF:SL:= [⟨.v 4,none, .allocL [.int .i64 0, .int .u64 0, .int .u64 0, .int .u64 0, .int .u64 0, .int .i64 0, .int .i64 0, .nils]⟩]
def zCE:SL:= [mvV 8 1,⟨.v 9,none, .len false (.l 8)⟩]
def zCD:SL:= [bxI 11 .eql 9 0,asL 10 10 11]
def zCC:SL:= [⟨.l 12,none, .build [.int .i64 0, .int .u64 0, .int .u64 0, .int .u64 0, .int .u64 0, .int .i64 0, .int .i64 0, .nils] []⟩,stV 8 4 12]
def zG8:SL:= [bxI 14 .eql 9 1,asL 13 13 14]
def zG7:SL:= [mvV 15 1,⟨.l 16,none, .iaddr 8 (.l 15) (.c (.int .i64 0))⟩,ldL 17 8 16,stV 8 4 17]
def zKP:SL:= [⟨.v 5,none, .asg 5 (.c .nils)⟩]
def zKO:SL:= [⟨.v 18,none, .asg 18 (.v 1)⟩,⟨.v 19,none, .len false (.v 18)⟩,asI 20 20 0]
def zmY:SL:= [⟨.v 21,none, .bin .lss (.v 20) (.v 19)⟩]
def zn9:SL:= [⟨.l 22,none, .iaddr 8 (.v 18) (.v 20)⟩,ldL 23 8 22,⟨.v 7,none, .allocL [.int .i64 0, .int .u64 0, .int .u64 0, .int .u64 0, .int .u64 0, .int .i64 0, .int .i64 0, .nils]⟩,stV 8 7 23]
def ziN:SL:= [fdV 24 0 7,ldN 25 24,mvV 26 0,bvL 27 .eql 25 26]
def ziM:SL:= [mvV 28 5,fdV 29 7 7,ldN 30 29,apL 31 8 28 30,asL 5 5 31]
def ziL:SL:= [fdV 32 0 7,ldN 33 32,bnI 34 .neq 33 0,mvL 35 34,mgV 36 35 false 0,bgI 37 35 false .eql 36 5,pvT 38 35 37]
def ziK:SL:= [mvV 39 5,ldV 40 8 7,⟨.l 41,none, .bslice false (.agg [.int .i64 0, .int .u64 0, .int .u64 0, .int .u64 0, .int .u64 0, .int .i64 0, .int .i64 0, .nils]) 1 [(0,(.l 40))]⟩,apL 42 8 39 41,asL 5 5 42]
def ziJ:SL:= [bxI 43 .add 20 1,asL 20 20 43]
def a89l15:ACode:=(sR zmY (.seq (cV 21 .skip (.exit 1)) (.seq (.block 2 (sR zn9 (sR ziN (cV 27 (.region ziM) (sR ziL (cV 38 (.region ziK) .skip)))))) (.region ziJ))))
def zvu:SL:= [mvV 44 5,lnS 45 false 44,bvI 46 .lss 45 2]
def zvt:SL:= [mvV 47 0,mvV 48 5,clB 49 89 47 48,stV 8 4 49]
def zvs:SL:= [mvV 50 0,mvV 51 5,⟨.l 52,none, .build [.int .i64 0, .int .u64 0, .int .u64 0, .int .u64 0, .int .u64 0, .int .i64 0, .int .i64 0, .nils] [(0,1,(.l 50)),(7,1,(.l 51))]⟩,stV 8 4 52]
def a89:AFunc:=⟨2,[0,1,4,5,7,9,10,13,18,19,20,21,27,38,46],[.cell 4 (some 8)],(sR zCF (.seq (sR zCE (.block 0 (sR zCD (cV 10 (sT zCC) (sR zG8 (cV 13 (sT zG7) .skip)))))) (sR zKP (.seq (sR zKO (bL 1 a89l15)) (.seq (sR zvu (cV 46 (sT zvt) .skip)) (sT zvs)))))),true⟩
def zKZ:SL:= [bxV 1 0,asB 2 2 false]
def zKY:SL:= [ldV 3 8 1,⟨.l 4,none, .call 65 [.pl (.l 3), .pl (.c (.int .i64 (-1))), .pl (.c (.int .i64 1))]⟩,asL 2 2 4]
def a81:AFunc:=⟨1,[0,1,2],[.tmp 2],(sR zKZ (sT zKY)),true⟩
def zHm:SL:= [bxV 1 0,asI 2 2 0]
def zHl:SL:= [asI 3 3 0]
def zHk:SL:= [fdV 6 7 1,⟨.v 7,none, .load none (.l 6)⟩,⟨.v 8,none, .len false (.v 7)⟩,asI 9 9 0]
def zCP:SL:= [⟨.v 10,none, .bin .lss (.v 9) (.v 8)⟩]
def zHj:SL:= [⟨.l 11,none, .iaddr 8 (.v 7) (.v 9)⟩,ldL 12 8 11,⟨.v 5,none, .allocL [.int .i64 0, .int .u64 0, .int .u64 0, .int .u64 0, .int .u64 0, .int .i64 0, .int .i64 0, .nils]⟩,stV 8 5 12]
def zHi:SL:= [mvV 13 3,ldV 14 8 5,clA 15 82 14,bnL 16 .add 13 15,asL 3 3 16]
def zHh:SL:= [mvV 17 3,bvI 18 .gtr 17 500]
def zHg:SL:= [mvV 19 3,asL 2 3 19]
def zHf:SL:= [bxI 20 .add 9 1,asL 9 9 20]
def a82l9:ACode:=(sR zCP (.seq (cV 10 .skip (.exit 0)) (.seq (.block 1 (sR zHj (sR zHi (sR zHh (cV 18 (sT zHg) .skip))))) (.region zHf))))
def zhP:SL:= [fdV 21 0 1,⟨.v 22,none, .load none (.l 21)⟩]
def zhO:SL:= [bxI 24 .eql 22 1,asL 23 23 24]
def zhN:SL:= [bxI 25 .eql 22 2,asL 23 23 25]
def zhM:SL:= [bxI 26 .eql 22 3,asL 23 23 26]
def zhL:SL:= [asI 2 2 1]
def zhK:SL:= [bxI 28 .eql 22 5,asL 27 27 28]
def zhJ:SL:= [mvV 29 3,fdV 30 7 1,ldN 31 30,lnS 32 false 31,bnL 33 .add 29 32,bnI 34 .sub 33 1,asL 2 2 34]
def zhI:SL:= [bxI 36 .eql 22 6,asL 35 35 36]
def zhH:SL:= [fdV 37 6 1,ldN 38 37,bvI 39 .lss 38 0]
def zhG:SL:= [fdV 40 5 1,ldN 41 40,mvV 42 3,bnL 43 .mul 41 42,mvV 44 3,bnL 45 .add 43 44,bnI 46 .add 45 1,asL 2 2 46]
def zhF:SL:= [fdV 47 5 1,ldN 48 47,mvV 49 3,bnL 50 .mul 48 49,fdV 51 6 1,ldN 52 51,fdV 53 5 1,ldN 54 53,bnL 55 .sub 52 54,mvV 56 3,bnI 57 .add 56 1,bnL 58 .mul 55 57,bnL 59 .add 50 58,asL 2 2 59]
def zhE:SL:= [mvV 60 3,asL 2 3 60]
def a82:AFunc:=⟨1,[0,1,2,3,5,7,8,9,10,18,22,23,27,35,39],[.tmp 2],(sR zHm (sR zHl (.seq (sR zHk (bL 0 a82l9)) (.seq (sR zhP (.block 2 (.seq (sR zhO (.cond false (.v 23) .skip (sR zhN (.cond false (.v 23) .skip (.region zhM))))) (.cond false (.v 23) (sT zhL) (sR zhK (cV 27 (sT zhJ) (sR zhI (cV 35 (.seq (sR zhH (cV 39 (sT zhG) .skip)) (sT zhF)) .skip)))))))) (sT zhE))))),true⟩
def zuj:SL:= [bxV 4 1,asI 6 6 0]
def zui:SL:= [fdV 10 6 4,ldN 11 10,bvI 12 .lss 11 0]
def zuh:SL:= [mvV 13 0,mvV 14 2,⟨.l 15,none, .build [.int .i64 0, .int .u64 0, .int .u64 0, .int .u64 0, .int .u64 0, .int .i64 0, .int .i64 0] [(0,1,(.c (.int .i64 3))),(6,1,(.l 14))]⟩,clB 16 58 13 15,asL 7 7 16]
def zug:SL:= [mvV 17 0,fdV 18 7 4,ldN 19 18,⟨.l 20,none, .iaddr 8 (.l 19) (.c (.int .i64 0))⟩,ldL 21 8 20,mvV 22 7,clC 23 59 17 21 22,asL 8 8 23]
def zuf:SL:= [mvV 24 0,nlC 25 24,fdL 26 0 25,ldN 27 26,mvV 28 7,mvV 29 8,ixL 30 7 27 28,fdL 31 5 30,stL 31 29]
def zue:SL:= [mvV 32 7,asL 2 2 32]
def zua:SL:= [mvV 33 2,asL 9 9 33]
def zt9:SL:= [fdV 34 6 4,ldN 35 34,fdV 36 5 4,ldN 37 36,bvL 38 .sub 35 37,asI 39 39 0]
def zqb:SL:= [⟨.v 40,none, .bin .lss (.v 39) (.v 38)⟩]
def zqa:SL:= [mvV 41 0,mvV 42 0,fdV 43 7 4,ldN 44 43,⟨.l 45,none, .iaddr 8 (.l 44) (.c (.int .i64 0))⟩,ldL 46 8 45,mvV 47 2,clC 48 59 42 46 47,mvV 49 9,⟨.l 50,none, .build [.int .i64 0, .int .u64 0, .int .u64 0, .int .u64 0, .int .u64 0, .int .i64 0, .int .i64 0] [(0,1,(.c (.int .i64 3))),(5,1,(.l 48)),(6,1,(.l 49))]⟩,clB 51 58 41 50,asL 2 2 51]
def zj2:SL:= [bxI 52 .add 39 1,asL 39 39 52]
def a83l11:ACode:=(sR zqb (.seq (cV 40 .skip (.exit 0)) (.seq (.block 1 (.region zqa)) (.region zj2))))
def zm0:SL:= [fdV 53 5 4,⟨.v 54,none, .load none (.l 53)⟩,asI 55 55 0]
def zj1:SL:= [⟨.v 56,none, .bin .lss (.v 55) (.v 54)⟩]
def zj0:SL:= [mvV 57 0,fdV 58 7 4,ldN 59 58,⟨.l 60,none, .iaddr 8 (.l 59) (.c (.int .i64 0))⟩,ldL 61 8 60,mvV 62 2,clC 63 59 57 61 62,asL 2 2 63]
def zjZ:SL:= [bxI 64 .add 55 1,asL 55 55 64]
def a83l16:ACode:=(sR zj1 (.seq (cV 56 .skip (.exit 2)) (.seq (.block 3 (.region zj0)) (.region zjZ))))
def zmZ:SL:= [mvV 65 2,asL 6 2 65]
def a83:AFunc:=⟨3,[0,1,2,4,6,7,8,9,12,38,39,40,54,55,56],[.tmp 6],(sR zuj (.seq (sR zui (cV 12 (sR zuh (sR zug (sR zuf (.region zue)))) .skip)) (sR zua (.seq (sR zt9 (bL 0 a83l11)) (.seq (sR zm0 (bL 2 a83l16)) (sT zmZ)))))),false⟩
def zKL:SL:= [asB 4 4 false]
def zKK:SL:= [mvV 5 0,mvV 6 1,clB 7 100 5 6,bnI 8 .geq 7 0,asL 4 4 8]
def a91:AFunc:=⟨2,[0,1,4],[.tmp 4],(sR zKL (sT zKK)),false⟩
def zKN:SL:= [bxV 3 0,asB 4 4 false]
def zKM:SL:= [ldV 5 8 3,fdV 6 0 1,ldN 7 6,⟨.l 8,none, .load none (.v 2)⟩,bnI 9 .add 8 1,clC 10 65 5 7 9,⟨.l 11,none, .un .not (.l 10)⟩,asL 4 4 11]
def a90:AFunc:=⟨3,[0,1,2,3,4],[.tmp 4],(sR zKN (sT zKM)),true⟩
def a76r0:SL:= [⟨.v 4,none, .asg 4 (.c .nili)⟩]
def a76r1:SL:= [mvV 5 0,clA 6 79 5]
def a76r2:SL:= [mvV 7 0,mvV 8 0,nlC 9 8,fdL 10 1 9,ldN 11 10,mvV 12 1,⟨.l 13,none, .bslice false (.int .u8 0) 1 [(0,(.l 12))]⟩,⟨.l 14,none, .appB (.l 11) (.l 13)⟩,nlC 15 7,fdL 16 1 15,stL 16 14]
def a76r3:SL:= [⟨.v 4,none, .asg 4 (.c .nili)⟩]
def a76:AFunc:=⟨2,[0,1,4],[.tmp 4],(sR a76r0 (sR a76r1 (sR a76r2 (sT a76r3)))),false⟩
def zL3:SL:= [asI 6 6 0]
def zL2:SL:= [⟨.v 7,none, .allocH [.int .i64 0]⟩,⟨.no,none, .store none (.v 7) (.c (.int .i64 (-1)))⟩]
def zL1:SL:= [mvV 8 0,mvV 9 1,mvV 10 2,⟨.l 11,none, .mkfn 60 [(.v 7)]⟩,⟨.l 12,none, .call 37 [.pl (.l 8), .pl (.l 9), .pl (.l 10), .pl (.l 11)]⟩]
def zL0:SL:= [⟨.l 13,none, .load none (.v 7)⟩,asL 6 6 13]
def a35:AFunc:=⟨3,[0,1,2,6,7],[.tmp 6],(sR zL3 (sR zL2 (sR zL1 (sT zL0)))),true⟩
def zdy:SL:= [⟨.v 4,none, .allocL [.int .i64 0, .int .u64 0, .int .u64 0, .int .u64 0, .int .u64 0, .int .i64 0, .int .i64 0, .nils]⟩]
def zdz:Plan:=(.seq 0 (mvV 12 0) (.seq 1 (nlC 13 12) (.seq 2 (fdL 14 1 13) (.seq 4 (mvV 16 0) (.alt 3 (ldN 15 14) (.one 5 (clA 17 93 16) (.seq 6 (asL 5 5 15) (.seq 7 (asL 6 6 17) .fin))) (.one 5 (clA 17 93 16) (.seq 3 (ldN 15 14) (.seq 6 (asL 5 5 15) (.seq 7 (asL 6 6 17) .fin)))))))))
def zdx:SL:= [mvV 18 6,bnI 19 .eql 18 42,mvL 20 19,mgV 21 20 false 6,bgI 22 20 false .eql 21 43,pkT 23 20 22,mvL 24 23,mgV 25 24 false 6,bgI 26 24 false .eql 25 63,pkT 27 24 26,mvL 28 27,mgV 29 28 false 6,bgI 30 28 false .eql 29 123,pvT 31 28 30]
def zdw:SL:= [mvV 32 0,mvV 33 5,clI 34 107 32 33 50]
def zdv:SL:= [⟨.l 35,none, .build [.int .i64 0, .int .u64 0, .int .u64 0, .int .u64 0, .int .u64 0, .int .i64 0, .int .i64 0, .nils] []⟩,stV 8 4 35]
def zdu:SL:= [mvV 36 6,bvI 37 .eql 36 41]
def zdt:SL:= [mvV 38 0,mvV 39 5,clI 40 107 38 39 4]
def zds:SL:= [⟨.l 41,none, .build [.int .i64 0, .int .u64 0, .int .u64 0, .int .u64 0, .int .u64 0, .int .i64 0, .int .i64 0, .nils] []⟩,stV 8 4 41]
def zdR:SL:= [mvV 42 6,bvI 43 .eql 42 91]
def zdQ:SL:= [mvV 45 0,nlC 46 45,fdL 47 0 46,ldN 48 47,mvV 49 5,clB 50 108 48 49,mvL 44 50,exT 51 0 44,exT 52 1 44,exT 53 2 44,⟨.v 7,none, .allocL [.int .u64 0, .int .u64 0, .int .u64 0, .int .u64 0]⟩,stV 4 7 51,asL 8 8 52,asL 9 9 53]
def zcF:SL:= [mvV 54 9,bvI 55 .neq 54 0]
def zcE:SL:= [mvV 56 0,mvV 57 5,mvV 58 9,clC 59 107 56 57 58]
def zcD:SL:= [mvV 60 0,mvV 61 8,nlC 62 60,fdL 63 1 62,stL 63 61]
def zcC:SL:= [ldV 64 4 7,⟨.l 65,none, .build [.int .i64 0, .int .u64 0, .int .u64 0, .int .u64 0, .int .u64 0, .int .i64 0, .int .i64 0, .nils] [(0,1,(.c (.int .i64 1))),(1,4,(.l 64))]⟩,stV 8 4 65]
def zcB:SL:= [mvV 66 0,nlC 67 66,fdL 68 1 67,ldN 69 68,bnI 70 .add 69 1,nlC 71 66,fdL 72 1 71,stL 72 70]
def zcA:SL:= [mvV 73 6,bvI 74 .eql 73 40]
def zcz:SL:= [mvV 75 1,bvI 76 .geq 75 20]
def zcy:SL:= [mvV 77 0,mvV 78 5,clI 79 107 77 78 2]
def zcx:SL:= [⟨.l 80,none, .build [.int .i64 0, .int .u64 0, .int .u64 0, .int .u64 0, .int .u64 0, .int .i64 0, .int .i64 0, .nils] []⟩,stV 8 4 80]
def zcw:SL:= [mvV 81 0,mvV 82 1,bnI 83 .add 82 1,clB 84 69 81 83,⟨.v 10,none, .allocL [.int .i64 0, .int .u64 0, .int .u64 0, .int .u64 0, .int .u64 0, .int .i64 0, .int .i64 0, .nils]⟩,stV 8 10 84]
def zcv:SL:= [mvV 85 0,clA 86 93 85,bvI 87 .neq 86 41]
def zcu:SL:= [mvV 88 0,mvV 89 0,nlC 90 89,fdL 91 1 90,ldN 92 91,clI 93 107 88 92 3]
def zct:SL:= [mvV 94 0,nlC 95 94,fdL 96 1 95,ldN 97 96,bnI 98 .add 97 1,nlC 99 94,fdL 100 1 99,stL 100 98]
def zcs:SL:= [ldV 101 8 10,stV 8 4 101]
def zcr:SL:= [mvV 102 6,bvI 103 .eql 102 92]
def zcq:SL:= [mvV 104 0,clA 105 93 104,asL 11 11 105]
def zcp:SL:= [mvV 106 11,bvI 107 .lss 106 0]
def zco:SL:= [mvV 108 0,mvV 109 0,nlC 110 109,fdL 111 1 110,ldN 112 111,clI 113 107 108 112 3]
def zcn:SL:= [⟨.l 114,none, .build [.int .i64 0, .int .u64 0, .int .u64 0, .int .u64 0, .int .u64 0, .int .i64 0, .int .i64 0, .nils] []⟩,stV 8 4 114]
def zcm:SL:= [mvV 115 0,nlC 116 115,fdL 117 1 116,ldN 118 117,bnI 119 .add 118 1,nlC 120 115,fdL 121 1 120,stL 121 119]
def zcl:SL:= [mvV 122 11,bvI 123 .eql 122 110]
def zck:SL:= [asI 11 11 10]
def zcj:SL:= [mvV 124 11,bvI 125 .eql 124 116]
def zci:SL:= [asI 11 11 9]
def zch:SL:= [mvV 126 11,clA 127 109 126,stV 8 4 127]
def zcg:SL:= [mvV 128 6,bvI 129 .eql 128 46]
def zcf:SL:= [⟨.l 130,none, .call 110 []⟩,⟨.l 131,none, .build [.int .i64 0, .int .u64 0, .int .u64 0, .int .u64 0, .int .u64 0, .int .i64 0, .int .i64 0, .nils] [(0,1,(.c (.int .i64 1))),(1,4,(.l 130))]⟩,stV 8 4 131]
def zce:SL:= [mvV 132 6,bvI 133 .eql 132 94]
def zcd:SL:= [⟨.l 134,none, .build [.int .i64 0, .int .u64 0, .int .u64 0, .int .u64 0, .int .u64 0, .int .i64 0, .int .i64 0, .nils] [(0,1,(.c (.int .i64 2)))]⟩,stV 8 4 134]
def zcc:SL:= [mvV 135 6,bvI 136 .eql 135 36]
def zcb:SL:= [⟨.l 137,none, .build [.int .i64 0, .int .u64 0, .int .u64 0, .int .u64 0, .int .u64 0, .int .i64 0, .int .i64 0, .nils] [(0,1,(.c (.int .i64 3)))]⟩,stV 8 4 137]
def zca:SL:= [mvV 138 6,clA 139 109 138,stV 8 4 139]
def a101:AFunc:=⟨2,[0,1,4,5,6,7,8,9,10,11,31,37,43,55,74,76,87,103,107,123,125,129,133,136],[.cell 4 (some 8)],(sR zdy (.seq (.draw zdz) (.seq (sR zdx (cV 31 (sR zdw (sT zdv)) .skip)) (.seq (sR zdu (cV 37 (sR zdt (sT zds)) .skip)) (.seq (sR zdR (cV 43 (sR zdQ (.seq (sR zcF (cV 55 (.region zcE) .skip)) (sR zcD (sT zcC)))) .skip)) (sR zcB (.seq (sR zcA (cV 74 (.seq (sR zcz (cV 76 (sR zcy (sT zcx)) .skip)) (sR zcw (.seq (sR zcv (cV 87 (.region zcu) .skip)) (sR zct (sT zcs))))) .skip)) (.seq (sR zcr (cV 103 (sR zcq (.seq (sR zcp (cV 107 (sR zco (sT zcn)) .skip)) (sR zcm (.seq (sR zcl (cV 123 (.region zck) .skip)) (.seq (sR zcj (cV 125 (.region zci) .skip)) (sT zch)))))) .skip)) (.seq (sR zcg (cV 129 (sT zcf) .skip)) (.seq (sR zce (cV 133 (sT zcd) .skip)) (.seq (sR zcc (cV 136 (sT zcb) .skip)) (sT zca)))))))))))),false⟩
def zAU:SL:= [bxV 3 1,⟨.v 4,none, .allocL [.int .i64 0, .int .u64 0, .int .u64 0, .int .u64 0, .int .u64 0, .int .i64 0, .int .i64 0, .nils]⟩]
def zgg:SL:= [mvV 8 0,nlC 9 8,fdL 10 1 9,ldN 11 10,asL 5 5 11,asI 6 6 0,asI 7 7 (-1)]
def zgf:SL:= [mvV 12 0,⟨.v 13,none, .call 93 [.pl (.l 12)]⟩]
def zge:SL:= [bxI 16 .eql 13 42,asL 15 15 16]
def zgd:SL:= [mvV 17 0,nlC 18 17,fdL 19 1 18,ldN 20 19,bnI 21 .add 20 1,nlC 22 17,fdL 23 1 22,stL 23 21]
def zgc:SL:= [bxI 25 .eql 13 43,asL 24 24 25]
def zgb:SL:= [mvV 26 0,nlC 27 26,fdL 28 1 27,ldN 29 28,bnI 30 .add 29 1,nlC 31 26,fdL 32 1 31,stL 32 30]
def zga:SL:= [asI 6 6 1]
def zf9:SL:= [bxI 34 .eql 13 63,asL 33 33 34]
def zf8:SL:= [mvV 35 0,nlC 36 35,fdL 37 1 36,ldN 38 37,bnI 39 .add 38 1,nlC 40 35,fdL 41 1 40,stL 41 39]
def zer:SL:= [asI 7 7 1]
def zeq:SL:= [bxI 43 .eql 13 123,asL 42 42 43]
def zep:SL:= [mvV 44 0,nlC 45 44,fdL 46 1 45,ldN 47 46,bnI 48 .add 47 1,nlC 49 44,fdL 50 1 49,stL 50 48]
def zeo:SL:= [mvV 51 0,clA 52 111 51,asL 6 6 52]
def zen:SL:= [mvV 53 6,asL 7 7 53]
def zem:SL:= [mvV 54 6,bnI 55 .geq 54 0,mvL 56 55,mgV 57 56 true 0,⟨.l 58,some (.l 56,true), .call 93 [.pl (.l 57)]⟩,bgI 59 56 true .eql 58 44,pvF 60 56 59]
def zel:SL:= [mvV 61 0,nlC 62 61,fdL 63 1 62,ldN 64 63,bnI 65 .add 64 1,nlC 66 61,fdL 67 1 66,stL 67 65]
def zek:SL:= [mvV 68 0,clA 69 93 68,bvI 70 .eql 69 125]
def zej:SL:= [asI 7 7 (-1)]
def zei:SL:= [mvV 71 0,clA 72 111 71,asL 7 7 72]
def zeh:SL:= [mvV 73 7,mvV 74 6,bvL 75 .lss 73 74]
def zeg:SL:= [asI 6 6 (-1)]
def zef:SL:= [mvV 76 6,bnI 77 .lss 76 0,mvL 78 77,mgV 79 78 false 0,⟨.l 80,some (.l 78,false), .call 93 [.pl (.l 79)]⟩,bgI 81 78 false .neq 80 125,pvT 82 78 81]
def zee:SL:= [mvV 83 0,mvV 84 5,clI 85 107 83 84 50]
def zed:SL:= [ldV 86 8 3,stV 8 4 86]
def zec:SL:= [mvV 87 0,nlC 88 87,fdL 89 1 88,ldN 90 89,bnI 91 .add 90 1,nlC 92 87,fdL 93 1 92,stL 93 91]
def zeb:SL:= [ldV 14 8 3,stV 8 4 14]
def zea:SL:= [mvV 94 6,mvV 95 7,ldV 96 8 3,⟨.l 97,none, .bslice false (.agg [.int .i64 0, .int .u64 0, .int .u64 0, .int .u64 0, .int .u64 0, .int .i64 0, .int .i64 0, .nils]) 1 [(0,(.l 96))]⟩,⟨.l 98,none, .build [.int .i64 0, .int .u64 0, .int .u64 0, .int .u64 0, .int .u64 0, .int .i64 0, .int .i64 0, .nils] [(0,1,(.c (.int .i64 6))),(5,1,(.l 94)),(6,1,(.l 95)),(7,1,(.l 97))]⟩,stV 8 3 98]
def a102l28:ACode:=(.block 1 (sR zgg (.seq (sR zgf (.block 2 (sR zge (cV 15 (.region zgd) (sR zgc (cV 24 (sR zgb (.region zga)) (sR zf9 (cV 33 (sR zf8 (.region zer)) (sR zeq (cV 42 (sR zep (sR zeo (sR zen (.seq (sR zem (cV 60 (sR zel (sR zek (cV 70 (.region zej) (sR zei (sR zeh (cV 75 (.region zeg) .skip)))))) .skip)) (.seq (sR zef (cV 82 (sR zee (sT zed)) .skip)) (.region zec)))))) (sT zeb))))))))))) (.region zea))))
def a102:AFunc:=⟨2,[0,1,3,4,5,6,7,13,15,24,33,42,60,70,75,82],[.cell 4 (some 8)],(sR zAU (bL 0 a102l28)),false⟩
def zG1:SL:= [⟨.v 2,none, .asg 2 (.c (.int .u8 0))⟩,asB 3 3 false]
def zG3:Plan:=(.seq 0 (mvV 4 0) (.seq 1 (nlC 5 4) (.seq 2 (fdL 6 1 5) (.seq 3 (ldN 7 6) (.seq 4 (mvV 8 0) (.seq 5 (nlC 9 8) (.seq 6 (fdL 10 0 9) (.seq 7 (ldN 11 10) (.seq 8 (lnS 12 true 11) (.seq 9 (bvL 13 .eql 7 12) .fin))))))))))
def zG0:SL:= [⟨.v 2,none, .asg 2 (.c (.int .u8 0))⟩,asB 3 3 false]
def zG2:Plan:=(.seq 0 (mvV 14 0) (.seq 1 (nlC 15 14) (.seq 2 (fdL 16 0 15) (.seq 3 (ldN 17 16) (.seq 4 (mvV 18 0) (.seq 5 (nlC 19 18) (.seq 6 (fdL 20 1 19) (.seq 7 (ldN 21 20) (.seq 8 ⟨.l 22,none, .sidx (.l 17) (.l 21)⟩ (.seq 9 (asL 2 2 22) (.seq 10 (asB 3 3 true) .fin)))))))))))
def a98:AFunc:=⟨1,[0,2,3,13],[.tmp 2, .tmp 3],(sR zG1 (.seq (.seq (.draw zG3) (cV 13 (sT zG0) .skip)) (.seq (.draw zG2) .ret))),true⟩
def zGZ:SL:= [⟨.v 4,none, .allocL [.int .i64 0, .int .u64 0, .int .u64 0, .int .u64 0, .int .u64 0, .int .i64 0, .int .i64 0, .nils]⟩]
def zGY:SL:= [mvV 9 0,mvV 10 1,clB 11 105 9 10,⟨.v 5,none, .allocL [.int .i64 0, .int .u64 0, .int .u64 0, .int .u64 0, .int .u64 0, .int .i64 0, .int .i64 0, .nils]⟩,stV 8 5 11]
def zt8:SL:= [mvV 12 0,nlC 13 12,fdL 14 1 13,ldN 15 14,asL 6 6 15]
def zt7:SL:= [asI 7 7 0,asI 8 8 (-1)]
def zt6:SL:= [mvV 18 0,⟨.l 19,none, .call 88 [.pl (.l 18), .pl (.c (.int .u8 42))]⟩,asL 17 17 19]
def zt5:SL:= [mvV 21 0,⟨.l 22,none, .call 88 [.pl (.l 21), .pl (.c (.int .u8 43))]⟩,asL 20 20 22]
def zt4:SL:= [asI 7 7 1]
def zt3:SL:= [mvV 24 0,⟨.l 25,none, .call 88 [.pl (.l 24), .pl (.c (.int .u8 63))]⟩,asL 23 23 25]
def zt2:SL:= [asI 8 8 1]
def zt1:SL:= [mvV 27 0,⟨.l 28,none, .call 88 [.pl (.l 27), .pl (.c (.int .u8 123))]⟩,asL 26 26 28]
def zmX:SL:= [mvV 30 0,mvV 31 6,clB 32 106 30 31,mvL 29 32,exT 33 0 29,exT 34 1 29,asL 7 7 33,asL 8 8 34]
def zmW:SL:= [ldV 16 8 5,stV 8 4 16]
def zmV:SL:= [mvV 35 7,mvV 36 8,ldV 37 8 5,⟨.l 38,none, .bslice false (.agg [.int .i64 0, .int .u64 0, .int .u64 0, .int .u64 0, .int .u64 0, .int .i64 0, .int .i64 0, .nils]) 1 [(0,(.l 37))]⟩,⟨.l 39,none, .build [.int .i64 0, .int .u64 0, .int .u64 0, .int .u64 0, .int .u64 0, .int .i64 0, .int .i64 0, .nils] [(0,1,(.c (.int .i64 6))),(5,1,(.l 35)),(6,1,(.l 36)),(7,1,(.l 38))]⟩,stV 8 5 39]
def a99l13:ACode:=(.block 1 (sR zt8 (sR zt7 (.seq (.block 2 (sR zt6 (cV 17 .skip (sR zt5 (cV 20 (.region zt4) (sR zt3 (cV 23 (.region zt2) (sR zt1 (cV 26 (.region zmX) (sT zmW)))))))))) (.region zmV)))))
def a99:AFunc:=⟨2,[0,1,4,5,6,7,8,17,20,23,26],[.cell 4 (some 8)],(sR zGZ (sR zGY (bL 0 a99l13))),false⟩
def zFm:SL:= [asI 4 4 0]
def zFl:SL:= [mvV 6 0,⟨.v 7,none, .len false (.l 6)⟩,asI 8 8 0]
def zvX:SL:= [⟨.v 9,none, .bin .lss (.v 8) (.v 7)⟩]
def zAY:SL:= [mvV 10 8,asL 5 5 10]
def zAX:SL:= [mvV 11 1,mvV 12 0,mvV 13 5,ixL 14 8 12 13,ldL 15 8 14,⟨.v 16,none, .callv (.l 11) [.pl (.l 15)]⟩]
def zAW:SL:= [mvV 17 5,asL 4 5 17]
def zAV:SL:= [bxI 18 .add 8 1,asL 8 8 18]
def a100l7:ACode:=(sR zvX (.seq (cV 9 .skip (.exit 0)) (.seq (.block 1 (sR zAY (sR zAX (cV 16 (sT zAW) .skip)))) (.region zAV))))
def zFk:SL:= [asI 4 4 (-1)]
def a100:AFunc:=⟨2,[0,1,4,5,7,8,9,16],[.tmp 4],(sR zFm (.seq (sR zFl (bL 0 a100l7)) (sT zFk))),false⟩
def zHV:SL:= [mvV 14 2,bnI 15 .lss 14 0,mvL 16 15,mgV 17 16 false 2,mgV 18 16 false 1,lgS 19 16 false true 18,bgL 20 16 false .gtr 17 19,pvT 21 16 20]
def zHU:SL:= [mvV 22 0,mvV 23 1,mvV 24 0,nlC 25 24,fdL 26 0 25,ldN 27 26,lnS 28 false 27,⟨.l 29,none, .mslice true (.int .i64 0) (.l 28) (.l 28)⟩,⟨.l 30,none, .build [.nilp, .str [], .nils, .int .i64 0] [(0,1,(.l 22)),(1,1,(.l 23)),(2,1,(.l 29)),(3,1,(.c (.int .i64 1)))]⟩,⟨.l 31,none, .boxH (.l 30)⟩,asL 8 8 31]
def zHT:SL:= [mvV 32 8,mvV 33 0,nlC 34 33,fdL 35 1 34,ldN 36 35,mvV 37 2,⟨.l 38,none, .call 61 [.pl (.l 32), .pl (.c .nils), .pl (.l 36), .pl (.l 37)]⟩,asL 9 9 38]
def zHS:SL:= [mvV 39 9,lnS 40 false 39,bvI 41 .gtr 40 0]
def zLZ:SL:= [⟨.v 10,none, .asg 10 (.c .nils)⟩]
def zLY:SL:= [mvV 44 8,nlC 45 44,fdL 46 3 45,ldN 47 46,bnI 48 .add 47 1,nlC 49 44,fdL 50 3 49,stL 50 48]
def zLX:SL:= [⟨.v 51,none, .asg 51 (.v 9)⟩,⟨.v 52,none, .len false (.v 51)⟩,asI 53 53 0]
def zod:SL:= [⟨.v 54,none, .bin .lss (.v 53) (.v 52)⟩]
def zqi:SL:= [⟨.l 55,none, .iaddr 0 (.v 51) (.v 53)⟩,ldN 56 55,asL 12 12 56]
def zqh:SL:= [mvV 57 0,nlC 58 57,fdL 59 0 58,ldN 60 59,mvV 61 12,ixL 62 7 60 61,ldL 63 7 62,⟨.v 13,none, .allocL [.int .i64 0, .int .u64 0, .int .u64 0, .int .u64 0, .int .u64 0, .int .i64 0, .int .i64 0]⟩,stV 7 13 63]
def zkb:SL:= [fdV 65 0 13,ldN 66 65,bnI 67 .eql 66 4,asL 64 64 67]
def zka:SL:= [mvV 68 3,mvV 69 2,⟨.l 70,none, .callv (.l 68) [.pl (.l 69)]⟩]
def zkc:Plan:=(.seq 0 (mvV 72 2) (.seq 1 (mvV 73 1) (.seq 2 (lnS 74 true 73) (.seq 3 (bnL 75 .lss 72 74) (.seq 4 (mvL 76 75) (.seq 5 (fdG 77 76 true 1 13) (.seq 6 ⟨.l 78,some (.l 76,true), .load (some 4) (.l 77)⟩ (.seq 7 (mgV 79 76 true 1) (.seq 8 (mgV 80 76 true 2) (.seq 9 ⟨.l 81,some (.l 76,true), .sidx (.l 79) (.l 80)⟩ (.one 10 ⟨.l 82,some (.l 76,true), .call 62 [.pl (.l 78), .pl (.l 81)]⟩ (.seq 11 (pkF 83 76 82) (.seq 12 (asL 71 71 83) .fin)))))))))))))
def zj9:SL:= [mvV 84 8,mvV 85 10,fdV 86 5 13,ldN 87 86,mvV 88 2,bnI 89 .add 88 1,⟨.l 90,none, .call 61 [.pl (.l 84), .tk (.l 85), .pl (.l 87), .pl (.l 89)]⟩,asL 10 10 90]
def zj8:SL:= [bxI 91 .add 53 1,asL 53 53 91]
def a37l15:ACode:=(sR zod (.seq (cV 54 .skip (.exit 2)) (.seq (.block 3 (sR zqi (sR zqh (.block 4 (sR zkb (cV 64 (.region zka) (.seq (.draw zkc) (cV 71 (.region zj9) .skip)))))))) (.region zj8))))
def zzE:SL:= [mvV 92 10,asL 9 9 92]
def zzD:SL:= [mvV 42 2,bnI 43 .add 42 1,asL 2 2 43]
def a37l18:ACode:=(.seq (sR zHS (cV 41 .skip (.exit 0))) (.seq (.block 1 (sR zLZ (sR zLY (.seq (sR zLX (bL 2 a37l15)) (.region zzE))))) (.region zzD)))
def a37:AFunc:=⟨4,[0,1,2,3,8,9,10,12,13,21,41,51,52,53,54,64,71],[],(.seq (sR zHV (cV 21 .ret .skip)) (sR zHU (sR zHT (bL 0 a37l18)))),false⟩
def zLC:SL:= [mvV 3 0,⟨.no,none, .store none (.v 1) (.l 3)⟩]
def a60:AFunc:=⟨2,[0,1],[],(.region zLC),false⟩
def zAN:SL:= [mvV 6 0,nlC 7 6,fdL 8 3 7,ldN 9 8,bvI 10 .eql 9 0]
def zAM:SL:= [mvV 11 0,mvV 12 0,mvV 13 1,mvV 14 2,nlC 15 11,fdL 16 2 15,stL 16 13,nlC 17 12,fdL 18 3 17,stL 18 14]
def a107:AFunc:=⟨3,[0,1,2,10],[],(sR zAN (cV 10 (.region zAM) .skip)),false⟩
def zAL:SL:= [⟨.v 4,none, .allocL [.int .u64 0, .int .u64 0, .int .u64 0, .int .u64 0]⟩,asI 5 5 0,asI 6 6 0]
def zAK:SL:= [mvV 19 1,bnI 20 .lss 19 0,mvL 21 20,mgV 22 21 false 1,mgV 23 21 false 0,lgS 24 21 false true 23,bgL 25 21 false .geq 22 24,pkT 26 21 25,mvL 27 26,mgV 28 27 false 0,mgV 29 27 false 1,⟨.l 30,some (.l 27,false), .sidx (.l 28) (.l 29)⟩,⟨.l 31,some (.l 27,false), .bin .neq (.l 30) (.c (.int .u8 91))⟩,pvT 32 27 31]
def zAH:SL:= [⟨.l 33,none, .build [.int .u64 0, .int .u64 0, .int .u64 0, .int .u64 0] []⟩,stV 4 4 33,asI 5 5 0,asI 6 6 1]
def zAE:SL:= [mvV 34 1,bnI 35 .add 34 1,asL 1 1 35]
def zAC:SL:= [mvV 36 0,mvV 37 1,clB 38 119 36 37,bnI 39 .eql 38 94,asL 7 7 39]
def zAB:SL:= [⟨.v 40,none, .asg 40 (.v 7)⟩]
def zAA:SL:= [mvV 41 1,bnI 42 .add 41 1,asL 1 1 42]
def zAz:SL:= [⟨.l 43,none, .build (List.replicate 256 (.bool false)) []⟩,⟨.v 8,none, .allocL (List.replicate 256 (.bool false))⟩,stV 256 8 43]
def zAy:SL:= [asB 9 9 true]
def zsz:SL:= [mvV 44 9,mvL 45 44,mgV 46 45 false 0,mgV 47 45 false 1,⟨.l 48,some (.l 45,false), .call 119 [.pl (.l 46), .pl (.l 47)]⟩,bgI 49 45 false .neq 48 93,pvT 50 45 49]
def znS:SL:= [mvV 51 0,mvV 52 1,clB 53 119 51 52,bnI 54 .eql 53 91,mvL 55 54,mgV 56 55 true 0,mgV 57 55 true 1,bgI 58 55 true .add 57 1,⟨.l 59,some (.l 55,true), .call 119 [.pl (.l 56), .pl (.l 58)]⟩,bgI 60 55 true .eql 59 58,pvF 61 55 60]
def zAJ:SL:= [mvV 62 1,bnI 63 .add 62 2,asL 10 10 63]
def znR:SL:= [mvV 64 10,mvV 65 0,lnS 66 true 65,bnL 67 .lss 64 66,mvL 68 67,mgV 69 68 true 0,mgV 70 68 true 10,⟨.l 71,some (.l 68,true), .call 119 [.pl (.l 69), .pl (.l 70)]⟩,bgI 72 68 true .eql 71 58,mgL 73 68 true 72,mgV 74 73 true 0,mgV 75 73 true 10,bgI 76 73 true .add 75 1,⟨.l 77,some (.l 73,true), .call 119 [.pl (.l 74), .pl (.l 76)]⟩,bgI 78 73 true .eql 77 93,pgF 79 68 true 73 78,⟨.l 80,some (.l 68,true), .un .not (.l 79)⟩,pvF 81 68 80]
def znQ:SL:= [mvV 82 10,bnI 83 .add 82 1,asL 10 10 83]
def a108l14:ACode:=(.seq (sR znR (cV 81 .skip (.exit 2))) (.block 3 (.region znQ)))
def zuC:SL:= [mvV 84 10,mvV 85 0,lnS 86 true 85,bvL 87 .geq 84 86]
def zuB:SL:= [⟨.l 88,none, .build [.int .u64 0, .int .u64 0, .int .u64 0, .int .u64 0] []⟩,stV 4 4 88,asI 5 5 0,asI 6 6 3]
def zAI:SL:= [asI 11 11 0]
def znP:SL:= [mvV 89 11,bvI 90 .lss 89 256]
def znO:SL:= [mvV 94 0,mvV 95 1,bnI 96 .add 95 2,mvV 97 10,⟨.l 98,none, .slice none (.l 94) (some (.l 96)) (some (.l 97))⟩,mvV 99 11,clB 100 120 98 99,mvL 93 100,exT 101 0 93,exT 102 1 93,asL 12 12 101,asL 13 13 102]
def znN:SL:= [mvV 103 13,⟨.v 104,none, .un .not (.l 103)⟩]
def znM:SL:= [⟨.l 105,none, .build [.int .u64 0, .int .u64 0, .int .u64 0, .int .u64 0] []⟩,stV 4 4 105,asI 5 5 0,asI 6 6 40]
def znL:SL:= [mvV 106 11,mvV 107 11,axV 108 256 0 8 107,ldN 109 108,mvL 110 109,mgV 111 110 false 12,pkT 112 110 111,axV 113 256 0 8 106,stL 113 112]
def znK:SL:= [mvV 91 11,bnI 92 .add 91 1,asL 11 11 92]
def a108l24:ACode:=(.seq (sR znP (cV 90 .skip (.exit 4))) (.seq (.block 5 (sR znO (.seq (sR znN (cV 104 (sT znM) .skip)) (.region znL)))) (.region znK)))
def zAG:SL:= [mvV 114 10,bnI 115 .add 114 2,asL 1 1 115]
def zuA:SL:= [mvV 117 0,mvV 118 1,clB 119 121 117 118,mvL 116 119,exT 120 0 116,exT 121 1 116,asL 14 14 120,asL 15 15 121]
def zuz:SL:= [mvV 122 14,bvI 123 .lss 122 0]
def zuy:SL:= [⟨.l 124,none, .build [.int .u64 0, .int .u64 0, .int .u64 0, .int .u64 0] []⟩,stV 4 4 124,asI 5 5 0,asI 6 6 3]
def zAF:SL:= [mvV 125 14,asL 16 16 125]
def zjk:SL:= [mvV 126 0,mvV 127 15,clB 128 119 126 127,bnI 129 .eql 128 45,mvL 130 129,mgV 131 130 true 0,mgV 132 130 true 15,bgI 133 130 true .add 132 1,⟨.l 134,some (.l 130,true), .call 119 [.pl (.l 131), .pl (.l 133)]⟩,bgI 135 130 true .neq 134 93,pkF 136 130 135,mvL 137 136,mgV 138 137 true 0,mgV 139 137 true 15,bgI 140 137 true .add 139 1,⟨.l 141,some (.l 137,true), .call 119 [.pl (.l 138), .pl (.l 140)]⟩,bgI 142 137 true .eql 141 91,mgL 143 137 true 142,mgV 144 143 true 0,mgV 145 143 true 15,bgI 146 143 true .add 145 2,⟨.l 147,some (.l 143,true), .call 119 [.pl (.l 144), .pl (.l 146)]⟩,bgI 148 143 true .eql 147 58,pgF 149 137 true 143 148,⟨.l 150,some (.l 137,true), .un .not (.l 149)⟩,pvF 151 137 150]
def zqv:SL:= [mvV 153 0,mvV 154 15,bnI 155 .add 154 1,clB 156 121 153 155,mvL 152 156,exT 157 0 152,exT 158 1 152,asL 16 16 157,asL 15 15 158]
def zqu:SL:= [mvV 159 16,bvI 160 .lss 159 0]
def zqt:SL:= [⟨.l 161,none, .build [.int .u64 0, .int .u64 0, .int .u64 0, .int .u64 0] []⟩,stV 4 4 161,asI 5 5 0,asI 6 6 3]
def zux:SL:= [mvV 162 16,mvV 163 14,bvL 164 .lss 162 163]
def zAD:SL:= [⟨.l 165,none, .build [.int .u64 0, .int .u64 0, .int .u64 0, .int .u64 0] []⟩,stV 4 4 165,asI 5 5 0,asI 6 6 4]
def zuw:SL:= [mvV 166 14,asL 17 17 166]
def zuv:SL:= [mvV 167 17,mvV 168 16,bvL 169 .leq 167 168]
def zuu:SL:= [mvV 172 17,axV 173 256 0 8 172,⟨.no,none, .store none (.l 173) (.c (.bool true))⟩]
def zut:SL:= [mvV 170 17,bnI 171 .add 170 1,asL 17 17 171]
def a108l40:ACode:=(.seq (sR zuv (cV 169 .skip (.exit 6))) (.seq (.block 7 (.region zuu)) (.region zut)))
def zus:SL:= [mvV 174 15,asL 1 1 174]
def zqs:SL:= [asB 9 9 false]
def a108l43:ACode:=(.seq (sR zsz (cV 50 .skip (.exit 0))) (.seq (.block 1 (.seq (sR znS (cV 61 (sR zAJ (.seq (bL 2 a108l14) (.seq (sR zuC (cV 87 (sT zuB) .skip)) (.seq (sR zAI (bL 4 a108l24)) (sR zAG (.exit 1)))))) .skip)) (sR zuA (.seq (sR zuz (cV 123 (sT zuy) .skip)) (sR zAF (.seq (sR zjk (cV 151 (sR zqv (.seq (sR zqu (cV 160 (sT zqt) .skip)) (sR zux (cV 164 (sT zAD) .skip)))) .skip)) (.seq (sR zuw (bL 6 a108l40)) (.region zus)))))))) (.region zqs)))
def zqr:SL:= [⟨.v 175,none, .asg 175 (.v 7)⟩]
def zqq:SL:= [asI 18 18 0]
def zur:SL:= [mvV 176 18,bvI 177 .lss 176 256]
def zuq:SL:= [mvV 180 18,mvV 181 18,axV 182 256 0 8 181,ldN 183 182,⟨.l 184,none, .un .not (.l 183)⟩,axV 185 256 0 8 180,stL 185 184]
def zup:SL:= [mvV 178 18,bnI 179 .add 178 1,asL 18 18 179]
def a108l49:ACode:=(.seq (sR zur (cV 177 .skip (.exit 8))) (.seq (.block 9 (.region zuq)) (.region zup)))
def zqp:SL:= [ldV 186 256 8,clA 187 122 186,mvV 188 1,bnI 189 .add 188 1,stV 4 4 187,asL 5 5 189,asI 6 6 0]
def a108:AFunc:=⟨2,[0,1,4,5,6,7,8,9,10,11,12,13,14,15,16,17,18,32,40,50,61,81,87,90,104,123,151,160,164,169,175,177],[.cell 4 (some 4), .tmp 5, .tmp 6],(sR zAL (.seq (sR zAK (cV 32 (sT zAH) .skip)) (sR zAE (sR zAC (.seq (sR zAB (cV 40 (.region zAA) .skip)) (sR zAz (.seq (sR zAy (bL 0 a108l43)) (.seq (sR zqr (cV 175 (sR zqq (bL 8 a108l49)) .skip)) (sT zqp))))))))),true⟩
def zFj:SL:= [⟨.v 2,none, .allocL [.int .i64 0, .int .u64 0, .int .u64 0, .int .u64 0, .int .u64 0, .int .i64 0, .int .i64 0, .nils]⟩]
def zFi:SL:= [⟨.l 4,none, .build (List.replicate 256 (.bool false)) []⟩,⟨.v 3,none, .allocL (List.replicate 256 (.bool false))⟩,stV 256 3 4]
def zFh:SL:= [mvV 5 0,axV 6 256 0 3 5,⟨.no,none, .store none (.l 6) (.c (.bool true))⟩]
def zFg:SL:= [ldV 7 256 3,clA 8 122 7,⟨.l 9,none, .build [.int .i64 0, .int .u64 0, .int .u64 0, .int .u64 0, .int .u64 0, .int .i64 0, .int .i64 0, .nils] [(0,1,(.c (.int .i64 1))),(1,4,(.l 8))]⟩,stV 8 2 9]
def a109:AFunc:=⟨1,[0,2,3],[.cell 2 (some 8)],(sR zFj (sR zFi (sR zFh (sT zFg)))),true⟩
def zFf:SL:= [⟨.v 0,none, .allocL [.int .u64 0, .int .u64 0, .int .u64 0, .int .u64 0]⟩]
def zFe:SL:= [⟨.l 1,none, .build [.int .u64 0, .int .u64 0, .int .u64 0, .int .u64 0] [(0,1,(.c (.int .u64 18446744073709551615))),(1,1,(.c (.int .u64 18446744073709551615))),(2,1,(.c (.int .u64 18446744073709551615))),(3,1,(.c (.int .u64 18446744073709551615)))]⟩,stV 4 0 1]
def a110:AFunc:=⟨0,[0],[.cell 0 (some 4)],(sR zFf (sT zFe)),true⟩
def zFd:SL:= [asI 2 2 0]
def zFc:SL:= [asI 3 3 0,asI 4 4 0]
def zkE:SL:= [mvV 5 4,bnI 6 .lss 5 2,mvL 7 6,mgV 8 7 true 0,⟨.l 9,some (.l 7,true), .call 93 [.pl (.l 8)]⟩,bgI 10 7 true .geq 9 48,pkF 11 7 10,mvL 12 11,mgV 13 12 true 0,⟨.l 14,some (.l 12,true), .call 93 [.pl (.l 13)]⟩,bgI 15 12 true .leq 14 57,pvF 16 12 15]
def zAt:SL:= [mvV 17 3,bnI 18 .mul 17 10,mvV 19 0,clA 20 93 19,bnL 21 .add 18 20,bnI 22 .sub 21 48,mvV 23 4,bnI 24 .add 23 1,asL 3 3 22,asL 4 4 24]
def zAs:SL:= [mvV 25 0,nlC 26 25,fdL 27 1 26,ldN 28 27,bnI 29 .add 28 1,nlC 30 25,fdL 31 1 30,stL 31 29]
def a111l5:ACode:=(.seq (sR zkE (cV 16 .skip (.exit 0))) (.block 1 (sR zAt (.region zAs))))
def znJ:SL:= [mvV 32 4,bnI 33 .eql 32 0,mvL 34 33,mgV 35 34 false 3,bgI 36 34 false .gtr 35 50,pvT 37 34 36]
def znI:SL:= [asI 2 2 (-1)]
def znH:SL:= [mvV 38 3,asL 2 3 38]
def a111:AFunc:=⟨1,[0,2,3,4,16,37],[.tmp 2],(sR zFd (sR zFc (.seq (bL 0 a111l5) (.seq (sR znJ (cV 37 (sT znI) .skip)) (sT znH))))),false⟩
def zd2:SL:= [⟨.v 4,none, .allocL [.int .i64 0, .int .u64 0, .int .u64 0, .int .u64 0, .int .u64 0, .int .i64 0, .int .i64 0, .nils]⟩]
def zd1:SL:= [mvV 12 0,nlC 13 12,fdL 14 1 13,ldN 15 14,asL 5 5 15]
def zd0:SL:= [mvV 17 0,clA 18 98 17,mvL 16 18,exT 19 0 16,exT 20 1 16,asL 6 6 19,asL 7 7 20]
def zdZ:SL:= [⟨.v 21,none, .asg 21 (.v 6)⟩]
def zdY:SL:= [bxU 23 .eql 21 42,asL 22 22 23]
def zdX:SL:= [bxU 24 .eql 21 43,asL 22 22 24]
def zdW:SL:= [bxU 25 .eql 21 63,asL 22 22 25]
def zdV:SL:= [bxU 26 .eql 21 123,asL 22 22 26]
def zhg:SL:= [mvV 27 0,mvV 28 5,clI 29 113 27 28 50]
def zfz:SL:= [bxU 31 .eql 21 41,asL 30 30 31]
def zh9:SL:= [mvV 32 0,mvV 33 5,clI 34 113 32 33 4]
def zd9:SL:= [bxU 36 .eql 21 91,asL 35 35 36]
def zjo:SL:= [mvV 38 0,nlC 39 38,fdL 40 0 39,ldN 41 40,mvV 42 5,clB 43 114 41 42,mvL 37 43,exT 44 0 37,exT 45 1 37,exT 46 2 37,⟨.v 8,none, .allocL [.int .u64 0, .int .u64 0, .int .u64 0, .int .u64 0]⟩,stV 4 8 44,asL 9 9 45,asL 10 10 46]
def zjn:SL:= [mvV 47 10,bvI 48 .neq 47 0]
def zjm:SL:= [mvV 49 0,mvV 50 5,mvV 51 10,clC 52 113 49 50 51]
def zlr:SL:= [mvV 53 0,mvV 54 9,nlC 55 53,fdL 56 1 55,stL 56 54]
def zlq:SL:= [ldV 57 4 8,⟨.l 58,none, .build [.int .i64 0, .int .u64 0, .int .u64 0, .int .u64 0, .int .u64 0, .int .i64 0, .int .i64 0, .nils] [(0,1,(.c (.int .i64 1))),(1,4,(.l 57))]⟩,stV 8 4 58]
def zfh:SL:= [mvV 59 0,nlC 60 59,fdL 61 1 60,ldN 62 61,bnI 63 .add 62 1,nlC 64 59,fdL 65 1 64,stL 65 63]
def zfg:SL:= [⟨.v 66,none, .asg 66 (.v 6)⟩]
def zff:SL:= [bxU 68 .eql 66 40,asL 67 67 68]
def znW:SL:= [mvV 69 1,bvI 70 .geq 69 20]
def znV:SL:= [mvV 71 0,mvV 72 5,clI 73 113 71 72 2]
def zqy:SL:= [mvV 74 0,mvV 75 1,bnI 76 .add 75 1,clB 77 86 74 76,⟨.v 11,none, .allocL [.int .i64 0, .int .u64 0, .int .u64 0, .int .u64 0, .int .u64 0, .int .i64 0, .int .i64 0, .nils]⟩,stV 8 11 77]
def zuG:SL:= [mvV 78 0,⟨.l 79,none, .call 88 [.pl (.l 78), .pl (.c (.int .u8 41))]⟩,⟨.v 80,none, .un .not (.l 79)⟩]
def zuF:SL:= [mvV 81 0,mvV 82 0,nlC 83 82,fdL 84 1 83,ldN 85 84,clI 86 113 81 85 3]
def zuE:SL:= [ldV 87 8 11,stV 8 4 87]
def zjl:SL:= [bxU 89 .eql 66 46,asL 88 88 89]
def zlp:SL:= [⟨.l 90,none, .build [.int .u64 0, .int .u64 0, .int .u64 0, .int .u64 0] []⟩,clA 91 115 90,⟨.l 92,none, .build [.int .i64 0, .int .u64 0, .int .u64 0, .int .u64 0, .int .u64 0, .int .i64 0, .int .i64 0, .nils] [(0,1,(.c (.int .i64 1))),(1,4,(.l 91))]⟩,stV 8 4 92]
def zlo:SL:= [bxU 94 .eql 66 94,asL 93 93 94]
def znU:SL:= [⟨.l 95,none, .build [.int .i64 0, .int .u64 0, .int .u64 0, .int .u64 0, .int .u64 0, .int .i64 0, .int .i64 0, .nils] [(0,1,(.c (.int .i64 2)))]⟩,stV 8 4 95]
def znT:SL:= [bxU 97 .eql 66 36,asL 96 96 97]
def zqx:SL:= [⟨.l 98,none, .build [.int .i64 0, .int .u64 0, .int .u64 0, .int .u64 0, .int .u64 0, .int .i64 0, .int .i64 0, .nils] [(0,1,(.c (.int .i64 3)))]⟩,stV 8 4 98]
def zqw:SL:= [bxU 100 .eql 66 92,asL 99 99 100]
def zuD:SL:= [mvV 101 0,clA 102 116 101,clA 103 117 102,stV 8 4 103]
def zAO:SL:= [mvV 104 6,clA 105 117 104,stV 8 4 105]
def a105:AFunc:=⟨2,[0,1,4,5,6,7,8,9,10,11,21,22,30,35,48,66,67,70,80,88,93,96,99],[.cell 4 (some 8)],(sR zd2 (sR zd1 (sR zd0 (.seq (sR zdZ (.block 0 (.seq (sR zdY (.cond false (.v 22) .skip (sR zdX (.cond false (.v 22) .skip (sR zdW (.cond false (.v 22) .skip (.region zdV))))))) (.cond false (.v 22) (.region zhg) (sR zfz (cV 30 (.region zh9) (sR zd9 (cV 35 (sR zjo (.seq (sR zjn (cV 48 (.region zjm) .skip)) (sR zlr (sT zlq)))) .skip)))))))) (sR zfh (.seq (sR zfg (.block 1 (sR zff (cV 67 (.seq (sR znW (cV 70 (.region znV) .skip)) (sR zqy (.seq (sR zuG (cV 80 (.region zuF) .skip)) (sT zuE)))) (sR zjl (cV 88 (sT zlp) (sR zlo (cV 93 (sT znU) (sR znT (cV 96 (sT zqx) (sR zqw (cV 99 (sT zuD) .skip)))))))))))) (sT zAO))))))),false⟩
def zkO:SL:= [asI 4 4 0,asI 5 5 0]
def zkN:SL:= [mvV 10 0,clA 11 118 10,mvL 9 11,exT 12 0 9,exT 13 1 9,asL 6 6 12,asL 7 7 13]
def zkM:SL:= [mvV 14 6,asL 8 8 14]
def zkL:SL:= [mvV 15 7,mvL 16 15,mgV 17 16 true 0,⟨.l 18,some (.l 16,true), .call 88 [.pl (.l 17), .pl (.c (.int .u8 44))]⟩,pvF 19 16 18]
def zkK:SL:= [mvV 20 0,⟨.v 21,none, .call 88 [.pl (.l 20), .pl (.c (.int .u8 125))]⟩]
def zkJ:SL:= [mvV 22 6,asL 4 6 22,asI 5 5 (-1)]
def zkI:SL:= [mvV 24 0,clA 25 118 24,mvL 23 25,exT 26 0 23,exT 27 1 23,asL 8 8 26,asL 7 7 27]
def zkH:SL:= [mvV 28 7,⟨.l 29,none, .un .not (.l 28)⟩,mvL 30 29,mgV 31 30 false 8,mgV 32 30 false 6,bgL 33 30 false .lss 31 32,pkT 34 30 33,mvL 35 34,mgV 36 35 false 0,⟨.l 37,some (.l 35,false), .call 88 [.pl (.l 36), .pl (.c (.int .u8 125))]⟩,⟨.l 38,some (.l 35,false), .un .not (.l 37)⟩,pvT 39 35 38]
def zkG:SL:= [mvV 40 0,mvV 41 1,clI 42 113 40 41 50]
def zkF:SL:= [mvV 43 6,mvV 44 8,asL 4 6 43,asL 5 8 44]
def a106:AFunc:=⟨2,[0,1,4,5,6,7,8,19,21,39],[.tmp 4, .tmp 5],(sR zkO (sR zkN (sR zkM (.seq (sR zkL (cV 19 (.seq (sR zkK (cV 21 (sT zkJ) .skip)) (.region zkI)) .skip)) (.seq (sR zkH (cV 39 (.region zkG) .skip)) (sT zkF)))))),false⟩
def znc:SL:= [⟨.v 8,none, .asg 8 (.c .nils)⟩]
def znb:SL:= [mvV 11 2,⟨.l 12,none, .bslice true (.int .i64 0) 1 [(0,(.l 11))]⟩,asL 9 9 12]
def zna:SL:= [mvV 13 9,lnS 14 false 13,bvI 15 .gtr 14 0]
def zob:SL:= [mvV 16 9,mvV 17 9,lnS 18 false 17,bnI 19 .sub 18 1,ixL 20 0 16 19,ldN 21 20,asL 2 2 21]
def zoa:SL:= [mvV 22 9,mvV 23 9,lnS 24 false 23,bnI 25 .sub 24 1,⟨.l 26,none, .slice (some 0) (.l 22) none (some (.l 25))⟩,asL 9 9 26]
def zoc:Plan:=(.seq 0 (mvV 27 0) (.seq 1 (nlC 28 27) (.seq 2 (fdL 29 2 28) (.seq 3 (ldN 30 29) (.seq 4 (mvV 31 2) (.seq 5 (ixL 32 0 30 31) (.seq 6 (ldN 33 32) (.seq 7 (mvV 34 0) (.seq 8 (nlC 35 34) (.seq 9 (fdL 36 3 35) (.seq 10 (ldN 37 36) (.seq 11 (bvL 38 .eql 33 37) .fin))))))))))))
def zqg:Plan:=(.seq 0 (mvV 39 0) (.seq 1 (nlC 40 39) (.seq 2 (fdL 41 2 40) (.seq 3 (ldN 42 41) (.seq 4 (mvV 43 2) (.seq 5 (mvV 44 0) (.seq 6 (nlC 45 44) (.seq 7 (fdL 46 3 45) (.seq 8 (ldN 47 46) (.seq 9 (ixL 48 0 42 43) (.one 10 (stL 48 47) .fin)))))))))))
def zqf:SL:= [mvV 49 0,nlC 50 49,fdL 51 0 50,ldN 52 51,nlC 53 52,fdL 54 0 53,ldN 55 54,mvV 56 2,ixL 57 7 55 56,ldL 58 7 57,⟨.v 10,none, .allocL [.int .i64 0, .int .u64 0, .int .u64 0, .int .u64 0, .int .u64 0, .int .i64 0, .int .i64 0]⟩,stV 7 10 58]
def zqe:SL:= [fdV 60 0 10,ldN 61 60,bnI 62 .eql 61 3,asL 59 59 62]
def zqd:SL:= [mvV 63 9,fdV 64 6 10,ldN 65 64,fdV 66 5 10,ldN 67 66,⟨.l 68,none, .bslice false (.int .i64 0) 2 [(0,(.l 65)),(1,(.l 67))]⟩,apL 69 0 63 68,asL 9 9 69]
def zj7:SL:= [fdV 71 0 10,ldN 72 71,bnI 73 .eql 72 1,mvL 74 73,mgV 75 74 true 3,bgI 76 74 true .eql 75 0,pkF 77 74 76,asL 70 70 77]
def zj6:SL:= [fdV 78 0 10,ldN 79 78,bnI 80 .eql 79 2,mvL 81 80,mgV 82 81 true 3,mgV 83 81 true 0,nlG 84 81 true 83,fgL 85 81 true 1 84,ldG 86 81 true 85,lgS 87 81 true true 86,bgL 88 81 true .eql 82 87,pkF 89 81 88,asL 70 70 89]
def zj5:SL:= [mvV 90 9,fdV 91 5 10,ldN 92 91,⟨.l 93,none, .bslice false (.int .i64 0) 1 [(0,(.l 92))]⟩,apL 94 0 90 93,asL 9 9 94]
def zj4:SL:= [fdV 96 0 10,ldN 97 96,bnI 98 .eql 97 0,mvL 99 98,fdG 100 99 false 0 10,ldG 101 99 false 100,bgI 102 99 false .eql 101 4,pkT 103 99 102,asL 95 95 103]
def zj3:SL:= [mvV 104 1,mvV 105 2,⟨.l 106,none, .bslice false (.int .i64 0) 1 [(0,(.l 105))]⟩,apL 107 0 104 106,asL 1 1 107]
def a61l15:ACode:=(.seq (sR zna (cV 15 .skip (.exit 0))) (.block 1 (sR zob (sR zoa (.seq (.seq (.draw zoc) (cV 38 (.exit 1) .skip)) (.seq (.draw zqg) (sR zqf (.block 2 (sR zqe (cV 59 (.region zqd) (.seq (sR zj7 (.cond false (.v 70) .skip (.region zj6))) (.cond false (.v 70) (.region zj5) (sR zj4 (cV 95 (.region zj3) .skip))))))))))))))
def zf4:SL:= [mvV 108 1,asL 8 1 108]
def a61:AFunc:=⟨4,[0,1,2,3,8,9,10,15,38,59,70,95],[.tmp 8],(sR znc (sR znb (.seq (bL 0 a61l15) (sT zf4)))),false⟩
def zLB:SL:= [bxV 2 0,asB 4 4 false]
def zLA:SL:= [ldV 5 4 2,mvV 6 1,clB 7 84 5 6,asL 4 4 7]
def a62:AFunc:=⟨2,[0,1,2,4],[.tmp 4],(sR zLB (sT zLA)),true⟩
def zAi:SL:= [asI 4 4 0]
def zAh:SL:= [mvV 5 1,mvV 6 0,lnS 7 true 6,bvL 8 .lss 5 7]
def zAg:SL:= [mvV 9 0,mvV 10 1,⟨.l 11,none, .sidx (.l 9) (.l 10)⟩,⟨.l 12,none, .conv .i64 (.l 11)⟩,asL 4 4 12]
def zAf:SL:= [asI 4 4 (-1)]
def a119:AFunc:=⟨2,[0,1,4,8],[.tmp 4],(sR zAi (.seq (sR zAh (cV 8 (sT zAg) .skip)) (sT zAf))),true⟩
def zkD:SL:= [asB 4 4 false,asB 5 5 false]
def zkC:SL:= [mvV 9 1,bnI 10 .geq 9 65,mvL 11 10,mgV 12 11 true 1,bgI 13 11 true .leq 12 90,pkF 14 11 13,mvV 15 1,bnI 16 .geq 15 97,mvL 17 16,mgV 18 17 true 1,bgI 19 17 true .leq 18 122,pkF 20 17 19,mvV 21 1,bnI 22 .geq 21 48,mvL 23 22,mgV 24 23 true 1,bgI 25 23 true .leq 24 57,pkF 26 23 25,asL 6 6 14,asL 7 7 20,asL 8 8 26]
def zkB:SL:= [⟨.v 27,none, .asg 27 (.v 0)⟩]
def zkA:SL:= [⟨.l 29,none, .bin .eql (.v 27) (.c (.str [97,108,112,104,97]))⟩,asL 28 28 29]
def zkz:SL:= [mvV 30 6,mvL 31 30,mgV 32 31 false 7,pkT 33 31 32,asL 4 4 33,asB 5 5 true]
def zky:SL:= [⟨.l 35,none, .bin .eql (.v 27) (.c (.str [100,105,103,105,116]))⟩,asL 34 34 35]
def zkx:SL:= [mvV 36 8,asL 4 8 36,asB 5 5 true]
def zkw:SL:= [⟨.l 38,none, .bin .eql (.v 27) (.c (.str [97,108,110,117,109]))⟩,asL 37 37 38]
def zkv:SL:= [mvV 39 6,mvL 40 39,mgV 41 40 false 7,pkT 42 40 41,mvL 43 42,mgV 44 43 false 8,pkT 45 43 44,asL 4 4 45,asB 5 5 true]
def zku:SL:= [⟨.l 47,none, .bin .eql (.v 27) (.c (.str [117,112,112,101,114]))⟩,asL 46 46 47]
def zgW:SL:= [mvV 48 6,asL 4 6 48,asB 5 5 true]
def zgV:SL:= [⟨.l 50,none, .bin .eql (.v 27) (.c (.str [108,111,119,101,114]))⟩,asL 49 49 50]
def zgU:SL:= [mvV 51 7,asL 4 7 51,asB 5 5 true]
def zgT:SL:= [⟨.l 53,none, .bin .eql (.v 27) (.c (.str [115,112,97,99,101]))⟩,asL 52 52 53]
def zgS:SL:= [mvV 54 1,bnI 55 .eql 54 32,mvL 56 55,mgV 57 56 false 1,bgI 58 56 false .geq 57 9,mgL 59 56 false 58,mgV 60 59 true 1,bgI 61 59 true .leq 60 13,pgF 62 56 false 59 61,pkT 63 56 62,asL 4 4 63,asB 5 5 true]
def zgR:SL:= [⟨.l 65,none, .bin .eql (.v 27) (.c (.str [98,108,97,110,107]))⟩,asL 64 64 65]
def zgQ:SL:= [mvV 66 1,bnI 67 .eql 66 32,mvL 68 67,mgV 69 68 false 1,bgI 70 68 false .eql 69 9,pkT 71 68 70,asL 4 4 71,asB 5 5 true]
def zgP:SL:= [⟨.l 73,none, .bin .eql (.v 27) (.c (.str [112,117,110,99,116]))⟩,asL 72 72 73]
def zgO:SL:= [mvV 74 1,bnI 75 .gtr 74 32,mvL 76 75,mgV 77 76 true 1,bgI 78 76 true .lss 77 127,pkF 79 76 78,mvL 80 79,mgV 81 80 true 6,⟨.l 82,some (.l 80,true), .un .not (.l 81)⟩,pkF 83 80 82,mvL 84 83,mgV 85 84 true 7,⟨.l 86,some (.l 84,true), .un .not (.l 85)⟩,pkF 87 84 86,mvL 88 87,mgV 89 88 true 8,⟨.l 90,some (.l 88,true), .un .not (.l 89)⟩,pkF 91 88 90,asL 4 4 91,asB 5 5 true]
def zgN:SL:= [⟨.l 93,none, .bin .eql (.v 27) (.c (.str [112,114,105,110,116]))⟩,asL 92 92 93]
def zgM:SL:= [mvV 94 1,bnI 95 .geq 94 32,mvL 96 95,mgV 97 96 true 1,bgI 98 96 true .lss 97 127,pkF 99 96 98,asL 4 4 99,asB 5 5 true]
def zgL:SL:= [⟨.l 101,none, .bin .eql (.v 27) (.c (.str [103,114,97,112,104]))⟩,asL 100 100 101]
def zgK:SL:= [mvV 102 1,bnI 103 .gtr 102 32,mvL 104 103,mgV 105 104 true 1,bgI 106 104 true .lss 105 127,pkF 107 104 106,asL 4 4 107,asB 5 5 true]
def zgJ:SL:= [⟨.l 109,none, .bin .eql (.v 27) (.c (.str [99,110,116,114,108]))⟩,asL 108 108 109]
def zgI:SL:= [mvV 110 1,bnI 111 .lss 110 32,mvL 112 111,mgV 113 112 false 1,bgI 114 112 false .eql 113 127,pkT 115 112 114,asL 4 4 115,asB 5 5 true]
def zgH:SL:= [⟨.l 117,none, .bin .eql (.v 27) (.c (.str [120,100,105,103,105,116]))⟩,asL 116 116 117]
def zgG:SL:= [mvV 118 8,mvL 119 118,mgV 120 119 false 1,bgI 121 119 false .geq 120 65,mgL 122 119 false 121,mgV 123 122 true 1,bgI 124 122 true .leq 123 70,pgF 125 119 false 122 124,pkT 126 119 125,mvL 127 126,mgV 128 127 false 1,bgI 129 127 false .geq 128 97,mgL 130 127 false 129,mgV 131 130 true 1,bgI 132 130 true .leq 131 102,pgF 133 127 false 130 132,pkT 134 127 133,asL 4 4 134,asB 5 5 true]
def zgF:SL:= [asB 4 4 false,asB 5 5 false]
def a120:AFunc:=⟨2,[0,1,4,5,6,7,8,27,28,34,37,46,49,52,64,72,92,100,108,116],[.tmp 4, .tmp 5],(sR zkD (sR zkC (.seq (sR zkB (.block 0 (sR zkA (cV 28 (sT zkz) (sR zky (cV 34 (sT zkx) (sR zkw (cV 37 (sT zkv) (sR zku (cV 46 (sT zgW) (sR zgV (cV 49 (sT zgU) (sR zgT (cV 52 (sT zgS) (sR zgR (cV 64 (sT zgQ) (sR zgP (cV 72 (sT zgO) (sR zgN (cV 92 (sT zgM) (sR zgL (cV 100 (sT zgK) (sR zgJ (cV 108 (sT zgI) (sR zgH (cV 116 (sT zgG) .skip)))))))))))))))))))))))))) (sT zgF)))),true⟩
def zso:SL:= [asI 4 4 0,asI 5 5 0]
def zsn:SL:= [mvV 7 0,mvV 8 1,clB 9 119 7 8,bvI 10 .neq 9 92]
def zsm:SL:= [mvV 11 0,mvV 12 1,clB 13 119 11 12,mvV 14 1,bnI 15 .add 14 1,asL 4 4 13,asL 5 5 15]
def zsl:SL:= [mvV 16 0,mvV 17 1,bnI 18 .add 17 1,clB 19 119 16 18,asL 6 6 19]
def zsk:SL:= [mvV 20 6,bvI 21 .eql 20 110]
def zsj:SL:= [asI 6 6 10]
def zsi:SL:= [mvV 22 6,bvI 23 .eql 22 116]
def zsh:SL:= [asI 6 6 9]
def zsg:SL:= [mvV 24 6,mvV 25 1,bnI 26 .add 25 2,asL 4 6 24,asL 5 5 26]
def a121:AFunc:=⟨2,[0,1,4,5,6,10,21,23],[.tmp 4, .tmp 5],(sR zso (.seq (sR zsn (cV 10 (sT zsm) .skip)) (sR zsl (.seq (sR zsk (cV 21 (.region zsj) .skip)) (.seq (sR zsi (cV 23 (.region zsh) .skip)) (sT zsg)))))),true⟩
def zE4:SL:= [bxV 1 0,⟨.v 2,none, .allocL [.int .u64 0, .int .u64 0, .int .u64 0, .int .u64 0]⟩]
def zE3:SL:= [⟨.l 5,none, .build [.int .u64 0, .int .u64 0, .int .u64 0, .int .u64 0] []⟩,⟨.v 3,none, .allocL [.int .u64 0, .int .u64 0, .int .u64 0, .int .u64 0]⟩,stV 4 3 5]
def zE2:SL:= [asI 4 4 255]
def zvW:SL:= [mvV 6 4,bvI 7 .geq 6 0]
def zAe:SL:= [mvV 10 4,bnI 11 .quo 10 64,mvV 12 4,bnI 13 .quo 12 64,axV 14 4 0 3 13,ldN 15 14,⟨.l 16,none, .bin .mul (.l 15) (.c (.int .u64 2))⟩,axV 17 4 0 3 11,stL 17 16]
def zAd:SL:= [mvV 18 4,axV 19 256 0 1 18,⟨.v 20,none, .load none (.l 19)⟩]
def zAc:SL:= [mvV 21 4,bnI 22 .quo 21 64,axV 23 4 0 3 22,ldN 24 23,⟨.l 25,none, .bin .add (.l 24) (.c (.int .u64 1))⟩,axV 26 4 0 3 22,stL 26 25]
def zAb:SL:= [mvV 8 4,bnI 9 .sub 8 1,asL 4 4 9]
def a122l8:ACode:=(.seq (sR zvW (cV 7 .skip (.exit 0))) (.seq (.block 1 (sR zAe (sR zAd (cV 20 (.region zAc) .skip)))) (.region zAb)))
def zE1:SL:= [ldV 27 4 3,stV 4 2 27]
def a122:AFunc:=⟨1,[0,1,2,3,4,7,20],[.cell 2 (some 4)],(sR zE4 (sR zE3 (.seq (sR zE2 (bL 0 a122l8)) (sT zE1)))),true⟩
def zFb:SL:= [mvV 6 1,mvV 7 2,⟨.l 8,none, .build [.int .i64 0, .int .i64 0] [(0,1,(.l 6)),(1,1,(.l 7))]⟩,⟨.l 9,none, .mkifc 1 (.l 8)⟩,⟨.no,none, .panic (.l 9)⟩]
def a113:AFunc:=⟨3,[0,1,2],[],(.region zFb),true⟩
def zAr:SL:= [⟨.v 4,none, .allocL [.int .u64 0, .int .u64 0, .int .u64 0, .int .u64 0]⟩,asI 5 5 0,asI 6 6 0]
def zAq:SL:= [mvV 13 1,bnI 14 .lss 13 0,mvL 15 14,mgV 16 15 false 1,mgV 17 15 false 0,lgS 18 15 false true 17,bgL 19 15 false .geq 16 18,pkT 20 15 19,mvL 21 20,mgV 22 21 false 0,mgV 23 21 false 1,⟨.l 24,some (.l 21,false), .sidx (.l 22) (.l 23)⟩,⟨.l 25,some (.l 21,false), .bin .neq (.l 24) (.c (.int .u8 91))⟩,pvT 26 21 25]
def zAp:SL:= [⟨.l 27,none, .build [.int .u64 0, .int .u64 0, .int .u64 0, .int .u64 0] []⟩,stV 4 4 27,asI 5 5 0,asI 6 6 1]
def zAo:SL:= [mvV 28 0,mvV 29 1,bnI 30 .add 29 1,⟨.l 31,none, .build [.str [], .int .i64 0] [(0,1,(.l 28)),(1,1,(.l 30))]⟩,⟨.l 32,none, .boxH (.l 31)⟩,asL 7 7 32]
def zAn:SL:= [mvV 33 7,⟨.l 34,none, .call 124 [.pl (.l 33), .pl (.c (.str [94]))]⟩,asL 8 8 34]
def zAm:SL:= [⟨.v 35,none, .asg 35 (.v 8)⟩]
def zAl:SL:= [mvV 36 7,nlC 37 36,fdL 38 1 37,ldN 39 38,bnI 40 .add 39 1,nlC 41 36,fdL 42 1 41,stL 42 40]
def zAk:SL:= [⟨.v 9,none, .allocL [.int .u64 0, .int .u64 0, .int .u64 0, .int .u64 0]⟩]
def zAj:SL:= [asB 10 10 true]
def zpl:SL:= [mvV 43 10,mvL 44 43,mgV 45 44 false 7,⟨.l 46,some (.l 44,false), .call 124 [.pl (.l 45), .pl (.c (.str [93]))]⟩,⟨.l 47,some (.l 44,false), .un .not (.l 46)⟩,pvT 48 44 47]
def znG:SL:= [mvV 50 7,clA 51 125 50,mvL 49 51,exT 52 0 49,exT 53 1 49,⟨.v 11,none, .allocL [.int .u64 0, .int .u64 0, .int .u64 0, .int .u64 0]⟩,stV 4 11 52,asL 12 12 53]
def znF:SL:= [mvV 54 12,bvI 55 .neq 54 0]
def znE:SL:= [⟨.l 56,none, .build [.int .u64 0, .int .u64 0, .int .u64 0, .int .u64 0] []⟩,mvV 57 12,stV 4 4 56,asI 5 5 0,asL 6 12 57]
def znD:SL:= [ldV 58 4 9,ldV 59 4 11,clB 60 126 58 59,stV 4 9 60]
def znC:SL:= [asB 10 10 false]
def a114l15:ACode:=(.seq (sR zpl (cV 48 .skip (.exit 0))) (.seq (.block 1 (sR znG (.seq (sR znF (cV 55 (sT znE) .skip)) (.region znD)))) (.region znC)))
def zun:SL:= [⟨.v 61,none, .asg 61 (.v 8)⟩]
def zum:SL:= [ldV 62 4 9,clA 63 127 62,stV 4 9 63]
def zuo:Plan:=(.seq 0 (ldV 64 4 9) (.seq 1 (mvV 65 7) (.seq 2 (nlC 66 65) (.seq 3 (fdL 67 1 66) (.alt 4 (ldN 68 67) (.seq 5 (bnI 69 .add 68 1) (.one 6 (stV 4 4 64) (.seq 7 (asL 5 5 69) (.seq 8 (asI 6 6 0) .fin)))) (.one 6 (stV 4 4 64) (.seq 4 (ldN 68 67) (.seq 5 (bnI 69 .add 68 1) (.seq 7 (asL 5 5 69) (.seq 8 (asI 6 6 0) .fin))))))))))
def a114:AFunc:=⟨2,[0,1,4,5,6,7,8,9,10,11,12,26,35,48,55,61],[.cell 4 (some 4), .tmp 5, .tmp 6],(sR zAr (.seq (sR zAq (cV 26 (sT zAp) .skip)) (sR zAo (sR zAn (.seq (sR zAm (cV 35 (.region zAl) .skip)) (sR zAk (.seq (sR zAj (bL 0 a114l15)) (.seq (sR zun (cV 61 (.region zum) .skip)) (.seq (.draw zuo) .ret))))))))),true⟩
def zFa:SL:= [bxV 1 0,⟨.v 2,none, .allocL [.int .u64 0, .int .u64 0, .int .u64 0, .int .u64 0]⟩]
def zE9:SL:= [ldV 3 4 1,clA 4 127 3,stV 4 2 4]
def a115:AFunc:=⟨1,[0,1,2],[.cell 2 (some 4)],(sR zFa (sT zE9)),true⟩
def zE8:SL:= [⟨.v 2,none, .allocL [.int .i64 0, .int .u64 0, .int .u64 0, .int .u64 0, .int .u64 0, .int .i64 0, .int .i64 0, .nils]⟩]
def zE7:SL:= [⟨.l 3,none, .build [.int .u64 0, .int .u64 0, .int .u64 0, .int .u64 0] []⟩,mvV 4 0,mvV 5 0,clC 6 128 3 4 5,⟨.l 7,none, .build [.int .i64 0, .int .u64 0, .int .u64 0, .int .u64 0, .int .u64 0, .int .i64 0, .int .i64 0, .nils] [(0,1,(.c (.int .i64 1))),(1,4,(.l 6))]⟩,stV 8 2 7]
def a117:AFunc:=⟨1,[0,2],[.cell 2 (some 8)],(sR zE8 (sT zE7)),true⟩
def zsy:SL:= [⟨.v 2,none, .asg 2 (.c (.int .u8 0))⟩]
def zsx:SL:= [mvV 6 0,clA 7 98 6,mvL 5 7,exT 8 0 5,exT 9 1 5,asL 3 3 8,asL 4 4 9]
def zsw:SL:= [mvV 10 4,⟨.v 11,none, .un .not (.l 10)⟩]
def zsv:SL:= [mvV 12 0,mvV 13 0,nlC 14 13,fdL 15 1 14,ldN 16 15,clI 17 113 12 16 3]
def zsu:SL:= [mvV 18 0,nlC 19 18,fdL 20 1 19,ldN 21 20,bnI 22 .add 21 1,nlC 23 18,fdL 24 1 23,stL 24 22]
def zst:SL:= [⟨.v 25,none, .asg 25 (.v 3)⟩]
def zss:SL:= [bxU 27 .eql 25 110,asL 26 26 27]
def zsr:SL:= [⟨.v 2,none, .asg 2 (.c (.int .u8 10))⟩]
def zsq:SL:= [bxU 29 .eql 25 116,asL 28 28 29]
def zsp:SL:= [⟨.v 2,none, .asg 2 (.c (.int .u8 9))⟩]
def znB:SL:= [mvV 30 3,asL 2 3 30]
def a116:AFunc:=⟨1,[0,2,3,4,11,25,26,28],[.tmp 2],(sR zsy (sR zsx (.seq (sR zsw (cV 11 (.region zsv) .skip)) (sR zsu (.seq (sR zst (.block 0 (sR zss (cV 26 (sT zsr) (sR zsq (cV 28 (sT zsp) .skip)))))) (sT znB)))))),false⟩
def zE6:SL:= [asI 2 2 0,asB 3 3 false]
def zE5:SL:= [asI 4 4 0,asI 5 5 0]
def zf7:SL:= [mvV 8 5,bvI 9 .lss 8 2]
def zhf:SL:= [mvV 11 0,clA 12 98 11,mvL 10 12,exT 13 0 10,exT 14 1 10,asL 6 6 13,asL 7 7 14]
def zhe:SL:= [mvV 15 7,⟨.l 16,none, .un .not (.l 15)⟩,mvL 17 16,mgV 18 17 false 6,⟨.l 19,some (.l 17,false), .bin .lss (.l 18) (.c (.int .u8 48))⟩,pkT 20 17 19,mvL 21 20,mgV 22 21 false 6,⟨.l 23,some (.l 21,false), .bin .gtr (.l 22) (.c (.int .u8 57))⟩,pvT 24 21 23]
def zhd:SL:= [mvV 25 4,⟨.l 26,none, .bin .mul (.c (.int .i64 10)) (.l 25)⟩,mvV 27 6,⟨.l 28,none, .bin .sub (.l 27) (.c (.int .u8 48))⟩,⟨.l 29,none, .conv .i64 (.l 28)⟩,bnL 30 .add 26 29,asL 4 4 30]
def zhc:SL:= [mvV 31 0,nlC 32 31,fdL 33 1 32,ldN 34 33,bnI 35 .add 34 1,nlC 36 31,fdL 37 1 36,stL 37 35]
def zhb:SL:= [mvV 38 5,bnI 39 .add 38 1,asL 5 5 39]
def a118l8:ACode:=(.seq (sR zf7 (cV 9 .skip (.exit 0))) (.block 1 (sR zhf (.seq (sR zhe (cV 24 (.exit 0) .skip)) (sR zhd (sR zhc (.region zhb)))))))
def zlD:SL:= [mvV 40 4,mvV 41 5,bnI 42 .gtr 41 0,mvL 43 42,mgV 44 43 true 4,bgI 45 43 true .leq 44 50,pkF 46 43 45,asL 2 4 40,asL 3 3 46]
def a118:AFunc:=⟨1,[0,2,3,4,5,6,7,9,24],[.tmp 2, .tmp 3],(sR zE6 (sR zE5 (.seq (bL 0 a118l8) (sT zlD)))),false⟩
def zKX:SL:= [bxV 2 0,asB 4 4 false]
def zKW:SL:= [mvV 5 1,⟨.l 6,none, .bin .quo (.l 5) (.c (.int .u8 64))⟩,axV 7 4 0 2 6,ldN 8 7,mvV 9 1,⟨.l 10,none, .bin .rem (.l 9) (.c (.int .u8 64))⟩,bnL 11 .shr 8 10,⟨.l 12,none, .bin .and (.l 11) (.c (.int .u64 1))⟩,⟨.l 13,none, .bin .eql (.l 12) (.c (.int .u64 1))⟩,asL 4 4 13]
def a84:AFunc:=⟨2,[0,1,2,4],[.tmp 4],(sR zKX (sT zKW)),true⟩
def zEZ:SL:= [asB 4 4 false]
def zE0:Plan:=(.seq 0 (mvV 5 0) (.seq 1 (nlC 6 5) (.seq 2 (fdL 7 0 6) (.seq 3 (ldN 8 7) (.seq 4 (mvV 9 0) (.seq 5 (nlC 10 9) (.seq 6 (fdL 11 1 10) (.seq 7 (ldN 12 11) (.seq 8 ⟨.l 13,none, .slice none (.l 8) (some (.l 12)) none⟩ (.seq 9 (mvV 14 1) (.one 10 (clB 15 133 13 14) (.seq 11 (asL 4 4 15) .fin))))))))))))
def a124:AFunc:=⟨2,[0,1,4],[.tmp 4],(sR zEZ (.seq (.draw zE0) .ret)),true⟩
def zh7:SL:= [⟨.v 2,none, .allocL [.int .u64 0, .int .u64 0, .int .u64 0, .int .u64 0]⟩,asI 3 3 0]
def zh6:SL:= [mvV 11 0,⟨.v 12,none, .call 124 [.pl (.l 11), .pl (.c (.str [91,58]))]⟩]
def zh8:Plan:=(.seq 0 (mvV 14 0) (.seq 1 (nlC 15 14) (.seq 2 (fdL 16 0 15) (.seq 3 (ldN 17 16) (.seq 4 (mvV 18 0) (.seq 5 (nlC 19 18) (.seq 6 (fdL 20 1 19) (.seq 7 (ldN 21 20) (.seq 8 (bnI 22 .add 21 2) (.seq 9 ⟨.l 23,none, .slice none (.l 17) (some (.l 22)) none⟩ (.one 10 ⟨.l 24,none, .call 95 [.pl (.l 23), .pl (.c (.str [58,93]))]⟩ (.seq 11 (mvL 13 24) (.seq 12 (exT 25 0 13) (.seq 13 (exT 26 1 13) (.seq 14 (exT 27 2 13) (.seq 15 (asL 4 4 25) (.seq 16 (asL 5 5 26) (.seq 17 (asL 6 6 27) .fin))))))))))))))))))
def zh5:SL:= [mvV 28 6,⟨.v 29,none, .un .not (.l 28)⟩]
def zh4:SL:= [⟨.l 30,none, .build [.int .u64 0, .int .u64 0, .int .u64 0, .int .u64 0] []⟩,stV 4 2 30,asI 3 3 3]
def zh3:SL:= [mvV 31 0,nlC 32 31,fdL 33 1 32,ldN 34 33,mvV 35 4,lnS 36 true 35,bnI 37 .add 36 4,bnL 38 .add 34 37,nlC 39 31,fdL 40 1 39,stL 40 38]
def zh2:SL:= [mvV 42 4,clA 43 134 42,mvL 41 43,exT 44 0 41,exT 45 1 41,⟨.v 7,none, .allocL [.int .u64 0, .int .u64 0, .int .u64 0, .int .u64 0]⟩,stV 4 7 44,asL 6 6 45]
def zh1:SL:= [mvV 46 6,⟨.v 47,none, .un .not (.l 46)⟩]
def zh0:SL:= [⟨.l 48,none, .build [.int .u64 0, .int .u64 0, .int .u64 0, .int .u64 0] []⟩,stV 4 2 48,asI 3 3 40]
def zhZ:SL:= [ldV 49 4 7,stV 4 2 49,asI 3 3 0]
def zfe:SL:= [mvV 51 0,clA 52 135 51,mvL 50 52,exT 53 0 50,exT 54 1 50,asL 8 8 53,asL 9 9 54]
def zfd:SL:= [mvV 55 9,⟨.v 56,none, .un .not (.l 55)⟩]
def zfc:SL:= [⟨.l 57,none, .build [.int .u64 0, .int .u64 0, .int .u64 0, .int .u64 0] []⟩,stV 4 2 57,asI 3 3 3]
def zfb:SL:= [mvV 58 8,asL 10 10 58]
def zfa:SL:= [mvV 59 0,⟨.l 60,none, .call 124 [.pl (.l 59), .pl (.c (.str [45]))]⟩,mvL 61 60,mgV 62 61 true 0,⟨.l 63,some (.l 61,true), .call 124 [.pl (.l 62), .pl (.c (.str [45,93]))]⟩,⟨.l 64,some (.l 61,true), .un .not (.l 63)⟩,pkF 65 61 64,mvL 66 65,mgV 67 66 true 0,⟨.l 68,some (.l 66,true), .call 124 [.pl (.l 67), .pl (.c (.str [45,91,58]))]⟩,⟨.l 69,some (.l 66,true), .un .not (.l 68)⟩,pvF 70 66 69]
def ze9:SL:= [mvV 71 0,nlC 72 71,fdL 73 1 72,ldN 74 73,bnI 75 .add 74 1,nlC 76 71,fdL 77 1 76,stL 77 75]
def ze8:SL:= [mvV 79 0,clA 80 135 79,mvL 78 80,exT 81 0 78,exT 82 1 78,asL 10 10 81,asL 9 9 82]
def ze7:SL:= [mvV 83 9,⟨.v 84,none, .un .not (.l 83)⟩]
def ze6:SL:= [⟨.l 85,none, .build [.int .u64 0, .int .u64 0, .int .u64 0, .int .u64 0] []⟩,stV 4 2 85,asI 3 3 3]
def ze5:SL:= [mvV 86 10,mvV 87 8,bvL 88 .lss 86 87]
def ze4:SL:= [⟨.l 89,none, .build [.int .u64 0, .int .u64 0, .int .u64 0, .int .u64 0] []⟩,stV 4 2 89,asI 3 3 4]
def ze3:SL:= [⟨.l 90,none, .build [.int .u64 0, .int .u64 0, .int .u64 0, .int .u64 0] []⟩,mvV 91 8,mvV 92 10,clC 93 136 90 91 92,stV 4 2 93,asI 3 3 0]
def a125:AFunc:=⟨1,[0,2,3,4,5,6,7,8,9,10,12,29,47,56,70,84,88],[.cell 2 (some 4), .tmp 3],(sR zh7 (.seq (sR zh6 (cV 12 (.seq (.draw zh8) (.seq (sR zh5 (cV 29 (sT zh4) .skip)) (sR zh3 (sR zh2 (.seq (sR zh1 (cV 47 (sT zh0) .skip)) (sT zhZ)))))) .skip)) (sR zfe (.seq (sR zfd (cV 56 (sT zfc) .skip)) (sR zfb (.seq (sR zfa (cV 70 (sR ze9 (.seq (sR ze8 (sR ze7 (cV 84 (sT ze6) .skip))) (sR ze5 (cV 88 (sT ze4) .skip)))) .skip)) (sT ze3))))))),false⟩
def zEY:SL:= [bxV 2 0,bxV 3 1,⟨.v 4,none, .allocL [.int .u64 0, .int .u64 0, .int .u64 0, .int .u64 0]⟩]
def zEX:SL:= [asI 6 6 0]
def zpj:SL:= [⟨.v 7,none, .bin .lss (.v 6) (.c (.int .i64 4))⟩]
def zpi:SL:= [mvV 8 6,asL 5 5 8]
def zpk:Plan:=(.seq 0 (mvV 9 5) (.seq 1 (axV 10 4 0 2 9) (.seq 2 (ldN 11 10) (.seq 3 (mvV 12 5) (.seq 4 (axV 13 4 0 3 12) (.seq 5 (ldN 14 13) (.seq 6 (bnL 15 .or 11 14) (.seq 7 (axV 16 4 0 2 9) (.one 8 (stL 16 15) .fin)))))))))
def zph:SL:= [bxI 17 .add 6 1,asL 6 6 17]
def a126l6:ACode:=(sR zpj (.seq (cV 7 .skip (.exit 0)) (.seq (.block 1 (sR zpi (.draw zpk))) (.region zph))))
def zEW:SL:= [ldV 18 4 2,stV 4 4 18]
def a126:AFunc:=⟨2,[0,1,2,3,4,5,6,7],[.cell 4 (some 4)],(sR zEY (.seq (sR zEX (bL 0 a126l6)) (sT zEW))),true⟩
def zEV:SL:= [bxV 1 0,⟨.v 2,none, .allocL [.int .u64 0, .int .u64 0, .int .u64 0, .int .u64 0]⟩]
def zEU:SL:= [asI 4 4 0]
def zpg:SL:= [⟨.v 5,none, .bin .lss (.v 4) (.c (.int .i64 4))⟩]
def zpf:SL:= [mvV 6 4,asL 3 3 6]
def zpe:SL:= [mvV 7 3,mvV 8 3,axV 9 4 0 1 8,ldN 10 9,⟨.l 11,none, .un .xor (.l 10)⟩,axV 12 4 0 1 7,stL 12 11]
def zpd:SL:= [bxI 13 .add 4 1,asL 4 4 13]
def a127l6:ACode:=(sR zpg (.seq (cV 5 .skip (.exit 0)) (.seq (.block 1 (sR zpf (.region zpe))) (.region zpd))))
def zET:SL:= [ldV 14 4 1,stV 4 2 14]
def a127:AFunc:=⟨1,[0,1,2,3,4,5],[.cell 2 (some 4)],(sR zEV (.seq (sR zEU (bL 0 a127l6)) (sT zET))),true⟩
def zES:SL:= [bxV 3 0,⟨.v 6,none, .allocL [.int .u64 0, .int .u64 0, .int .u64 0, .int .u64 0]⟩]
def zER:SL:= [ldV 7 4 3,mvV 8 1,mvV 9 2,clC 10 136 7 8 9,stV 4 6 10]
def a128:AFunc:=⟨3,[0,1,2,3,6],[.cell 6 (some 4)],(sR zES (sT zER)),true⟩
def zEQ:SL:= [asB 4 4 false]
def zEP:SL:= [mvV 5 0,mvV 6 1,clB 7 137 5 6,asL 4 4 7]
def a133:AFunc:=⟨2,[0,1,4],[.tmp 4],(sR zEQ (sT zEP)),true⟩
def zEN:SL:= [⟨.v 2,none, .allocL [.int .u64 0, .int .u64 0, .int .u64 0, .int .u64 0]⟩,asB 3 3 false]
def zEM:SL:= [⟨.v 4,none, .allocL [.int .u64 0, .int .u64 0, .int .u64 0, .int .u64 0]⟩]
def zEL:SL:= [mvV 7 0,clA 8 138 7,asL 5 5 8]
def zEK:SL:= [asI 6 6 0]
def zAa:SL:= [mvV 9 6,mvV 10 5,lnS 11 true 10,bvL 12 .lss 9 11]
def zEO:Plan:=(.seq 0 (ldV 15 4 4) (.seq 1 (mvV 16 5) (.seq 2 (mvV 17 6) (.seq 3 ⟨.l 18,none, .sidx (.l 16) (.l 17)⟩ (.seq 4 (mvV 19 5) (.seq 5 (mvV 20 6) (.seq 6 (bnI 21 .add 20 1) (.seq 7 ⟨.l 22,none, .sidx (.l 19) (.l 21)⟩ (.one 8 (clC 23 136 15 18 22) (.one 9 (stV 4 4 23) .fin))))))))))
def zEJ:SL:= [mvV 13 6,bnI 14 .add 13 2,asL 6 6 14]
def a134l7:ACode:=(.seq (sR zAa (cV 12 .skip (.exit 0))) (.seq (.block 1 (.draw zEO)) (.region zEJ)))
def zEI:SL:= [ldV 24 4 4,mvV 25 5,⟨.l 26,none, .bin .neq (.l 25) (.c (.str []))⟩,stV 4 2 24,asL 3 3 26]
def a134:AFunc:=⟨1,[0,2,3,4,5,6,12],[.cell 2 (some 4), .tmp 3],(sR zEN (sR zEM (sR zEL (.seq (sR zEK (bL 0 a134l7)) (sT zEI))))),true⟩
def zny:SL:= [⟨.v 2,none, .asg 2 (.c (.int .u8 0))⟩,asB 3 3 false]
def znx:SL:= [mvV 5 0,⟨.v 6,none, .call 124 [.pl (.l 5), .pl (.c (.str [92]))]⟩]
def znw:SL:= [mvV 7 0,nlC 8 7,fdL 9 1 8,ldN 10 9,bnI 11 .add 10 1,nlC 12 7,fdL 13 1 12,stL 13 11]
def znA:Plan:=(.seq 0 (mvV 14 0) (.seq 1 (nlC 15 14) (.seq 2 (fdL 16 1 15) (.seq 3 (ldN 17 16) (.seq 4 (mvV 18 0) (.seq 5 (nlC 19 18) (.seq 6 (fdL 20 0 19) (.seq 7 (ldN 21 20) (.seq 8 (lnS 22 true 21) (.seq 9 (bvL 23 .eql 17 22) .fin))))))))))
def znv:SL:= [⟨.v 2,none, .asg 2 (.c (.int .u8 0))⟩,asB 3 3 false]
def znu:SL:= [mvV 24 0,nlC 25 24,fdL 26 1 25,ldN 27 26,bnI 28 .add 27 1,nlC 29 24,fdL 30 1 29,stL 30 28]
def znz:Plan:=(.seq 0 (mvV 31 0) (.seq 1 (nlC 32 31) (.seq 2 (fdL 33 0 32) (.seq 3 (ldN 34 33) (.seq 4 (mvV 35 0) (.seq 5 (nlC 36 35) (.seq 6 (fdL 37 1 36) (.seq 7 (ldN 38 37) (.seq 8 (bnI 39 .sub 38 1) (.seq 9 ⟨.l 40,none, .sidx (.l 34) (.l 39)⟩ (.seq 10 (asL 4 4 40) .fin)))))))))))
def znt:SL:= [⟨.v 41,none, .asg 41 (.v 4)⟩]
def zns:SL:= [bxU 44 .eql 41 110,asL 43 43 44]
def znr:SL:= [⟨.v 2,none, .asg 2 (.c (.int .u8 10))⟩,asB 3 3 true]
def zjh:SL:= [bxU 46 .eql 41 116,asL 45 45 46]
def zjg:SL:= [⟨.v 2,none, .asg 2 (.c (.int .u8 9))⟩,asB 3 3 true]
def zjf:SL:= [mvV 42 4,asL 2 4 42,asB 3 3 true]
def zjj:Plan:=(.seq 0 (mvV 47 0) (.seq 1 (nlC 48 47) (.seq 2 (fdL 49 1 48) (.seq 3 (ldN 50 49) (.seq 4 (mvV 51 0) (.seq 5 (nlC 52 51) (.seq 6 (fdL 53 0 52) (.seq 7 (ldN 54 53) (.seq 8 (lnS 55 true 54) (.seq 9 (bvL 56 .eql 50 55) .fin))))))))))
def zje:SL:= [⟨.v 2,none, .asg 2 (.c (.int .u8 0))⟩,asB 3 3 false]
def zjd:SL:= [mvV 57 0,nlC 58 57,fdL 59 1 58,ldN 60 59,bnI 61 .add 60 1,nlC 62 57,fdL 63 1 62,stL 63 61]
def zji:Plan:=(.seq 0 (mvV 64 0) (.seq 1 (nlC 65 64) (.seq 2 (fdL 66 0 65) (.seq 3 (ldN 67 66) (.seq 4 (mvV 68 0) (.seq 5 (nlC 69 68) (.seq 6 (fdL 70 1 69) (.seq 7 (ldN 71 70) (.seq 8 (bnI 72 .sub 71 1) (.seq 9 ⟨.l 73,none, .sidx (.l 67) (.l 72)⟩ (.seq 10 (asL 2 2 73) (.seq 11 (asB 3 3 true) .fin))))))))))))
def a135:AFunc:=⟨1,[0,2,3,4,6,23,41,43,45,56],[.tmp 2, .tmp 3],(sR zny (.seq (sR znx (cV 6 (sR znw (.seq (.seq (.draw znA) (cV 23 (sT znv) .skip)) (sR znu (.seq (.draw znz) (sR znt (.block 0 (sR zns (cV 43 (sT znr) (sR zjh (cV 45 (sT zjg) (sT zjf))))))))))) .skip)) (.seq (.seq (.draw zjj) (cV 56 (sT zje) .skip)) (sR zjd (.seq (.draw zji) .ret))))),false⟩
def zEG:SL:= [bxV 3 0,⟨.v 6,none, .allocL [.int .u64 0, .int .u64 0, .int .u64 0, .int .u64 0]⟩]
def zEF:SL:= [mvV 8 1,⟨.l 9,none, .conv .i64 (.l 8)⟩,asL 7 7 9]
def zvV:SL:= [mvV 10 7,mvV 11 2,⟨.l 12,none, .conv .i64 (.l 11)⟩,bvL 13 .leq 10 12]
def zEH:Plan:=(.seq 0 (mvV 16 7) (.seq 1 (bnI 17 .quo 16 64) (.seq 2 (axV 18 4 0 3 17) (.seq 3 (ldN 19 18) (.seq 4 (mvV 20 7) (.seq 5 (bnI 21 .rem 20 64) (.seq 6 ⟨.l 22,none, .bin .shl (.c (.int .u64 1)) (.l 21)⟩ (.seq 7 (bnL 23 .or 19 22) (.seq 8 (axV 24 4 0 3 17) (.one 9 (stL 24 23) .fin))))))))))
def zEE:SL:= [mvV 14 7,bnI 15 .add 14 1,asL 7 7 15]
def a136l5:ACode:=(.seq (sR zvV (cV 13 .skip (.exit 0))) (.seq (.block 1 (.draw zEH)) (.region zEE)))
def zz9:SL:= [ldV 25 4 3,stV 4 6 25]
def a136:AFunc:=⟨3,[0,1,2,3,6,7,13],[.cell 6 (some 4)],(sR zEG (.seq (sR zEF (bL 0 a136l5)) (sT zz9))),true⟩
def zz8:SL:= [asB 4 4 false]
def zz7:SL:= [mvV 5 0,lnS 6 true 5,mvV 7 1,lnS 8 true 7,bnL 9 .geq 6 8,mvL 10 9,mgV 11 10 true 0,mgV 12 10 true 1,lgS 13 10 true true 12,⟨.l 14,some (.l 10,true), .slice none (.l 11) none (some (.l 13))⟩,mgV 15 10 true 1,bgL 16 10 true .eql 14 15,pkF 17 10 16,asL 4 4 17]
def a137:AFunc:=⟨2,[0,1,4],[.tmp 4],(sR zz8 (sT zz7)),true⟩
def zfy:SL:= [⟨.v 2,none, .asg 2 (.c (.str []))⟩]
def zfx:SL:= [⟨.v 3,none, .asg 3 (.v 0)⟩]
def zfw:SL:= [⟨.l 5,none, .bin .eql (.v 3) (.c (.str [97,108,112,104,97]))⟩,asL 4 4 5]
def zfv:SL:= [⟨.v 2,none, .asg 2 (.c (.str [65,90,97,122]))⟩]
def zf6:SL:= [⟨.l 7,none, .bin .eql (.v 3) (.c (.str [100,105,103,105,116]))⟩,asL 6 6 7]
def zf5:SL:= [⟨.v 2,none, .asg 2 (.c (.str [48,57]))⟩]
def zha:SL:= [⟨.l 9,none, .bin .eql (.v 3) (.c (.str [97,108,110,117,109]))⟩,asL 8 8 9]
def zg9:SL:= [⟨.v 2,none, .asg 2 (.c (.str [48,57,65,90,97,122]))⟩]
def zhW:SL:= [⟨.l 11,none, .bin .eql (.v 3) (.c (.str [117,112,112,101,114]))⟩,asL 10 10 11]
def zhV:SL:= [⟨.v 2,none, .asg 2 (.c (.str [65,90]))⟩]
def zfM:SL:= [⟨.l 13,none, .bin .eql (.v 3) (.c (.str [108,111,119,101,114]))⟩,asL 12 12 13]
def zfL:SL:= [⟨.v 2,none, .asg 2 (.c (.str [97,122]))⟩]
def zgE:SL:= [⟨.l 15,none, .bin .eql (.v 3) (.c (.str [115,112,97,99,101]))⟩,asL 14 14 15]
def zgD:SL:= [⟨.v 2,none, .asg 2 (.c (.str [9,13,32,32]))⟩]
def zhY:SL:= [⟨.l 17,none, .bin .eql (.v 3) (.c (.str [98,108,97,110,107]))⟩,asL 16 16 17]
def zhX:SL:= [⟨.v 2,none, .asg 2 (.c (.str [9,9,32,32]))⟩]
def zjc:SL:= [⟨.l 19,none, .bin .eql (.v 3) (.c (.str [112,117,110,99,116]))⟩,asL 18 18 19]
def zjb:SL:= [⟨.v 2,none, .asg 2 (.c (.str [33,47,58,64,91,96,123,126]))⟩]
def zln:SL:= [⟨.l 21,none, .bin .eql (.v 3) (.c (.str [112,114,105,110,116]))⟩,asL 20 20 21]
def zlm:SL:= [⟨.v 2,none, .asg 2 (.c (.str [32,126]))⟩]
def znq:SL:= [⟨.l 23,none, .bin .eql (.v 3) (.c (.str [103,114,97,112,104]))⟩,asL 22 22 23]
def znp:SL:= [⟨.v 2,none, .asg 2 (.c (.str [33,126]))⟩]
def zqo:SL:= [⟨.l 25,none, .bin .eql (.v 3) (.c (.str [99,110,116,114,108]))⟩,asL 24 24 25]
def zqn:SL:= [⟨.v 2,none, .asg 2 (.c (.str [0,31,127,127]))⟩]
def zul:SL:= [⟨.l 27,none, .bin .eql (.v 3) (.c (.str [120,100,105,103,105,116]))⟩,asL 26 26 27]
def zuk:SL:= [⟨.v 2,none, .asg 2 (.c (.str [48,57,65,70,97,102]))⟩]
def zz6:SL:= [⟨.v 2,none, .asg 2 (.c (.str []))⟩]
def a138:AFunc:=⟨1,[0,2,3,4,6,8,10,12,14,16,18,20,22,24,26],[.tmp 2],(sR zfy (.seq (sR zfx (.block 0 (sR zfw (cV 4 (sT zfv) (sR zf6 (cV 6 (sT zf5) (sR zha (cV 8 (sT zg9) (sR zhW (cV 10 (sT zhV) (sR zfM (cV 12 (sT zfL) (sR zgE (cV 14 (sT zgD) (sR zhY (cV 16 (sT zhX) (sR zjc (cV 18 (sT zjb) (sR zln (cV 20 (sT zlm) (sR znq (cV 22 (sT znp) (sR zqo (cV 24 (sT zqn) (sR zul (cV 26 (sT zuk) .skip)))))))))))))))))))))))))) (sT zz6))),true⟩
def fsT:Nat→Option AFunc
 | 156=>some a156
 | 8=>some a8
 | 19=>some a19
 | 157=>some a157
 | 158=>some a158
 | 147=>some a147
 | 14=>some a14
 | 38=>some a38
 | 10=>some a10
 | 20=>some a20
 | 180=>some a180
 | 153=>some a153
 | 183=>some a183
 | 148=>some a148
 | 95=>some a95
 | 143=>some a143
 | 44=>some a44
 | 45=>some a45
 | 63=>some a63
 | 34=>some a34
 | 42=>some a42
 | 47=>some a47
 | 193=>some a193
 | 104=>some a104
 | 46=>some a46
 | 152=>some a152
 | 69=>some a69
 | 70=>some a70
 | 71=>some a71
 | 85=>some a85
 | 86=>some a86
 | 57=>some a57
 | 59=>some a59
 | 58=>some a58
 | 65=>some a65
 | 66=>some a66
 | 51=>some a51
 | 48=>some a48
 | 123=>some a123
 | 43=>some a43
 | 72=>some a72
 | 73=>some a73
 | 74=>some a74
 | 75=>some a75
 | 155=>some a155
 | 92=>some a92
 | 93=>some a93
 | 3=>some a3
 | 87=>some a87
 | 88=>some a88
 | 89=>some a89
 | 81=>some a81
 | 82=>some a82
 | 83=>some a83
 | 91=>some a91
 | 90=>some a90
 | 76=>some a76
 | 35=>some a35
 | 101=>some a101
 | 102=>some a102
 | 98=>some a98
 | 99=>some a99
 | 100=>some a100
 | 37=>some a37
 | 60=>some a60
 | 107=>some a107
 | 108=>some a108
 | 109=>some a109
 | 110=>some a110
 | 111=>some a111
 | 105=>some a105
 | 106=>some a106
 | 61=>some a61
 | 62=>some a62
 | 119=>some a119
 | 120=>some a120
 | 121=>some a121
 | 122=>some a122
 | 113=>some a113
 | 114=>some a114
 | 115=>some a115
 | 117=>some a117
 | 116=>some a116
 | 118=>some a118
 | 84=>some a84
 | 124=>some a124
 | 125=>some a125
 | 126=>some a126
 | 127=>some a127
 | 128=>some a128
 | 133=>some a133
 | 134=>some a134
 | 135=>some a135
 | 136=>some a136
 | 137=>some a137
 | 138=>some a138
 | _=>none
theorem zF5:fsT 156=some a156:=rfl
theorem zIN:fsT 8=some a8:=rfl
theorem zJd:fsT 19=some a19:=rfl
theorem zhw:fsT 157=some a157:=rfl
theorem zlc:fsT 158=some a158:=rfl
theorem zGa:fsT 147=some a147:=rfl
theorem zJe:fsT 14=some a14:=rfl
theorem zI9:fsT 38=some a38:=rfl
theorem zJf:fsT 10=some a10:=rfl
theorem fsT_20:fsT 20=some a20:=rfl
theorem zF4:fsT 180=some a180:=rfl
theorem zF7:fsT 153=some a153:=rfl
theorem zF3:fsT 183=some a183:=rfl
theorem zF9:fsT 148=some a148:=rfl
theorem zDM:fsT 95=some a95:=rfl
theorem zGb:fsT 143=some a143:=rfl
theorem zI6:fsT 44=some a44:=rfl
theorem zI5:fsT 45=some a45:=rfl
theorem zIX:fsT 63=some a63:=rfl
theorem zJc:fsT 34=some a34:=rfl
theorem zI8:fsT 42=some a42:=rfl
theorem fsT_47:fsT 47=some a47:=rfl
theorem zF2:fsT 193=some a193:=rfl
theorem zyC:fsT 104=some a104:=rfl
theorem zI4:fsT 46=some a46:=rfl
theorem zF8:fsT 152=some a152:=rfl
theorem zIU:fsT 69=some a69:=rfl
theorem zIT:fsT 70=some a70:=rfl
theorem zIS:fsT 71=some a71:=rfl
theorem zDP:fsT 85=some a85:=rfl
theorem zII:fsT 86=some a86:=rfl
theorem zI3:fsT 57=some a57:=rfl
theorem zI1:fsT 59=some a59:=rfl
theorem zI2:fsT 58=some a58:=rfl
theorem zIW:fsT 65=some a65:=rfl
theorem zIV:fsT 66=some a66:=rfl
theorem fsT_51:fsT 51=some a51:=rfl
theorem fsT_48:fsT 48=some a48:=rfl
theorem fsT_123:fsT 123=some a123:=rfl
theorem zI7:fsT 43=some a43:=rfl
theorem zIR:fsT 72=some a72:=rfl
theorem zIQ:fsT 73=some a73:=rfl
theorem zIP:fsT 74=some a74:=rfl
theorem zIO:fsT 75=some a75:=rfl
theorem zF6:fsT 155=some a155:=rfl
theorem zIE:fsT 92=some a92:=rfl
theorem zDN:fsT 93=some a93:=rfl
theorem fsT_3:fsT 3=some a3:=rfl
theorem zIH:fsT 87=some a87:=rfl
theorem zDO:fsT 88=some a88:=rfl
theorem zyA:fsT 89=some a89:=rfl
theorem zIM:fsT 81=some a81:=rfl
theorem zIL:fsT 82=some a82:=rfl
theorem zIK:fsT 83=some a83:=rfl
theorem zIF:fsT 91=some a91:=rfl
theorem zIG:fsT 90=some a90:=rfl
theorem fsT_76:fsT 76=some a76:=rfl
theorem zJb:fsT 35=some a35:=rfl
theorem zGC:fsT 101=some a101:=rfl
theorem zyD:fsT 102=some a102:=rfl
theorem zDL:fsT 98=some a98:=rfl
theorem zID:fsT 99=some a99:=rfl
theorem zGD:fsT 100=some a100:=rfl
theorem zJa:fsT 37=some a37:=rfl
theorem zI0:fsT 60=some a60:=rfl
theorem zyB:fsT 107=some a107:=rfl
theorem zGz:fsT 108=some a108:=rfl
theorem zGy:fsT 109=some a109:=rfl
theorem zGx:fsT 110=some a110:=rfl
theorem zGw:fsT 111=some a111:=rfl
theorem zGB:fsT 105=some a105:=rfl
theorem zGA:fsT 106=some a106:=rfl
theorem zIZ:fsT 61=some a61:=rfl
theorem zIY:fsT 62=some a62:=rfl
theorem zGp:fsT 119=some a119:=rfl
theorem zd5:fsT 120=some a120:=rfl
theorem zGo:fsT 121=some a121:=rfl
theorem zGn:fsT 122=some a122:=rfl
theorem zGv:fsT 113=some a113:=rfl
theorem zGu:fsT 114=some a114:=rfl
theorem zGt:fsT 115=some a115:=rfl
theorem zGr:fsT 117=some a117:=rfl
theorem zGs:fsT 116=some a116:=rfl
theorem zGq:fsT 118=some a118:=rfl
theorem zIJ:fsT 84=some a84:=rfl
theorem zGm:fsT 124=some a124:=rfl
theorem zGl:fsT 125=some a125:=rfl
theorem zGk:fsT 126=some a126:=rfl
theorem zGj:fsT 127=some a127:=rfl
theorem zGi:fsT 128=some a128:=rfl
theorem zGh:fsT 133=some a133:=rfl
theorem zGg:fsT 134=some a134:=rfl
theorem zGf:fsT 135=some a135:=rfl
theorem zGe:fsT 136=some a136:=rfl
theorem zGd:fsT 137=some a137:=rfl
theorem zGc:fsT 138=some a138:=rfl
end Go.Ak
namespace Go.Ak
section limit
variable {α β:Type}
open Classical in
noncomputable def limit (f:Nat→Option α):Option α:=if h: ∃ a n,f n=some a then some h.choose else none
def Mono (f:Nat→Option α):Prop:= ∀ n m a,n≤m→f n=some a→f m=some a
theorem Mono.uniq {f:Nat→Option α} (hf:Mono f) {n m:Nat} {a b:α} (h:f n=some a) (k:f m=some b):a=b:=by
 rcases Nat.le_total n m with l | l
 ·rw [hf n m a l h] at k;exact Option.some.inj k
 ·rw [hf m n b l k] at h;exact (Option.some.inj h).symm
theorem zfU {f:Nat→Option α} (hf:Mono f) {a:α}:limit f=some a↔ ∃ n,f n=some a:=by
 unfold limit
 split
 ·rename_i h
  obtain ⟨n,hn⟩:=h.choose_spec
  constructor
  ·intro e;rw [←Option.some.inj e];exact ⟨n,hn⟩
  ·intro ⟨m,hm⟩;rw [hf.uniq hn hm]
 ·rename_i h
  constructor
  ·intro e;cases e
  ·intro ⟨m,hm⟩;exact absurd ⟨a,m,hm⟩ h
theorem zwG {f:Nat→Option α} (h: ∀ n,f n=none):limit f=none:=by
 unfold limit
 split
 ·rename_i k;obtain ⟨a,n,hn⟩:=k;rw [h n] at hn;cases hn
 ·rfl
theorem zcX (x:Option α):limit (fun _=>x)=x:=by
 have hm:Mono (fun _:Nat=>x):=fun _ _ _ _ h=>h
 cases x with
 | none=>exact zwG fun _=>rfl
 | some a=>exact (zfU hm).2 ⟨0,rfl⟩
end limit
def CallF.le (c d:CallF):Prop:= ∀ f as H r,c f as H=some r→d f as H=some r
section mono
variable {c d:CallF} {bar:Nat}
theorem zyL (h:c.le d) (op:AOp) (σ:St) (r:OpR) (e:zbl c bar op σ=some r):zbl d bar op σ=some r:=by
 cases op
 case call f xs =>
  simp only [zbl] at e ⊢
  split at e
  ·rename_i as σ' ha
   split at e
   ·rename_i v H hc;rw [h _ _ _ _ hc];exact e
   ·rename_i v H hc;rw [h _ _ _ _ hc];exact e
   ·cases e
  ·cases e
 case callv x xs =>
  simp only [zbl] at e ⊢
  split at e
  ·rename_i f cap hx
   split at e
   ·rename_i as σ' ha
    split at e
    ·rename_i v H hc;rw [h _ _ _ _ hc];exact e
    ·rename_i v H hc;rw [h _ _ _ _ hc];exact e
    ·cases e
   ·cases e
  ·cases e
 all_goals exact e
theorem zif (h:c.le d) (s:AStep) (σ:St) (r) (e:zcS c bar s σ=some r):zcS d bar s σ=some r:=by
 simp only [zcS] at e ⊢
 split at e
 ·split at e
  ·rename_i a τ ho;rw [zyL h _ _ _ ho];exact e
  ·rename_i a τ ho;rw [zyL h _ _ _ ho];exact e
  ·cases e
 ·exact e
 ·cases e
theorem zit (h:c.le d): ∀ (l:List AStep) (σ:St) (r),zaN c bar l σ=some r→zaN d bar l σ=some r
 | [],_,_,e=>e
 | s::l, σ,r,e=>by
  simp only [zaN] at e ⊢
  split at e
  ·rename_i τ hs;rw [zif h _ _ _ hs];exact zit h l τ r e
  ·rename_i hs
   have:=zif (bar:=bar) h s σ r e
   rw [this]
   split
   ·rename_i τ hq;cases hq;exact absurd e (hs τ)
   ·rfl
theorem zaF (c:CallF) (bar i:Nat) (s:AStep) (p q:Plan) (σ:St):zaL c bar (.alt i s p q) σ=(match zaL c bar (.seq i s p) σ,zaL c bar q σ with
  | some a,some b=>bif zeW a b then some a else none
  | _,_=>none):=rfl
theorem zgt (h:c.le d) {i:Nat} {s:AStep} {p:Plan} (ih: ∀ (σ:St) (r),zaL c bar p σ=some r→zaL d bar p σ=some r) (σ:St) (r) (e:zaL c bar (.seq i s p) σ=some r):zaL d bar (.seq i s p) σ=some r:=by
 simp only [zaL] at e ⊢
 split at e
 ·rename_i τ hs;rw [zif h _ _ _ hs];exact ih τ r e
 ·rename_i hs
  have:=zif (bar:=bar) h s σ r e
  rw [this]
  split
  ·rename_i τ hq;cases hq;exact absurd e (hs τ)
  ·rfl
theorem zhz (h:c.le d) (p:Plan): ∀ (σ:St) (r),zaL c bar p σ=some r→zaL d bar p σ=some r:=by
 induction p with
 | fin=>exact fun _ _ e=>e
 | seq i s p ih=>exact zgt h ih
 | one i s p ih=>exact fun σ r e=>zgt (i:=i) (s:=s) h ih σ r e
 | alt i s p q ih ih2 =>
  intro σ r e
  rw [zaF] at e ⊢
  split at e
  ·rename_i a b h1 h2
   rw [zgt h ih σ _ h1,ih2 σ _ h2]
   exact e
  ·cases e
theorem zl4 {b1 b2:EH→Option (AExit×EH)} (h: ∀ s r,b1 s=some r→b2 s=some r): ∀ (n m:Nat) (s:EH) (r),n≤m→zk8 b1 n s=some r→zk8 b2 m s=some r
 | 0,_,_,_,_,e=>by cases e
 | n+1,0,_,_,l,_=>by omega
 | n+1,m+1,s,r,l,e=>by
  simp only [zk8] at e ⊢
  split at e
  ·rename_i τ hs;rw [h _ _ hs];exact zl4 h n m τ r (by omega) e
  ·rename_i hs
   have:=h s r e
   rw [this]
   split
   ·rename_i τ hq;cases hq;exact absurd e (hs τ)
   ·rfl
theorem zle (h:c.le d) {n m:Nat} (l:n≤m): ∀ (a:ACode) (s:EH) (r),ev c bar n a s=some r→ev d bar m a s=some r
 | .skip,_,_,e=>e
 | .region ops,s,r,e=>by
  simp only [ev] at e ⊢
  split at e
  ·rename_i x σ hs;rw [zit h _ _ _ hs];exact e
  ·cases e
 | .draw p,s,r,e=>by
  simp only [ev] at e ⊢
  split at e
  ·rename_i x σ hs;rw [zhz h _ _ _ hs];exact e
  ·cases e
 | .seq a b,s,r,e=>by
  simp only [ev] at e ⊢
  split at e
  ·rename_i τ hs;rw [zle h l a _ _ hs];exact zle h l b τ r e
  ·rename_i hs
   have:=zle h l a s r e
   rw [this]
   split
   ·rename_i τ hq;cases hq;exact absurd e (hs τ)
   ·rfl
 | .cond clr x a b,s,r,e=>by
  simp only [ev] at e ⊢
  split at e
  ·exact zle h l a _ _ e
  ·exact zle h l b _ _ e
  ·cases e
 | .block id a,s,r,e=>by
  simp only [ev] at e ⊢
  split at e
  ·rename_i i τ hs;rw [zle h l a _ _ hs];exact e
  ·rename_i hs
   have:=zle h l a s r e
   rw [this]
   split
   ·rename_i i τ hq;cases hq;exact absurd e (hs i τ)
   ·rfl
 | .loop a,s,r,e=>zl4 (fun s r=>zle h l a s r) n m s r l e
 | .exit _,_,_,e=>e
 | .ret,_,_,e=>e
theorem zs3 (h:c.le d) {n m:Nat} (l:n≤m) (F:AFunc) (as:List AV) (H:Heap) (r) (e:zxn c n bar F as H=some r):zxn d m bar F as H=some r:=by
 simp only [zxn] at e ⊢
 cases hb:Nat.beq as.length F.np<;>rw [hb] at e<;>simp only [cond_true,cond_false] at e ⊢
 ·cases e
 ·split at e
  ·rename_i s hs;rw [zle h l _ _ _ hs];exact e
  ·rename_i s hs;rw [zle h l _ _ _ hs];exact e
  ·rename_i v s hs;rw [zle h l _ _ _ hs];exact e
  ·cases e
theorem zu7 {n0:Nat} {H:Heap} {x y:Option (Out×Heap)} (h: ∀ r,x=some r→y=some r) (r) (e:zeE n0 H x=some r):zeE n0 H y=some r:=by
 cases x with
 | none=>simp [zeE] at e
 | some a=>rw [h a rfl];exact e
end mono
def zbQ (sp:Nat→(Nat→CallF)→Nat→CallF):Prop:= ∀ n m (c d:Nat→CallF) bar,n≤m→(∀ b,CallF.le (c b) (d b))→CallF.le (sp n c bar) (sp m d bar)
section
variable {fs:Nat→Option AFunc} {sp:Nat→(Nat→CallF)→Nat→CallF}
theorem zeH (hs:zbQ sp): ∀ (n m:Nat) (bar:Nat),n≤m→CallF.le (run fs sp n bar) (run fs sp m bar)
 | 0,_,_,_,_,_,_,_,e=>by cases e
 | n+1,0,_,l,_,_,_,_,_=>by omega
 | n+1,m+1,bar,l,f,as,H,r,e=>by
  have ih:=fun b=>zeH hs n m b (by omega)
  simp only [run] at e ⊢
  split at e
  ·rename_i hf;exact hs n m _ _ bar (by omega) ih f as H r e
  ·rename_i F hf
   cases hp:F.pure<;>rw [hp] at e<;>simp only [cond_true,cond_false] at e ⊢
   ·exact zs3 (ih bar) (by omega) F as H r e
   ·cases hc:zcI as<;>rw [hc] at e<;>simp only [cond_true,cond_false] at e ⊢
    ·exact zu7 (fun r e=>zs3 (ih _) (by omega) F as H r e) r e
    ·exact zu7 (fun r e=>zs3 (ih _) (by omega) F as [] r e) r e
theorem zuS (hs:zbQ sp) (bar f:Nat) (as:List AV) (H:Heap):Mono (fun n=>run fs sp n bar f as H) :=
 fun n m a l e=>zeH hs n m bar l f as H a e
variable (fs sp) in
noncomputable def Rn (bar:Nat):CallF:=fun f as H=>limit fun n=>run fs sp n bar f as H
variable (fs sp) in
noncomputable def evI (bar:Nat) (a:ACode) (s:EH):Option (AExit×EH):=limit fun n=>ev (run fs sp n bar) bar n a s
variable (fs sp) in
noncomputable def zDD (bar:Nat) (F:AFunc) (as:List AV) (H:Heap):Option (Out×Heap) :=
 bif Nat.beq as.length F.np then
  match evI fs sp bar F.body (zaw F.vars as,H) with
  | some (.norm,s)=>match zet s F.res with
   | some v=>some (.ret v,s.2)
   | none=>none
  | some (.ret,s)=>match zet s F.res with
   | some v=>some (.ret v,s.2)
   | none=>none
  | some (.pan v,s)=>some (.pan v,s.2)
  | _=>none
 else none
theorem zyK (hs:zbQ sp) (bar:Nat) (a:ACode) (s:EH):Mono (fun n=>ev (run fs sp n bar) bar n a s) :=
 fun n m r l e=>zle (zeH hs n m bar l) l a s r e
theorem zB7 (hs:zbQ sp) (bar:Nat) (a:ACode) (s:EH) (n m:Nat) (r) (l:n≤m) (e:ev (run fs sp n bar) bar n a s=some r):ev (run fs sp m bar) bar m a s=some r:=zyK hs bar a s n m r l e
theorem zhh (hs:zbQ sp) {bar f as H r}:Rn fs sp bar f as H=some r↔ ∃ n,run fs sp n bar f as H=some r:=zfU (zuS hs bar f as H)
theorem zba (hs:zbQ sp) {bar a s r}:evI fs sp bar a s=some r↔ ∃ n,ev (run fs sp n bar) bar n a s=some r:=zfU (zyK hs bar a s)
theorem zqR (hs:zbQ sp) (n bar:Nat):CallF.le (run fs sp n bar) (Rn fs sp bar):=fun _ _ _ _ e=>(zhh hs).2 ⟨n,e⟩
theorem zrr (hs:zbQ sp) (bar:Nat) (op:AOp) (σ:St) (r) (e:zbl (Rn fs sp bar) bar op σ=some r): ∃ n,zbl (run fs sp n bar) bar op σ=some r:=by
 cases op
 case call f xs =>
  simp only [zbl] at e ⊢
  split at e
  ·rename_i as σ' ha
   split at e
   ·rename_i v H hc;obtain ⟨n,hn⟩:=(zhh hs).1 hc;exact ⟨n,by rw [hn];exact e⟩
   ·rename_i v H hc;obtain ⟨n,hn⟩:=(zhh hs).1 hc;exact ⟨n,by rw [hn];exact e⟩
   ·cases e
  ·cases e
 case callv x xs =>
  simp only [zbl] at e ⊢
  split at e
  ·rename_i f cap hx
   split at e
   ·rename_i as σ' ha
    split at e
    ·rename_i v H hc;obtain ⟨n,hn⟩:=(zhh hs).1 hc;exact ⟨n,by rw [hn];exact e⟩
    ·rename_i v H hc;obtain ⟨n,hn⟩:=(zhh hs).1 hc;exact ⟨n,by rw [hn];exact e⟩
    ·cases e
   ·cases e
  ·cases e
 all_goals exact ⟨0,e⟩
theorem zih (hs:zbQ sp) (bar:Nat) (s:AStep) (σ:St) (r) (e:zcS (Rn fs sp bar) bar s σ=some r): ∃ n,zcS (run fs sp n bar) bar s σ=some r:=by
 simp only [zcS] at e ⊢
 split at e
 ·split at e
  ·rename_i a τ ho;obtain ⟨n,hn⟩:=zrr hs _ _ _ _ ho;exact ⟨n,by rw [hn];exact e⟩
  ·rename_i a τ ho;obtain ⟨n,hn⟩:=zrr hs _ _ _ _ ho;exact ⟨n,by rw [hn];exact e⟩
  ·cases e
 ·exact ⟨0,e⟩
 ·cases e
theorem zlA (hs:zbQ sp) (bar:Nat): ∀ (l:List AStep) (σ:St) (r),zaN (Rn fs sp bar) bar l σ=some r→ ∃ n,zaN (run fs sp n bar) bar l σ=some r
 | [],_,_,e=>⟨0,e⟩
 | s::l, σ,r,e=>by
  simp only [zaN] at e ⊢
  split at e
  ·rename_i τ h1
   obtain ⟨n,hn⟩:=zih hs bar s σ _ h1
   obtain ⟨m,hm⟩:=zlA hs bar l τ r e
   refine ⟨max n m,?_⟩
   rw [zif (zeH hs n (max n m) bar (Nat.le_max_left ..)) _ _ _ hn]
   exact zit (zeH hs m (max n m) bar (Nat.le_max_right ..)) _ _ _ hm
  ·rename_i h1
   obtain ⟨n,hn⟩:=zih hs bar s σ r e
   refine ⟨n,?_⟩
   rw [hn]
   split
   ·rename_i τ hq;cases hq;exact absurd e (h1 τ)
   ·rfl
theorem zeZ (hs:zbQ sp) (bar:Nat) {i:Nat} {s:AStep} {p:Plan} (ih: ∀ (σ:St) (r),zaL (Rn fs sp bar) bar p σ=some r→ ∃ n,zaL (run fs sp n bar) bar p σ=some r) (σ:St) (r)
  (e:zaL (Rn fs sp bar) bar (.seq i s p) σ=some r): ∃ n,zaL (run fs sp n bar) bar (.seq i s p) σ=some r:=by
 simp only [zaL] at e ⊢
 split at e
 ·rename_i τ h1
  obtain ⟨n,hn⟩:=zih hs bar s σ _ h1
  obtain ⟨m,hm⟩:=ih τ r e
  refine ⟨max n m,?_⟩
  rw [zif (zeH hs n (max n m) bar (Nat.le_max_left ..)) _ _ _ hn]
  exact zhz (zeH hs m (max n m) bar (Nat.le_max_right ..)) _ _ _ hm
 ·rename_i h1
  obtain ⟨n,hn⟩:=zih hs bar s σ r e
  refine ⟨n,?_⟩
  rw [hn]
  split
  ·rename_i τ hq;cases hq;exact absurd e (h1 τ)
  ·rfl
theorem ztL (hs:zbQ sp) (bar:Nat) (p:Plan): ∀ (σ:St) (r),zaL (Rn fs sp bar) bar p σ=some r→ ∃ n,zaL (run fs sp n bar) bar p σ=some r:=by
 induction p with
 | fin=>exact fun _ _ e=>⟨0,e⟩
 | seq i s p ih=>exact zeZ hs bar ih
 | one i s p ih=>exact fun σ r e=>zeZ (i:=i) (s:=s) hs bar ih σ r e
 | alt i s p q ih ih2 =>
  intro σ r e
  simp only [zaF] at e ⊢
  split at e
  ·rename_i a b h1 h2
   obtain ⟨n,hn⟩:=zeZ hs bar ih σ _ h1
   obtain ⟨m,hm⟩:=ih2 σ _ h2
   refine ⟨max n m,?_⟩
   rw [zhz (zeH hs n (max n m) bar (Nat.le_max_left ..)) _ _ _ hn,zhz (zeH hs m (max n m) bar (Nat.le_max_right ..)) _ _ _ hm]
   exact e
  ·cases e
-- the equations
theorem zbN (bar:Nat) (s:EH):evI fs sp bar .skip s=some (.norm,s):=zcX _
theorem zB9 (bar id:Nat) (s:EH):evI fs sp bar (.exit id) s=some (.exit id,s):=zcX _
theorem zGI (bar:Nat) (s:EH):evI fs sp bar .ret s=some (.ret,s):=zcX _
theorem zwW (hs:zbQ sp) (bar:Nat) (ops:List AStep) (s:EH):evI fs sp bar (.region ops) s=(match zaN (Rn fs sp bar) bar ops ⟨s.1,[],[],s.2⟩ with
  | some (e, σ)=>some (e,(σ.env, σ.H))
  | none=>none):=by
 apply Option.ext
 intro r
 rw [zba hs]
 constructor
 ·intro ⟨n,hn⟩
  simp only [ev] at hn
  split at hn
  ·rename_i e σ h1;rw [zit (zqR hs n bar) _ _ _ h1];exact hn
  ·cases hn
 ·intro h
  split at h
  ·rename_i e σ h1
   obtain ⟨n,hn⟩:=zlA hs bar _ _ _ h1
   exact ⟨n,by simp only [ev];rw [hn];exact h⟩
  ·cases h
theorem zCa (hs:zbQ sp) (bar:Nat) (p:Plan) (s:EH):evI fs sp bar (.draw p) s=(match zaL (Rn fs sp bar) bar p ⟨s.1,[],[],s.2⟩ with
  | some (e, σ)=>some (e,(σ.env, σ.H))
  | none=>none):=by
 apply Option.ext
 intro r
 rw [zba hs]
 constructor
 ·intro ⟨n,hn⟩
  simp only [ev] at hn
  split at hn
  ·rename_i e σ h1;rw [zhz (zqR hs n bar) _ _ _ h1];exact hn
  ·cases hn
 ·intro h
  split at h
  ·rename_i e σ h1
   obtain ⟨n,hn⟩:=ztL hs bar _ _ _ h1
   exact ⟨n,by simp only [ev];rw [hn];exact h⟩
  ·cases h
theorem zGH (hs:zbQ sp) (bar:Nat) (a b:ACode) (s:EH):evI fs sp bar (.seq a b) s=(match evI fs sp bar a s with
  | some (.norm,s)=>evI fs sp bar b s
  | r=>r):=by
 apply Option.ext
 intro r
 rw [zba hs]
 constructor
 ·intro ⟨n,hn⟩
  simp only [ev] at hn
  split at hn
  ·rename_i τ h1;rw [(zba hs).2 ⟨n,h1⟩];exact (zba hs).2 ⟨n,hn⟩
  ·rename_i h1
   rw [(zba hs).2 ⟨n,hn⟩]
   split
   ·rename_i τ hq;cases hq;exact absurd hn (h1 τ)
   ·rfl
 ·intro h
  split at h
  ·rename_i τ h1
   obtain ⟨n,hn⟩:=(zba hs).1 h1
   obtain ⟨m,hm⟩:=(zba hs).1 h
   refine ⟨max n m,?_⟩
   simp only [ev]
   rw [zB7 hs bar a s n (max n m) _ (Nat.le_max_left ..) hn]
   exact zB7 hs bar b τ m (max n m) _ (Nat.le_max_right ..) hm
  ·rename_i h1
   obtain ⟨n,hn⟩:=(zba hs).1 h
   refine ⟨n,?_⟩
   simp only [ev]
   rw [hn]
   split
   ·rename_i τ hq;cases hq;exact absurd h (h1 τ)
   ·rfl
theorem zCb (hs:zbQ sp) (bar:Nat) (clr:Bool) (c:Opd) (x y:ACode) (s:EH):evI fs sp bar (.cond clr c x y) s=(match zw0 s clr c with
  | some (true,s)=>evI fs sp bar x s
  | some (false,s)=>evI fs sp bar y s
  | none=>none):=by
 apply Option.ext
 intro r
 rw [zba hs]
 simp only [ev]
 cases hc:zw0 s clr c with
 | none=>simp
 | some q =>
  obtain ⟨b,s'⟩:=q
  cases b
  ·exact (zba hs).symm
  ·exact (zba hs).symm
theorem zyM (hs:zbQ sp) (bar id:Nat) (c:ACode) (s:EH):evI fs sp bar (.block id c) s=(match evI fs sp bar c s with
  | some (.exit i,s)=>bif Nat.beq i id then some (.norm,s) else some (.exit i,s)
  | r=>r):=by
 apply Option.ext
 intro r
 rw [zba hs]
 constructor
 ·intro ⟨n,hn⟩
  simp only [ev] at hn
  split at hn
  ·rename_i i τ h1;rw [(zba hs).2 ⟨n,h1⟩];exact hn
  ·rename_i h1
   rw [(zba hs).2 ⟨n,hn⟩]
   split
   ·rename_i i τ hq;cases hq;exact absurd hn (h1 i τ)
   ·rfl
 ·intro h
  split at h
  ·rename_i i τ h1
   obtain ⟨n,hn⟩:=(zba hs).1 h1
   refine ⟨n,?_⟩
   simp only [ev]
   rw [hn];exact h
  ·rename_i h1
   obtain ⟨n,hn⟩:=(zba hs).1 h
   refine ⟨n,?_⟩
   simp only [ev]
   rw [hn]
   split
   ·rename_i i τ hq;cases hq;exact absurd h (h1 i τ)
   ·rfl
theorem zB8 (hs:zbQ sp) (bar:Nat) (c:ACode) (s:EH):evI fs sp bar (.loop c) s=(match evI fs sp bar c s with
  | some (.norm,s)=>evI fs sp bar (.loop c) s
  | r=>r):=by
 apply Option.ext
 intro r
 rw [zba hs]
 constructor
 ·intro ⟨n,hn⟩
  cases n with
  | zero=>simp [ev,zk8] at hn
  | succ n =>
   simp only [ev,zk8] at hn
   split at hn
   ·rename_i τ h1
    rw [(zba hs).2 ⟨n+1,h1⟩]
    refine (zba hs).2 ⟨n+1,?_⟩
    simp only [ev]
    exact zl4 (fun _ _ h=>h) n (n+1) τ r (by omega) hn
   ·rename_i h1
    rw [(zba hs).2 ⟨n+1,hn⟩]
    split
    ·rename_i τ hq;cases hq;exact absurd hn (h1 τ)
    ·rfl
 ·intro h
  split at h
  ·rename_i τ h1
   obtain ⟨n,hn⟩:=(zba hs).1 h1
   obtain ⟨m,hm⟩:=(zba hs).1 h
   refine ⟨max n m+1,?_⟩
   simp only [ev,zk8]
   rw [zB7 hs bar c s n (max n m+1) _ (by omega) hn]
   simp only [ev] at hm
   exact zl4 (fun s r=>zle (zeH hs m (max n m+1) bar (by omega)) (by omega) c s r) m (max n m) τ r (by omega) hm
  ·rename_i h1
   obtain ⟨n,hn⟩:=(zba hs).1 h
   refine ⟨n+1,?_⟩
   simp only [ev,zk8]
   rw [zB7 hs bar c s n (n+1) _ (by omega) hn]
   split
   ·rename_i τ hq;cases hq;exact absurd h (h1 τ)
   ·rfl
theorem zjD (hs:zbQ sp) {bar F as H r}:zDD fs sp bar F as H=some r↔ ∃ n,zxn (run fs sp n bar) n bar F as H=some r:=by
 simp only [zDD,zxn]
 cases hb:Nat.beq as.length F.np<;>simp only [cond_true,cond_false]
 ·simp
 ·constructor
  ·intro h
   split at h
   ·rename_i s h1;obtain ⟨n,hn⟩:=(zba hs).1 h1;exact ⟨n,by rw [hn];exact h⟩
   ·rename_i s h1;obtain ⟨n,hn⟩:=(zba hs).1 h1;exact ⟨n,by rw [hn];exact h⟩
   ·rename_i v s h1;obtain ⟨n,hn⟩:=(zba hs).1 h1;exact ⟨n,by rw [hn];exact h⟩
   ·cases h
  ·intro ⟨n,h⟩
   split at h
   ·rename_i s h1;rw [(zba hs).2 ⟨n,h1⟩];exact h
   ·rename_i s h1;rw [(zba hs).2 ⟨n,h1⟩];exact h
   ·rename_i v s h1;rw [(zba hs).2 ⟨n,h1⟩];exact h
   ·cases h
theorem zjF {n0:Nat} {H:Heap} {x:Option (Out×Heap)} {r}:zeE n0 H x=some r↔ ∃ q,x=some q∧zeE n0 H (some q)=some r:=by
 cases x with
 | none=>simp [zeE]
 | some q=>simp
theorem zxk (hs:zbQ sp) {f:Nat} {F:AFunc} (hf:fs f=some F) (bar:Nat) (as:List AV) (H:Heap):Rn fs sp bar f as H =
  bif F.pure then (bif zcI as then zeE 0 H (zDD fs sp 0 F as []) else zeE H.length H (zDD fs sp H.length F as H)) else zDD fs sp bar F as H:=by
 apply Option.ext
 intro r
 rw [zhh hs]
 have key:(∃ n,run fs sp n bar f as H=some r)↔ ∃ n,run fs sp (n+1) bar f as H=some r:=by
  constructor
  ·intro ⟨n,hn⟩;exact ⟨n,zuS hs bar f as H n (n+1) r (by omega) hn⟩
  ·intro ⟨n,hn⟩;exact ⟨_,hn⟩
 rw [key]
 simp only [run,hf]
 cases F.pure<;>simp only [cond_true,cond_false]
 ·rw [zjD hs]
 ·cases zcI as<;>simp only [cond_true,cond_false]
  ·rw [zjF]
   constructor
   ·intro ⟨n,hn⟩
    obtain ⟨q,h1,h2⟩:=zjF.1 hn
    exact ⟨q,(zjD hs).2 ⟨n,h1⟩,h2⟩
   ·intro ⟨q,h1,h2⟩
    obtain ⟨n,hn⟩:=(zjD hs).1 h1
    exact ⟨n,by rw [hn];exact h2⟩
  ·rw [zjF]
   constructor
   ·intro ⟨n,hn⟩
    obtain ⟨q,h1,h2⟩:=zjF.1 hn
    exact ⟨q,(zjD hs).2 ⟨n,h1⟩,h2⟩
   ·intro ⟨q,h1,h2⟩
    obtain ⟨n,hn⟩:=(zjD hs).1 h1
    exact ⟨n,by rw [hn];exact h2⟩
theorem zuI (hs:zbQ sp) {f:Nat} (hf:fs f=none) (bar:Nat) (as:List AV) (H:Heap):Rn fs sp bar f as H=limit fun n=>sp n (run fs sp n) bar f as H:=by
 have hm:Mono fun n=>sp n (run fs sp n) bar f as H:=fun n m a l e=>hs n m _ _ bar l (fun b=>zeH hs n m b l) f as H a e
 apply Option.ext
 intro r
 rw [zhh hs,zfU hm]
 constructor
 ·intro ⟨n,hn⟩
  cases n with
  | zero=>cases hn
  | succ n=>simp only [run,hf] at hn;exact ⟨n,hn⟩
 ·intro ⟨n,hn⟩
  exact ⟨n+1,by simp only [run,hf];exact hn⟩
end
end Go.Ak
namespace Go.Ak
def zlJ:Nat→Nat→Nat→List Nat
 | 0,_,_=> []
 | n+1,t,m=>bif Nat.beq m 0 then [] else bif Nat.beq (m%2) 1 then t::zlJ n (t+1) (m/2) else zlJ n (t+1) (m/2)
def mkE (m:Nat) (v:Nat→AV):List (Nat×AV):=(zlJ m 0 m).map fun t=>(t,v t)
def st (v:Nat→AV) (t:Nat) (a:AV):Nat→AV:=fun u=>if u=t then a else v u
def noV:Nat→AV:=fun _=> .undef
theorem zhi (v:Nat→AV) (t:Nat) (a:AV) (u:Nat):st v t a u=if u=t then a else v u:=rfl
theorem zgh (a b:Nat):Nat.beq a b=decide (a=b):=by
 cases h:Nat.beq a b
 ·exact (decide_eq_false (Nat.ne_of_beq_eq_false h)).symm
 ·exact (decide_eq_true (Nat.eq_of_beq_eq_true h)).symm
theorem zqB (a b:Nat):Nat.ble a b=decide (a≤b):=by
 cases h:Nat.ble a b
 ·exact (decide_eq_false (fun k=>by rw [Nat.ble_eq_true_of_le k] at h;cases h)).symm
 ·exact (decide_eq_true (Nat.le_of_ble_eq_true h)).symm
theorem zqA (a b:Nat):Nat.blt a b=decide (a<b):=by
 unfold Nat.blt;rw [zqB];rfl
theorem zbm (k:Nat) (a:AV) (r:List (Nat×AV)) (t:Nat):look ((k,a)::r) t=if k=t then a else look r t:=by
 simp only [look,zgh];by_cases h:k=t<;>simp [h]
theorem zbS (k:Nat) (r:List Nat) (t:Nat):ver (k::r) t=if k=t then ver r t+1 else ver r t:=by
 simp only [ver,zgh];by_cases h:k=t<;>simp [h]
theorem zp3: ∀ (n t m u:Nat),u∈zlJ n t m→t≤u
 | 0,_,_,_,h=>by simp [zlJ] at h
 | n+1,t,m,u,h=>by
  simp only [zlJ] at h
  cases h0:Nat.beq m 0<;>rw [h0] at h<;>simp only [cond_true,cond_false] at h
  ·cases h1:Nat.beq (m%2) 1<;>rw [h1] at h<;>simp only [cond_true,cond_false] at h
   ·have:=zp3 n _ _ u h;omega
   ·rcases List.mem_cons.1 h with e | h
    ·omega
    ·have:=zp3 n _ _ u h;omega
  ·cases h
theorem zvg (v:Nat→AV): ∀ (l:List Nat) (t:Nat),look (l.map fun t=>(t,v t)) t=if t∈l then v t else .undef
 | [],_=>by simp [look]
 | k::l,t=>by
  rw [List.map_cons,zbm,zvg v l t]
  by_cases h:k=t
  ·subst h;simp
  ·have: ¬ t=k:=fun e=>h e.symm
   simp [h,this]
theorem zrL: ∀ (n t m u:Nat),m<2^n→(u∈zlJ n t m↔t≤u∧(m >>> (u-t))%2=1)
 | 0,t,m,u,h=>by
  have:m=0:=by simpa using h
  subst this;simp [zlJ]
 | n+1,t,m,u,h=>by
  simp only [zlJ,zgh]
  by_cases h0:m=0
  ·subst h0;simp
  ·have hd:m/2<2^n:=by rw [Nat.pow_succ] at h;omega
   have ih:=zrL n (t+1) (m/2) u hd
   have hsh: ∀ k,(m/2) >>> k=m >>> (k+1):=fun k=>by
    rw [Nat.shiftRight_eq_div_pow,Nat.shiftRight_eq_div_pow,Nat.div_div_eq_div_mul,Nat.pow_succ,Nat.mul_comm]
   rw [hsh] at ih
   by_cases hu:u=t
   ·subst hu
    have: ¬ u+1≤u:=by omega
    simp only [this,false_and,iff_false] at ih
    by_cases h1:m%2=1<;>simp [h0,h1,ih]
   ·by_cases hl:t≤u
    ·have e:u-(t+1)+1=u-t:=by omega
     rw [e] at ih
     have hl':t+1≤u:=by omega
     simp only [hl',true_and] at ih
     by_cases h1:m%2=1<;>simp [h0,h1,ih,hu,hl]
    ·have hl': ¬ t+1≤u:=by omega
     simp only [hl',false_and,iff_false] at ih
     by_cases h1:m%2=1<;>simp [h0,h1,ih,hu,hl]
theorem zbW (m:Nat) (v:Nat→AV) (t:Nat):look (mkE m v) t=if (m >>> t)%2=1 then v t else .undef:=by
 unfold mkE
 rw [zvg]
 have:=zrL m 0 m t Nat.lt_two_pow_self
 simp only [Nat.zero_le,true_and,Nat.sub_zero] at this
 simp only [this]
theorem zi2: ∀ (n t m:Nat),(zlJ n t m).Nodup
 | 0,_,_=>by simp [zlJ]
 | n+1,t,m=>by
  simp only [zlJ]
  cases h0:Nat.beq m 0<;>simp only [cond_true,cond_false]
  ·cases h1:Nat.beq (m%2) 1<;>simp only [cond_true,cond_false]
   ·exact zi2 n _ _
   ·exact List.nodup_cons.2 ⟨fun h=>by have:=zp3 _ _ _ _ h;omega,zi2 n _ _⟩
  ·simp
theorem zxt (v:Nat→AV) (t:Nat) (a:AV): ∀ (l:List Nat),l.Nodup→upd (l.map fun t=>(t,v t)) t a=l.map fun u=>(u,st v t a u)
 | [],_=>rfl
 | k::l,h=>by
  obtain ⟨h1,h2⟩:=List.nodup_cons.1 h
  simp only [List.map_cons,upd,zgh]
  by_cases e:k=t
  ·subst e
   have:(l.map fun u=>(u,st v k a u))=l.map fun u=>(u,v u):=List.map_congr_left fun u hu=>by
    have:u≠k:=fun e=>h1 (e▸hu)
    simp [st,this]
   rw [this];simp [st]
  ·simp [e,st,zxt v t a l h2]
theorem zcT (m:Nat) (v:Nat→AV) (t:Nat) (a:AV):upd (mkE m v) t a=mkE m (st v t a):=zxt v t a _ (zi2 _ _ _)
section
variable {fs:Nat→Option AFunc} {sp:Nat→(Nat→CallF)→Nat→CallF} {hs:zbQ sp} {bar:Nat}
def Wp (x:Option (AExit×EH)) (Q:AExit→EH→Prop):Prop:= ∃ e s,x=some (e,s)∧Q e s
theorem Wp.mono {x:Option (AExit×EH)} {Q R:AExit→EH→Prop} (h:Wp x Q) (k: ∀ e s,Q e s→R e s):Wp x R:=by
 obtain ⟨e,s,h1,h2⟩:=h;exact ⟨e,s,h1,k e s h2⟩
theorem zbh {e:AExit} {s:EH} {Q:AExit→EH→Prop}:Wp (some (e,s)) Q↔Q e s:=by
 constructor
 ·intro ⟨e',s',h1,h2⟩;cases h1;exact h2
 ·intro h;exact ⟨e,s,rfl,h⟩
theorem zia {Q:AExit→EH→Prop}:Wp none Q↔False:=by
 constructor
 ·intro ⟨_,_,h,_⟩;cases h
 ·exact False.elim
def andThen (f:EH→Option (AExit×EH)) (Q:AExit→EH→Prop) (e:AExit) (s:EH):Prop :=
 match e with
 | .norm=>Wp (f s) Q
 | e=>Q e s
def zmy (id:Nat) (Q:AExit→EH→Prop) (e:AExit) (s:EH):Prop :=
 match e with
 | .exit i=>if i=id then Q .norm s else Q (.exit i) s
 | e=>Q e s
variable (hs)
theorem zda {s:EH} {Q}:Wp (evI fs sp bar .skip s) Q↔Q .norm s:=by rw [zbN,zbh]
theorem zdb {id:Nat} {s:EH} {Q}:Wp (evI fs sp bar (.exit id) s) Q↔Q (.exit id) s:=by rw [zB9,zbh]
theorem zeJ {s:EH} {Q}:Wp (evI fs sp bar .ret s) Q↔Q .ret s:=by rw [zGI,zbh]
include hs in
theorem zad {a b:ACode} {s:EH} {Q}:Wp (evI fs sp bar (.seq a b) s) Q↔Wp (evI fs sp bar a s) (andThen (evI fs sp bar b) Q):=by
 rw [zGH hs]
 cases h:evI fs sp bar a s with
 | none=>rw [zia,zia]
 | some q =>
  obtain ⟨e,s'⟩:=q
  rw [zbh]
  cases e<;>simp only [andThen]
  all_goals rw [zbh]
include hs in
theorem zab {id:Nat} {c:ACode} {s:EH} {Q}:Wp (evI fs sp bar (.block id c) s) Q↔Wp (evI fs sp bar c s) (zmy id Q):=by
 rw [zyM hs]
 cases h:evI fs sp bar c s with
 | none=>rw [zia,zia]
 | some q =>
  obtain ⟨e,s'⟩:=q
  rw [zbh]
  cases e<;>simp only [zmy]
  case exit i =>
   simp only [zgh]
   by_cases h:i=id<;>simp [h,zbh]
  all_goals rw [zbh]
include hs in
theorem zHW {c:ACode} {s:EH} {Q}:Wp (evI fs sp bar (.loop c) s) Q↔Wp (evI fs sp bar c s) (andThen (evI fs sp bar (.loop c)) Q):=by
 rw [zB8 hs]
 cases h:evI fs sp bar c s with
 | none=>rw [zia,zia]
 | some q =>
  obtain ⟨e,s'⟩:=q
  rw [zbh]
  cases e<;>simp only [andThen]
  all_goals rw [zbh]
include hs in
theorem zah {c b:ACode} (h:c=b) {s:EH} {Q}:Wp (evI fs sp bar (.loop c) s) Q↔Wp (evI fs sp bar b s) (andThen (evI fs sp bar (.loop c)) Q):=by
 subst h;exact zHW hs
include hs in
theorem zac {clr:Bool} {t:Nat} {x y:ACode} {m:Nat} {v:Nat→AV} {H:Heap} {Q} {b:Bool} (hb:look (mkE m v) t= .bool b):Wp (evI fs sp bar (.cond clr (.v t) x y) (mkE m v,H)) Q ↔
  Wp (evI fs sp bar (bif b then x else y) (mkE m (bif clr then st v t .undef else v),H)) Q:=by
 rw [zCb hs]
 simp only [zw0,hb]
 cases clr<;>cases b<;>simp [zcT]
def Ws (x:Option (AExit×St)) (Q:AExit→EH→Prop):Prop:= ∃ e σ,x=some (e, σ)∧Q e (σ.env, σ.H)
theorem zcO {e:AExit} {σ:St} {Q:AExit→EH→Prop}:Ws (some (e, σ)) Q↔Q e (σ.env, σ.H):=by
 constructor
 ·intro ⟨e',s',h1,h2⟩;cases h1;exact h2
 ·intro h;exact ⟨e, σ,rfl,h⟩
theorem zAZ {Q:AExit→EH→Prop}:Ws none Q↔False:=by
 constructor
 ·intro ⟨_,_,h,_⟩;cases h
 ·exact False.elim
include hs in
theorem zaa {ops:List AStep} {E:List (Nat×AV)} {H:Heap} {Q}:Wp (evI fs sp bar (.region ops) (E,H)) Q↔Ws (zaN (Rn fs sp bar) bar ops ⟨E,[],[],H⟩) Q:=by
 rw [zwW hs]
 cases h:zaN (Rn fs sp bar) bar ops ⟨E,[],[],H⟩ with
 | none=>rw [zia,zAZ]
 | some q=>obtain ⟨e, σ⟩:=q;rw [zbh,zcO]
include hs in
theorem zai {p:Plan} {E:List (Nat×AV)} {H:Heap} {Q}:Wp (evI fs sp bar (.draw p) (E,H)) Q↔Ws (zaL (Rn fs sp bar) bar p ⟨E,[],[],H⟩) Q:=by
 rw [zCa hs]
 cases h:zaL (Rn fs sp bar) bar p ⟨E,[],[],H⟩ with
 | none=>rw [zia,zAZ]
 | some q=>obtain ⟨e, σ⟩:=q;rw [zbh,zcO]
theorem zaE {f:EH→Option (AExit×EH)} {Q} {s:EH}:andThen f Q .norm s↔Wp (f s) Q:=Iff.rfl
theorem zaX {f:EH→Option (AExit×EH)} {Q} {s:EH}:andThen f Q .ret s↔Q .ret s:=Iff.rfl
theorem zaP {f:EH→Option (AExit×EH)} {Q} {i:Nat} {s:EH}:andThen f Q (.exit i) s↔Q (.exit i) s:=Iff.rfl
theorem zaY {f:EH→Option (AExit×EH)} {Q} {a:AV} {s:EH}:andThen f Q (.pan a) s↔Q (.pan a) s:=Iff.rfl
theorem zbg {id:Nat} {Q:AExit→EH→Prop} {s:EH}:zmy id Q .norm s↔Q .norm s:=Iff.rfl
theorem zbv {id:Nat} {Q:AExit→EH→Prop} {s:EH}:zmy id Q .ret s↔Q .ret s:=Iff.rfl
theorem zbw {id:Nat} {Q:AExit→EH→Prop} {a:AV} {s:EH}:zmy id Q (.pan a) s↔Q (.pan a) s:=Iff.rfl
theorem za9 {id:Nat} {Q:AExit→EH→Prop} {i:Nat} {s:EH}:zmy id Q (.exit i) s↔if i=id then Q .norm s else Q (.exit i) s:=Iff.rfl
def fin (res:List ARes) (Q:Out→Heap→Prop) (e:AExit) (s:EH):Prop :=
 match e with
 | .norm | .ret=> ∃ v,zet s res=some v∧Q (.ret v) s.2
 | .pan v=>Q (.pan v) s.2
 | .exit _=>False
theorem zb2 {res:List ARes} {Q} {s:EH}:fin res Q .norm s↔ ∃ v,zet s res=some v∧Q (.ret v) s.2:=Iff.rfl
theorem zc7 {res:List ARes} {Q} {s:EH}:fin res Q .ret s↔ ∃ v,zet s res=some v∧Q (.ret v) s.2:=Iff.rfl
theorem zc8 {res:List ARes} {Q} {s:EH} {v:AV}:fin res Q (.pan v) s↔Q (.pan v) s.2:=Iff.rfl
def Wc (x:Option (Out×Heap)) (Q:Out→Heap→Prop):Prop:= ∃ o H,x=some (o,H)∧Q o H
theorem Wc.mono {x:Option (Out×Heap)} {Q R:Out→Heap→Prop} (h:Wc x Q) (k: ∀ e s,Q e s→R e s):Wc x R:=by
 obtain ⟨e,s,h1,h2⟩:=h;exact ⟨e,s,h1,k e s h2⟩
theorem znX {x:Option (Out×Heap)} {o:Out} {H:Heap}:Wc x (fun p K=>p=o∧K=H)↔x=some (o,H):=by
 constructor
 ·intro ⟨p,K,h,h1,h2⟩;subst h1 h2;exact h
 ·intro h;exact ⟨o,H,h,rfl,rfl⟩
theorem zpv {F:AFunc} {as:List AV} {H:Heap} {Q} (hn:Nat.beq as.length F.np=true) (h:Wp (evI fs sp bar F.body (zaw F.vars as,H)) (fin F.res Q)):Wc (zDD fs sp bar F as H) Q:=by
 obtain ⟨e,s,h1,h2⟩:=h
 simp only [zDD,hn,cond_true,h1]
 cases e with
 | norm=>obtain ⟨v,h3,h4⟩:=h2;simp only [h3];exact ⟨_,_,rfl,h4⟩
 | ret=>obtain ⟨v,h3,h4⟩:=h2;simp only [h3];exact ⟨_,_,rfl,h4⟩
 | pan v=>exact ⟨_,_,rfl,h2⟩
 | exit i=>exact h2.elim
include hs in
theorem zbf {f:Nat} {F:AFunc} (hf:fs f=some F) {as:List AV} {H:Heap} {Q} (hp:F.pure=false) (hn:Nat.beq as.length F.np=true) (h:Wp (evI fs sp bar F.body (zaw F.vars as,H)) (fin F.res Q)):Wc (Rn fs sp bar f as H) Q:=by
 rw [zxk hs hf,hp]
 exact zpv hn h
def thaw (n0:Nat) (Q:Out→Prop) (o:Out) (H:Heap):Prop :=
 match o with
 | .ret v=> ∃ u,frz n0 H v=some u∧Q (.ret u)
 | .pan v=> ∃ u,frz n0 H v=some u∧Q (.pan u)
theorem zbT {n0:Nat} {Q:Out→Prop} {v:AV} {H:Heap}:thaw n0 Q (.ret v) H↔ ∃ u,frz n0 H v=some u∧Q (.ret u):=Iff.rfl
theorem zbU {n0:Nat} {Q:Out→Prop} {v:AV} {H:Heap}:thaw n0 Q (.pan v) H↔ ∃ u,frz n0 H v=some u∧Q (.pan u):=Iff.rfl
theorem zu6 {n0:Nat} {H:Heap} {x:Option (Out×Heap)} {Q:Out→Prop} (h:Wc x (thaw n0 Q)):Wc (zeE n0 H x) (fun o K=>Q o∧K=H):=by
 obtain ⟨o,K,h1,h2⟩:=h
 subst h1
 cases o with
 | ret v=>obtain ⟨u,h3,h4⟩:=h2;exact ⟨.ret u,H,by simp only [zeE,h3],h4,rfl⟩
 | pan v=>obtain ⟨u,h3,h4⟩:=h2;exact ⟨.pan u,H,by simp only [zeE,h3],h4,rfl⟩
include hs in
theorem zA0 {f:Nat} {F:AFunc} (hf:fs f=some F) {as:List AV} {H:Heap} {Q} (hp:F.pure=true) (hc:zcI as=true) (hn:Nat.beq as.length F.np=true) (h:Wp (evI fs sp 0 F.body (zaw F.vars as,[])) (fin F.res (thaw 0 Q))) :
  Wc (Rn fs sp bar f as H) (fun o K=>Q o∧K=H):=by
 rw [zxk hs hf,hp,hc]
 exact zu6 (zpv hn h)
include hs in
theorem zvY {f:Nat} {F:AFunc} (hf:fs f=some F) {as:List AV} {H:Heap} {Q} (hp:F.pure=true) (hc:zcI as=false) (hn:Nat.beq as.length F.np=true) (h:Wp (evI fs sp H.length F.body (zaw F.vars as,H)) (fin F.res (thaw H.length Q))) :
  Wc (Rn fs sp bar f as H) (fun o K=>Q o∧K=H):=by
 rw [zxk hs hf,hp,hc]
 exact zu6 (zpv hn h)
include hs in
theorem zan {f:Nat} {F:AFunc} (hf:fs f=some F) {as:List AV} {H:Heap} {r:AV} (hp:F.pure=true) (hc:zcI as=true) (hn:Nat.beq as.length F.np=true) (h:Wp (evI fs sp 0 F.body (zaw F.vars as,[])) (fin F.res (thaw 0 (· = .ret r)))) :
  Rn fs sp bar f as H=some (.ret r,H):=znX.1 (zA0 hs hf hp hc hn h)
include hs in
theorem zeN {f:Nat} {F:AFunc} (hf:fs f=some F) {as:List AV} {H:Heap} {r:AV} (hp:F.pure=true) (hc:zcI as=false) (hn:Nat.beq as.length F.np=true) (h:Wp (evI fs sp H.length F.body (zaw F.vars as,H)) (fin F.res (thaw H.length (· = .ret r)))) :
  Rn fs sp bar f as H=some (.ret r,H):=znX.1 (zvY hs hf hp hc hn h)
end
theorem zak (n:Int) (h: -9223372036854775808≤n∧n≤9223372036854775807):IntKind.i64.wrap n=n:=by
 have h1:(2:Int)^64=18446744073709551616:=by decide
 have h2:(2:Int)^63=9223372036854775808:=by decide
 simp only [IntKind.wrap,IntKind.bits,IntKind.signed,h1,h2,Bool.true_and,decide_eq_true_eq,Nat.reduceSub]
 split<;>omega
theorem zbY (sz:Nat):zjM sz []=true:=rfl
theorem zbx (sz:Nat) (e:AV) (l:List AV):zjM sz (e::l)=Nat.beq e.cells.length (step sz):=rfl
theorem zb1 (n:Nat) (H:Heap) (b:Bool):frz n H (.bool b)=some (.bool b):=by simp [frz]
theorem zc6 (n:Nat) (H:Heap) (k:IntKind) (i:Int):frz n H (.int k i)=some (.int k i):=by simp [frz]
theorem zc5 (n:Nat) (H:Heap) (s:List UInt8):frz n H (.str s)=some (.str s):=by simp [frz]
theorem zbZ (n:Nat) (H:Heap):frz n H .nils=some .nils:=by simp [frz]
theorem zb0 (n:Nat) (H:Heap):frz n H .nilp=some .nilp:=by simp [frz]
def hget (H:Heap) (i:Nat):Option (Option (List AV)):=H[i]?
theorem zc4 (H:Heap) (i:Nat):H[i]? = hget H i:=rfl
theorem zau {H:Heap} {i:Nat} {x:Option (List AV)} (h:hget H i=some x):i<H.length:=(List.getElem?_eq_some_iff.1 h).1
theorem zbe {H:Heap} {i:Nat} (l:Heap) (h:i<H.length):hget (H++l) i=hget H i:=List.getElem?_append_left h
theorem zbd (H:Heap) (x:Option (List AV)):hget (H ++ [x]) H.length=some x:=by simp [hget]
theorem zjK (H:Heap) (x:Option (List AV)) (n:Nat) (h:n=H.length):hget (H ++ [x]) n=some x:=by subst h;exact zbd H x
theorem zay {H:Heap} {i k:Nat} (x:Option (List AV)) (h:i≠k):hget (H.set i x) k=hget H k:=List.getElem?_set_ne h
theorem zae {H:Heap} {i:Nat} (x:Option (List AV)) (h:i<H.length):hget (H.set i x) i=some x:=List.getElem?_set_self h
theorem zaB (a:Option (List AV)) (l:Heap):hget (a::l) 0=some a:=rfl
theorem zaC (a:Option (List AV)) (l:Heap) (n:Nat):hget (a::l) (n+1)=hget l n:=rfl
theorem zbX (n:Nat):hget [] n=none:=by simp [hget]
abbrev num (n:Nat):AV:= .int .i64 n
end Go.Ak
namespace Go.Ak
theorem zJp (x0 x1:AV):zaw a156.vars [x0,x1]=mkE 8390643 (st (st noV 0 x0) 1 x1):=rfl
theorem env8 (x0:AV):zaw a8.vars [x0]=mkE 61 (st noV 0 x0):=rfl
theorem env19:zaw a19.vars []=mkE 4159 noV:=rfl
theorem zlB (x0 x1:AV):zaw a157.vars [x0,x1]=mkE 2233384077299 (st (st noV 0 x0) 1 x1):=rfl
theorem zoK (x0 x1:AV):zaw a158.vars [x0,x1]=mkE 9223935021302439923 (st (st noV 0 x0) 1 x1):=rfl
theorem zJu (x0 x1:AV):zaw a147.vars [x0,x1]=mkE 33571891 (st (st noV 0 x0) 1 x1):=rfl
theorem env14 (x0:AV):zaw a14.vars [x0]=mkE 269484285 (st noV 0 x0):=rfl
theorem env38 (x0:AV):zaw a38.vars [x0]=mkE 7 (st noV 0 x0):=rfl
theorem env10 (x0:AV):zaw a10.vars [x0]=mkE 33620477 (st noV 0 x0):=rfl
theorem env20 (x0 x1 x2:AV):zaw a20.vars [x0,x1,x2]=mkE 711 (st (st (st noV 0 x0) 1 x1) 2 x2):=rfl
theorem zJo (x0:AV):zaw a180.vars [x0]=mkE 5 (st noV 0 x0):=rfl
theorem zJr (x0 x1:AV):zaw a153.vars [x0,x1]=mkE 34051443 (st (st noV 0 x0) 1 x1):=rfl
theorem zJn (x0:AV):zaw a183.vars [x0]=mkE 8610907197 (st noV 0 x0):=rfl
theorem zJt (x0 x1:AV):zaw a148.vars [x0,x1]=mkE 4295494135 (st (st noV 0 x0) 1 x1):=rfl
theorem zJi (x0 x1:AV):zaw a95.vars [x0,x1]=mkE 115 (st (st noV 0 x0) 1 x1):=rfl
theorem zJv (x0 x1:AV):zaw a143.vars [x0,x1]=mkE 140737622837239 (st (st noV 0 x0) 1 x1):=rfl
theorem env44 (x0:AV):zaw a44.vars [x0]=mkE 1049213 (st noV 0 x0):=rfl
theorem env45 (x0:AV):zaw a45.vars [x0]=mkE 1103 (st noV 0 x0):=rfl
theorem env63 (x0:AV):zaw a63.vars [x0]=mkE 7 (st noV 0 x0):=rfl
theorem env34 (x0:AV):zaw a34.vars [x0]=mkE 2367 (st noV 0 x0):=rfl
theorem env42 (x0:AV):zaw a42.vars [x0]=mkE 39 (st noV 0 x0):=rfl
theorem env47 (x0 x1 x2:AV):zaw a47.vars [x0,x1,x2]=mkE 64455 (st (st (st noV 0 x0) 1 x1) 2 x2):=rfl
theorem zJm (x0:AV):zaw a193.vars [x0]=mkE 5 (st noV 0 x0):=rfl
theorem zDR (x0 x1:AV):zaw a104.vars [x0,x1]=mkE 4339 (st (st noV 0 x0) 1 x1):=rfl
theorem env46 (x0 x1:AV):zaw a46.vars [x0,x1]=mkE 22847157054575562436918159888043788588013600759 (st (st noV 0 x0) 1 x1):=rfl
theorem zJs (x0 x1:AV):zaw a152.vars [x0,x1]=mkE 4202995 (st (st noV 0 x0) 1 x1):=rfl
theorem env69 (x0 x1:AV):zaw a69.vars [x0,x1]=mkE 8307 (st (st noV 0 x0) 1 x1):=rfl
theorem env70 (x0 x1 x2:AV):zaw a70.vars [x0,x1,x2]=mkE 2722944318552834909416890706682699579855 (st (st (st noV 0 x0) 1 x1) 2 x2):=rfl
theorem env71 (x0:AV):zaw a71.vars [x0]=mkE 2361255369402436685855 (st noV 0 x0):=rfl
theorem env85 (x0 x1 x2:AV):zaw a85.vars [x0,x1,x2]=mkE 549760008655 (st (st (st noV 0 x0) 1 x1) 2 x2):=rfl
theorem env86 (x0 x1:AV):zaw a86.vars [x0,x1]=mkE 2099 (st (st noV 0 x0) 1 x1):=rfl
theorem env57 (x0:AV):zaw a57.vars [x0]=mkE 39 (st noV 0 x0):=rfl
theorem env59 (x0 x1 x2:AV):zaw a59.vars [x0,x1,x2]=mkE 19343108262865700173913047 (st (st (st noV 0 x0) 1 x1) 2 x2):=rfl
theorem zJl (x0 x1:AV):zaw a58.vars [x0,x1]=mkE 27 (st (st noV 0 x0) 1 x1):=rfl
theorem env65 (x0 x1 x2:AV):zaw a65.vars [x0,x1,x2]=mkE 1267650600670987429023578062959 (st (st (st noV 0 x0) 1 x1) 2 x2):=rfl
theorem env66 (x0:AV):zaw a66.vars [x0]=mkE 263952017659567 (st noV 0 x0):=rfl
theorem env51 (x0 x1:AV):zaw a51.vars [x0,x1]=mkE 51 (st (st noV 0 x0) 1 x1):=rfl
theorem env48 (x0 x1:AV):zaw a48.vars [x0,x1]=mkE 141287244171507 (st (st noV 0 x0) 1 x1):=rfl
theorem env123 (x0 x1:AV):zaw a123.vars [x0,x1]=mkE 19 (st (st noV 0 x0) 1 x1):=rfl
theorem env43 (x0 x1 x2:AV):zaw a43.vars [x0,x1,x2]=mkE 2148535239 (st (st (st noV 0 x0) 1 x1) 2 x2):=rfl
theorem env72 (x0:AV):zaw a72.vars [x0]=mkE 159 (st noV 0 x0):=rfl
theorem env73 (x0 x1:AV):zaw a73.vars [x0,x1]=mkE 73022850035 (st (st noV 0 x0) 1 x1):=rfl
theorem env74 (x0 x1:AV):zaw a74.vars [x0,x1]=mkE 4202995 (st (st noV 0 x0) 1 x1):=rfl
theorem env75 (x0:AV):zaw a75.vars [x0]=mkE 4785353776964093 (st noV 0 x0):=rfl
theorem zJq (x0:AV):zaw a155.vars [x0]=mkE 16669 (st noV 0 x0):=rfl
theorem env92 (x0 x1:AV):zaw a92.vars [x0,x1]=mkE 33554547 (st (st noV 0 x0) 1 x1):=rfl
theorem zJj (x0:AV):zaw a93.vars [x0]=mkE 524293 (st noV 0 x0):=rfl
theorem env3 (x0 x1:AV):zaw a3.vars [x0,x1]=mkE 2392674742044787 (st (st noV 0 x0) 1 x1):=rfl
theorem env87 (x0 x1:AV):zaw a87.vars [x0,x1]=mkE 67109107 (st (st noV 0 x0) 1 x1):=rfl
theorem zJk (x0 x1:AV):zaw a88.vars [x0,x1]=mkE 262259 (st (st noV 0 x0) 1 x1):=rfl
theorem zGJ (x0 x1:AV):zaw a89.vars [x0,x1]=mkE 70643760244403 (st (st noV 0 x0) 1 x1):=rfl
theorem env81 (x0:AV):zaw a81.vars [x0]=mkE 7 (st noV 0 x0):=rfl
theorem env82 (x0:AV):zaw a82.vars [x0]=mkE 584262617007 (st noV 0 x0):=rfl
theorem env83 (x0 x1 x2:AV):zaw a83.vars [x0,x1,x2]=mkE 126102713711727575 (st (st (st noV 0 x0) 1 x1) 2 x2):=rfl
theorem env91 (x0 x1:AV):zaw a91.vars [x0,x1]=mkE 19 (st (st noV 0 x0) 1 x1):=rfl
theorem env90 (x0 x1 x2:AV):zaw a90.vars [x0,x1,x2]=mkE 31 (st (st (st noV 0 x0) 1 x1) 2 x2):=rfl
theorem env76 (x0 x1:AV):zaw a76.vars [x0,x1]=mkE 19 (st (st noV 0 x0) 1 x1):=rfl
theorem env35 (x0 x1 x2:AV):zaw a35.vars [x0,x1,x2]=mkE 199 (st (st (st noV 0 x0) 1 x1) 2 x2):=rfl
theorem zJW (x0 x1:AV):zaw a101.vars [x0,x1]=mkE 98735055699304187507286263408835596128243 (st (st noV 0 x0) 1 x1):=rfl
theorem zDS (x0 x1:AV):zaw a102.vars [x0,x1]=mkE 4874663954868102531948795 (st (st noV 0 x0) 1 x1):=rfl
theorem zJh (x0:AV):zaw a98.vars [x0]=mkE 8205 (st noV 0 x0):=rfl
theorem env99 (x0 x1:AV):zaw a99.vars [x0,x1]=mkE 76677619 (st (st noV 0 x0) 1 x1):=rfl
theorem zJX (x0 x1:AV):zaw a100.vars [x0,x1]=mkE 66483 (st (st noV 0 x0) 1 x1):=rfl
theorem env37 (x0 x1 x2 x3:AV):zaw a37.vars [x0,x1,x2,x3]=mkE 2379663764704762803983 (st (st (st (st noV 0 x0) 1 x1) 2 x2) 3 x3):=rfl
theorem env60 (x0 x1:AV):zaw a60.vars [x0,x1]=mkE 3 (st (st noV 0 x0) 1 x1):=rfl
theorem zDQ (x0 x1 x2:AV):zaw a107.vars [x0,x1,x2]=mkE 1031 (st (st (st noV 0 x0) 1 x1) 2 x2):=rfl
theorem zJT (x0 x1:AV):zaw a108.vars [x0,x1]=mkE 240225565480938577807985484469345695599948758954541043 (st (st noV 0 x0) 1 x1):=rfl
theorem zJS (x0:AV):zaw a109.vars [x0]=mkE 13 (st noV 0 x0):=rfl
theorem zJR:zaw a110.vars []=mkE 1 noV:=rfl
theorem zJQ (x0:AV):zaw a111.vars [x0]=mkE 137439019037 (st noV 0 x0):=rfl
theorem zJV (x0 x1:AV):zaw a105.vars [x0,x1]=mkE 723267678280255871351330443251 (st (st noV 0 x0) 1 x1):=rfl
theorem zJU (x0 x1:AV):zaw a106.vars [x0,x1]=mkE 549758435827 (st (st noV 0 x0) 1 x1):=rfl
theorem env61 (x0 x1 x2 x3:AV):zaw a61.vars [x0,x1,x2,x3]=mkE 39614082438300250541364643599 (st (st (st (st noV 0 x0) 1 x1) 2 x2) 3 x3):=rfl
theorem env62 (x0 x1:AV):zaw a62.vars [x0,x1]=mkE 23 (st (st noV 0 x0) 1 x1):=rfl
theorem zJJ (x0 x1:AV):zaw a119.vars [x0,x1]=mkE 275 (st (st noV 0 x0) 1 x1):=rfl
theorem zf0 (x0 x1:AV):zaw a120.vars [x0,x1]=mkE 83402540892580794972557710289011187 (st (st noV 0 x0) 1 x1):=rfl
theorem zJI (x0 x1:AV):zaw a121.vars [x0,x1]=mkE 10486899 (st (st noV 0 x0) 1 x1):=rfl
theorem zJH (x0:AV):zaw a122.vars [x0]=mkE 1048735 (st noV 0 x0):=rfl
theorem zJP (x0 x1 x2:AV):zaw a113.vars [x0,x1,x2]=mkE 7 (st (st (st noV 0 x0) 1 x1) 2 x2):=rfl
theorem zJO (x0 x1:AV):zaw a114.vars [x0,x1]=mkE 2342153315636223987 (st (st noV 0 x0) 1 x1):=rfl
theorem zJN (x0:AV):zaw a115.vars [x0]=mkE 7 (st noV 0 x0):=rfl
theorem zJL (x0:AV):zaw a117.vars [x0]=mkE 5 (st noV 0 x0):=rfl
theorem zJM (x0:AV):zaw a116.vars [x0]=mkE 369100829 (st noV 0 x0):=rfl
theorem zJK (x0:AV):zaw a118.vars [x0]=mkE 16777981 (st noV 0 x0):=rfl
theorem env84 (x0 x1:AV):zaw a84.vars [x0,x1]=mkE 23 (st (st noV 0 x0) 1 x1):=rfl
theorem zJG (x0 x1:AV):zaw a124.vars [x0,x1]=mkE 19 (st (st noV 0 x0) 1 x1):=rfl
theorem zJF (x0:AV):zaw a125.vars [x0]=mkE 328829003598998184994543613 (st noV 0 x0):=rfl
theorem zJE (x0 x1:AV):zaw a126.vars [x0,x1]=mkE 255 (st (st noV 0 x0) 1 x1):=rfl
theorem zJD (x0:AV):zaw a127.vars [x0]=mkE 63 (st noV 0 x0):=rfl
theorem zJC (x0 x1 x2:AV):zaw a128.vars [x0,x1,x2]=mkE 79 (st (st (st noV 0 x0) 1 x1) 2 x2):=rfl
theorem zJB (x0 x1:AV):zaw a133.vars [x0,x1]=mkE 19 (st (st noV 0 x0) 1 x1):=rfl
theorem zJA (x0:AV):zaw a134.vars [x0]=mkE 4221 (st noV 0 x0):=rfl
theorem zJz (x0:AV):zaw a135.vars [x0]=mkE 72103773534683229 (st noV 0 x0):=rfl
theorem zJy (x0 x1 x2:AV):zaw a136.vars [x0,x1,x2]=mkE 8399 (st (st (st noV 0 x0) 1 x1) 2 x2):=rfl
theorem zJx (x0 x1:AV):zaw a137.vars [x0,x1]=mkE 19 (st (st noV 0 x0) 1 x1):=rfl
theorem zJw (x0:AV):zaw a138.vars [x0]=mkE 89478493 (st noV 0 x0):=rfl
end Go.Ak
