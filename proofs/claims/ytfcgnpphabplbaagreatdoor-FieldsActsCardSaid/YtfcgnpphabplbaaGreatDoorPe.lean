/- The functions that the law reaches, in the evaluator's words (checked against the loaded program in another part of the claim), and the evaluator without a bound. -/
import Derived.Test.YtfcgnpphabplbaaGreatDoorPa
set_option linter.unusedVariables false
set_option linter.unusedSimpArgs false
set_option maxRecDepth 100000
namespace Go.Ak
abbrev SL:=List AStep
def kA:List AV:=[.int .i64 0,.int .u64 0,.int .u64 0,.int .u64 0,.int .u64 0,.int .i64 0,.int .i64 0,.nils]
def kB:List AV:=[.int .i64 0,.int .u64 0,.int .u64 0,.int .u64 0,.int .u64 0,.int .i64 0,.int .i64 0]
def kC:List AV:=[.int .u64 0,.int .u64 0,.int .u64 0,.int .u64 0]
def sR(l:SL)(c:ACode):ACode:=.seq (.region l) c
def sT(l:SL):ACode:=.seq (.region l) .ret
def cV(n:Nat)(a b:ACode):ACode:=.cond true (.v n) a b
def bL(n:Nat)(c:ACode):ACode:=.block n (.loop c)
def af(a b:Nat):AStep:=⟨.l a,none,.mov (.v b)⟩
def aQ(a b:Nat):AStep:=⟨.l a,none,.mov (.l b)⟩
def aJ(a g:Nat)(t:Bool)(b:Nat):AStep:=⟨.l a,some (.l g,t),.mov (.v b)⟩
def gK(a g:Nat)(t:Bool)(b:Nat):AStep:=⟨.l a,some (.l g,t),.mov (.l b)⟩
def ah(a n b:Nat):AStep:=⟨.v a,none,.asg n (.l b)⟩
def aC(a n:Nat)(k:Int):AStep:=⟨.v a,none,.asg n (.c (.int .i64 k))⟩
def dC(a n:Nat)(k:Bool):AStep:=⟨.v a,none,.asg n (.c (.bool k))⟩
def aA(a b:Nat):AStep:=⟨.l a,none,.load none (.l b)⟩
def eQ(a k b:Nat):AStep:=⟨.l a,none,.load (some k) (.v b)⟩
def iY(a k b:Nat):AStep:=⟨.l a,none,.load (some k) (.l b)⟩
def fI(a g:Nat)(t:Bool)(b:Nat):AStep:=⟨.l a,some (.l g,t),.load none (.l b)⟩
def bH(k a b:Nat):AStep:=⟨.no,none,.store (some k) (.v a) (.l b)⟩
def eO(a b:Nat):AStep:=⟨.no,none,.store none (.l a) (.l b)⟩
def bD(a i b:Nat):AStep:=⟨.l a,none,.faddr i (.l b)⟩
def bN(a i b:Nat):AStep:=⟨.l a,none,.faddr i (.v b)⟩
def gQ(a g:Nat)(t:Bool)(i b:Nat):AStep:=⟨.l a,some (.l g,t),.faddr i (.v b)⟩
def rU(a g:Nat)(t:Bool)(i b:Nat):AStep:=⟨.l a,some (.l g,t),.faddr i (.l b)⟩
def bI(a b:Nat):AStep:=⟨.l a,none,.nilchk (.l b)⟩
def rF(a g:Nat)(t:Bool)(b:Nat):AStep:=⟨.l a,some (.l g,t),.nilchk (.l b)⟩
def aL(a:Nat)(o:BinOp)(b:Nat)(k:Int):AStep:=⟨.l a,none,.bin o (.l b) (.c (.int .i64 k))⟩
def dI(a:Nat)(o:BinOp)(b:Nat)(k:Int):AStep:=⟨.v a,none,.bin o (.l b) (.c (.int .i64 k))⟩
def eZ(a:Nat)(o:BinOp)(b d:Nat):AStep:=⟨.l a,none,.bin o (.l b) (.l d)⟩
def fK(a:Nat)(o:BinOp)(b d:Nat):AStep:=⟨.v a,none,.bin o (.l b) (.l d)⟩
def gp(a:Nat)(o:BinOp)(b:Nat)(k:Int):AStep:=⟨.l a,none,.bin o (.v b) (.c (.int .i64 k))⟩
def lX(a:Nat)(o:BinOp)(b:Nat)(k:Int):AStep:=⟨.l a,none,.bin o (.v b) (.c (.int .u8 k))⟩
def bW(a g:Nat)(t:Bool)(o:BinOp)(b:Nat)(k:Int):AStep:=⟨.l a,some (.l g,t),.bin o (.l b) (.c (.int .i64 k))⟩
def iQ(a g:Nat)(t:Bool)(o:BinOp)(b d:Nat):AStep:=⟨.l a,some (.l g,t),.bin o (.l b) (.l d)⟩
def df(a i b:Nat):AStep:=⟨.l a,none,.ext i (.l b)⟩
def cO(a:Nat)(t:Bool)(b:Nat):AStep:=⟨.l a,none,.len t (.l b)⟩
def jc(a g:Nat)(t u:Bool)(b:Nat):AStep:=⟨.l a,some (.l g,t),.len u (.l b)⟩
def dP(a f b:Nat):AStep:=⟨.l a,none,.call f [.pl (.l b)]⟩
def dM(a f b d:Nat):AStep:=⟨.l a,none,.call f [.pl (.l b),.pl (.l d)]⟩
def gm(a f b d e:Nat):AStep:=⟨.l a,none,.call f [.pl (.l b),.pl (.l d),.pl (.l e)]⟩
def mJ(a f b d:Nat)(k:Int):AStep:=⟨.l a,none,.call f [.pl (.l b),.pl (.l d),.pl (.c (.int .i64 k))]⟩
def fH(a b d:Nat):AStep:=⟨.l a,none,.pick (.l b) (.c (.bool true)) (.l d)⟩
def gH(a b d:Nat):AStep:=⟨.l a,none,.pick (.l b) (.l d) (.c (.bool false))⟩
def iq(a b d:Nat):AStep:=⟨.v a,none,.pick (.l b) (.c (.bool true)) (.l d)⟩
def iR(a b d:Nat):AStep:=⟨.v a,none,.pick (.l b) (.l d) (.c (.bool false))⟩
def lc(a g:Nat)(t:Bool)(b d:Nat):AStep:=⟨.l a,some (.l g,t),.pick (.l b) (.c (.bool true)) (.l d)⟩
def ku(a g:Nat)(t:Bool)(b d:Nat):AStep:=⟨.l a,some (.l g,t),.pick (.l b) (.l d) (.c (.bool false))⟩
def fB(a k b d:Nat):AStep:=⟨.l a,none,.iaddr k (.l b) (.l d)⟩
def jX(a k i b d:Nat):AStep:=⟨.l a,none,.aaddr k i (.v b) (.l d)⟩
def iH(a b:Nat):AStep:=⟨.v a,none,.boxL (.v b)⟩
def iI(a k b d:Nat):AStep:=⟨.l a,none,.append false k (.l b) (.l d)⟩
def zhI:SL:=[dC 4 4 false]
def zhH:SL:=[⟨.l 21,none,.call 165 []⟩,⟨.l 22,none,.build [.str [],.nils] []⟩,⟨.l 23,none,.boxH (.l 22)⟩,ah 5 5 21,ah 6 6 23]
def zhG:SL:=[af 24 5,⟨.v 25,none,.eq false 1 (.l 24) (.c .nilp)⟩]
def zhF:SL:=[dC 4 4 false]
def zhD:SL:=[aC 7 7 0]
def uR:SL:=[af 26 7,af 27 0,cO 28 false 27,eZ 29 .lss 26 28,aQ 30 29,aJ 31 30 true 7,bW 32 30 true .lss 31 12,iR 33 30 32]
def FN:SL:=[af 36 0,af 37 7,fB 38 4 36 37,iY 39 4 38,⟨.v 8,none,.allocL [.int .i64 0,.int .i64 0,.str [],.str []]⟩,bH 4 8 39]
def FM:SL:=[eQ 40 4 8,dP 41 166 40,⟨.v 42,none,.un .not (.l 41)⟩]
def FL:SL:=[aC 9 9 0,aC 10 10 0]
def H7:SL:=[bN 43 0 8,⟨.v 44,none,.load none (.l 43)⟩]
def Ic:SL:=[gp 46 .eql 44 0,ah 45 45 46]
def Ii:Plan:=(.seq 0 (af 47 5) (.seq 1 (bN 48 2 8) (.seq 2 (aA 49 48) (.seq 3 (bN 50 3 8) (.seq 4 (aA 51 50) (.seq 6 (af 53 6) (.seq 7 (bN 54 2 8) (.seq 9 (bN 56 3 8) (.alt 5 (gm 52 167 47 49 51) (.seq 8 (aA 55 54) (.seq 10 (aA 57 56) (.one 11 (gm 58 174 53 55 57) (.seq 12 (ah 9 9 52) (.seq 13 (ah 10 10 58) .fin))))) (.alt 8 (aA 55 54) (.alt 5 (gm 52 167 47 49 51) (.seq 10 (aA 57 56) (.one 11 (gm 58 174 53 55 57) (.seq 12 (ah 9 9 52) (.seq 13 (ah 10 10 58) .fin)))) (.one 10 (aA 57 56) (.one 5 (gm 52 167 47 49 51) (.one 11 (gm 58 174 53 55 57) (.seq 12 (ah 9 9 52) (.seq 13 (ah 10 10 58) .fin)))))) (.one 10 (aA 57 56) (.alt 5 (gm 52 167 47 49 51) (.seq 8 (aA 55 54) (.one 11 (gm 58 174 53 55 57) (.seq 12 (ah 9 9 52) (.seq 13 (ah 10 10 58) .fin)))) (.one 8 (aA 55 54) (.one 5 (gm 52 167 47 49 51) (.one 11 (gm 58 174 53 55 57) (.seq 12 (ah 9 9 52) (.seq 13 (ah 10 10 58) .fin)))))))))))))))))
def Ib:SL:=[gp 60 .eql 44 1,ah 59 59 60]
def Ih:Plan:=(.seq 0 (af 61 5) (.seq 1 (bN 62 1 8) (.seq 2 (aA 63 62) (.seq 3 (bN 64 2 8) (.seq 4 (aA 65 64) (.seq 5 (bN 66 3 8) (.seq 6 (aA 67 66) (.seq 8 (af 69 6) (.seq 9 (bN 70 1 8) (.seq 11 (bN 72 2 8) (.seq 13 (bN 74 3 8) (.alt 7 ⟨.l 68,none,.call 168 [.pl (.l 61),.pl (.l 63),.pl (.l 65),.pl (.l 67)]⟩ (.seq 10 (aA 71 70) (.seq 12 (aA 73 72) (.seq 14 (aA 75 74) (.one 15 ⟨.l 76,none,.call 175 [.pl (.l 69),.pl (.l 71),.pl (.l 73),.pl (.l 75)]⟩ (.seq 16 (ah 9 9 68) (.seq 17 (ah 10 10 76) .fin)))))) (.alt 10 (aA 71 70) (.alt 7 ⟨.l 68,none,.call 168 [.pl (.l 61),.pl (.l 63),.pl (.l 65),.pl (.l 67)]⟩ (.seq 12 (aA 73 72) (.seq 14 (aA 75 74) (.one 15 ⟨.l 76,none,.call 175 [.pl (.l 69),.pl (.l 71),.pl (.l 73),.pl (.l 75)]⟩ (.seq 16 (ah 9 9 68) (.seq 17 (ah 10 10 76) .fin))))) (.alt 12 (aA 73 72) (.alt 7 ⟨.l 68,none,.call 168 [.pl (.l 61),.pl (.l 63),.pl (.l 65),.pl (.l 67)]⟩ (.seq 14 (aA 75 74) (.one 15 ⟨.l 76,none,.call 175 [.pl (.l 69),.pl (.l 71),.pl (.l 73),.pl (.l 75)]⟩ (.seq 16 (ah 9 9 68) (.seq 17 (ah 10 10 76) .fin)))) (.one 14 (aA 75 74) (.one 7 ⟨.l 68,none,.call 168 [.pl (.l 61),.pl (.l 63),.pl (.l 65),.pl (.l 67)]⟩ (.one 15 ⟨.l 76,none,.call 175 [.pl (.l 69),.pl (.l 71),.pl (.l 73),.pl (.l 75)]⟩ (.seq 16 (ah 9 9 68) (.seq 17 (ah 10 10 76) .fin)))))) (.one 14 (aA 75 74) (.alt 7 ⟨.l 68,none,.call 168 [.pl (.l 61),.pl (.l 63),.pl (.l 65),.pl (.l 67)]⟩ (.seq 12 (aA 73 72) (.one 15 ⟨.l 76,none,.call 175 [.pl (.l 69),.pl (.l 71),.pl (.l 73),.pl (.l 75)]⟩ (.seq 16 (ah 9 9 68) (.seq 17 (ah 10 10 76) .fin)))) (.one 12 (aA 73 72) (.one 7 ⟨.l 68,none,.call 168 [.pl (.l 61),.pl (.l 63),.pl (.l 65),.pl (.l 67)]⟩ (.one 15 ⟨.l 76,none,.call 175 [.pl (.l 69),.pl (.l 71),.pl (.l 73),.pl (.l 75)]⟩ (.seq 16 (ah 9 9 68) (.seq 17 (ah 10 10 76) .fin))))))))) (.alt 12 (aA 73 72) (.alt 7 ⟨.l 68,none,.call 168 [.pl (.l 61),.pl (.l 63),.pl (.l 65),.pl (.l 67)]⟩ (.seq 10 (aA 71 70) (.seq 14 (aA 75 74) (.one 15 ⟨.l 76,none,.call 175 [.pl (.l 69),.pl (.l 71),.pl (.l 73),.pl (.l 75)]⟩ (.seq 16 (ah 9 9 68) (.seq 17 (ah 10 10 76) .fin))))) (.alt 10 (aA 71 70) (.alt 7 ⟨.l 68,none,.call 168 [.pl (.l 61),.pl (.l 63),.pl (.l 65),.pl (.l 67)]⟩ (.seq 14 (aA 75 74) (.one 15 ⟨.l 76,none,.call 175 [.pl (.l 69),.pl (.l 71),.pl (.l 73),.pl (.l 75)]⟩ (.seq 16 (ah 9 9 68) (.seq 17 (ah 10 10 76) .fin)))) (.one 14 (aA 75 74) (.one 7 ⟨.l 68,none,.call 168 [.pl (.l 61),.pl (.l 63),.pl (.l 65),.pl (.l 67)]⟩ (.one 15 ⟨.l 76,none,.call 175 [.pl (.l 69),.pl (.l 71),.pl (.l 73),.pl (.l 75)]⟩ (.seq 16 (ah 9 9 68) (.seq 17 (ah 10 10 76) .fin)))))) (.one 14 (aA 75 74) (.alt 7 ⟨.l 68,none,.call 168 [.pl (.l 61),.pl (.l 63),.pl (.l 65),.pl (.l 67)]⟩ (.seq 10 (aA 71 70) (.one 15 ⟨.l 76,none,.call 175 [.pl (.l 69),.pl (.l 71),.pl (.l 73),.pl (.l 75)]⟩ (.seq 16 (ah 9 9 68) (.seq 17 (ah 10 10 76) .fin)))) (.one 10 (aA 71 70) (.one 7 ⟨.l 68,none,.call 168 [.pl (.l 61),.pl (.l 63),.pl (.l 65),.pl (.l 67)]⟩ (.one 15 ⟨.l 76,none,.call 175 [.pl (.l 69),.pl (.l 71),.pl (.l 73),.pl (.l 75)]⟩ (.seq 16 (ah 9 9 68) (.seq 17 (ah 10 10 76) .fin))))))))) (.one 14 (aA 75 74) (.alt 7 ⟨.l 68,none,.call 168 [.pl (.l 61),.pl (.l 63),.pl (.l 65),.pl (.l 67)]⟩ (.seq 10 (aA 71 70) (.seq 12 (aA 73 72) (.one 15 ⟨.l 76,none,.call 175 [.pl (.l 69),.pl (.l 71),.pl (.l 73),.pl (.l 75)]⟩ (.seq 16 (ah 9 9 68) (.seq 17 (ah 10 10 76) .fin))))) (.alt 10 (aA 71 70) (.alt 7 ⟨.l 68,none,.call 168 [.pl (.l 61),.pl (.l 63),.pl (.l 65),.pl (.l 67)]⟩ (.seq 12 (aA 73 72) (.one 15 ⟨.l 76,none,.call 175 [.pl (.l 69),.pl (.l 71),.pl (.l 73),.pl (.l 75)]⟩ (.seq 16 (ah 9 9 68) (.seq 17 (ah 10 10 76) .fin)))) (.one 12 (aA 73 72) (.one 7 ⟨.l 68,none,.call 168 [.pl (.l 61),.pl (.l 63),.pl (.l 65),.pl (.l 67)]⟩ (.one 15 ⟨.l 76,none,.call 175 [.pl (.l 69),.pl (.l 71),.pl (.l 73),.pl (.l 75)]⟩ (.seq 16 (ah 9 9 68) (.seq 17 (ah 10 10 76) .fin)))))) (.one 12 (aA 73 72) (.alt 7 ⟨.l 68,none,.call 168 [.pl (.l 61),.pl (.l 63),.pl (.l 65),.pl (.l 67)]⟩ (.seq 10 (aA 71 70) (.one 15 ⟨.l 76,none,.call 175 [.pl (.l 69),.pl (.l 71),.pl (.l 73),.pl (.l 75)]⟩ (.seq 16 (ah 9 9 68) (.seq 17 (ah 10 10 76) .fin)))) (.one 10 (aA 71 70) (.one 7 ⟨.l 68,none,.call 168 [.pl (.l 61),.pl (.l 63),.pl (.l 65),.pl (.l 67)]⟩ (.one 15 ⟨.l 76,none,.call 175 [.pl (.l 69),.pl (.l 71),.pl (.l 73),.pl (.l 75)]⟩ (.seq 16 (ah 9 9 68) (.seq 17 (ah 10 10 76) .fin))))))))))))))))))))))))
def Ia:SL:=[gp 78 .eql 44 2,ah 77 77 78]
def Ig:Plan:=(.seq 0 (af 79 5) (.seq 1 (bN 80 1 8) (.seq 2 (aA 81 80) (.seq 3 (bN 82 3 8) (.seq 4 (aA 83 82) (.seq 6 (af 85 6) (.seq 7 (bN 86 1 8) (.seq 9 (bN 88 3 8) (.alt 5 (gm 84 177 79 81 83) (.seq 8 (aA 87 86) (.seq 10 (aA 89 88) (.one 11 (gm 90 176 85 87 89) (.seq 12 (ah 9 9 84) (.seq 13 (ah 10 10 90) .fin))))) (.alt 8 (aA 87 86) (.alt 5 (gm 84 177 79 81 83) (.seq 10 (aA 89 88) (.one 11 (gm 90 176 85 87 89) (.seq 12 (ah 9 9 84) (.seq 13 (ah 10 10 90) .fin)))) (.one 10 (aA 89 88) (.one 5 (gm 84 177 79 81 83) (.one 11 (gm 90 176 85 87 89) (.seq 12 (ah 9 9 84) (.seq 13 (ah 10 10 90) .fin)))))) (.one 10 (aA 89 88) (.alt 5 (gm 84 177 79 81 83) (.seq 8 (aA 87 86) (.one 11 (gm 90 176 85 87 89) (.seq 12 (ah 9 9 84) (.seq 13 (ah 10 10 90) .fin)))) (.one 8 (aA 87 86) (.one 5 (gm 84 177 79 81 83) (.one 11 (gm 90 176 85 87 89) (.seq 12 (ah 9 9 84) (.seq 13 (ah 10 10 90) .fin)))))))))))))))))
def H9:SL:=[gp 92 .eql 44 3,ah 91 91 92]
def H8:SL:=[bN 93 2 8,aA 94 93,dP 95 178 94,ah 11 11 95]
def Ie:Plan:=(.seq 0 (af 96 5) (.seq 1 (bN 97 1 8) (.seq 2 (aA 98 97) (.seq 3 (af 99 11) (.seq 4 (bN 100 3 8) (.seq 5 (aA 101 100) (.seq 7 (af 103 6) (.seq 8 (bN 104 1 8) (.seq 10 (af 106 11) (.seq 11 (bN 107 3 8) (.alt 6 ⟨.l 102,none,.call 168 [.pl (.l 96),.pl (.l 98),.pl (.l 99),.pl (.l 101)]⟩ (.seq 9 (aA 105 104) (.seq 12 (aA 108 107) (.one 13 ⟨.l 109,none,.call 175 [.pl (.l 103),.pl (.l 105),.pl (.l 106),.pl (.l 108)]⟩ (.seq 14 (ah 9 9 102) (.seq 15 (ah 10 10 109) .fin))))) (.alt 9 (aA 105 104) (.alt 6 ⟨.l 102,none,.call 168 [.pl (.l 96),.pl (.l 98),.pl (.l 99),.pl (.l 101)]⟩ (.seq 12 (aA 108 107) (.one 13 ⟨.l 109,none,.call 175 [.pl (.l 103),.pl (.l 105),.pl (.l 106),.pl (.l 108)]⟩ (.seq 14 (ah 9 9 102) (.seq 15 (ah 10 10 109) .fin)))) (.one 12 (aA 108 107) (.one 6 ⟨.l 102,none,.call 168 [.pl (.l 96),.pl (.l 98),.pl (.l 99),.pl (.l 101)]⟩ (.one 13 ⟨.l 109,none,.call 175 [.pl (.l 103),.pl (.l 105),.pl (.l 106),.pl (.l 108)]⟩ (.seq 14 (ah 9 9 102) (.seq 15 (ah 10 10 109) .fin)))))) (.one 12 (aA 108 107) (.alt 6 ⟨.l 102,none,.call 168 [.pl (.l 96),.pl (.l 98),.pl (.l 99),.pl (.l 101)]⟩ (.seq 9 (aA 105 104) (.one 13 ⟨.l 109,none,.call 175 [.pl (.l 103),.pl (.l 105),.pl (.l 106),.pl (.l 108)]⟩ (.seq 14 (ah 9 9 102) (.seq 15 (ah 10 10 109) .fin)))) (.one 9 (aA 105 104) (.one 6 ⟨.l 102,none,.call 168 [.pl (.l 96),.pl (.l 98),.pl (.l 99),.pl (.l 101)]⟩ (.one 13 ⟨.l 109,none,.call 175 [.pl (.l 103),.pl (.l 105),.pl (.l 106),.pl (.l 108)]⟩ (.seq 14 (ah 9 9 102) (.seq 15 (ah 10 10 109) .fin)))))))))))))))))))
def UH:SL:=[af 111 5,af 112 1,dM 113 170 111 112,aQ 110 113,df 114 0 110,df 115 1 110,⟨.v 12,none,.allocL [.int .i64 0,.int .i64 0,.str []]⟩,bH 3 12 114,ah 13 13 115]
def UG:SL:=[af 117 6,af 118 1,dM 119 179 117 118,aQ 116 119,df 120 0 116,df 121 1 116,⟨.v 14,none,.allocL [.int .i64 0,.int .i64 0,.str []]⟩,bH 3 14 120,ah 15 15 121]
def UI:Plan:=(.seq 0 (af 122 9) (.seq 1 (af 123 10) (.seq 2 (eZ 124 .neq 122 123) (.seq 3 (aQ 125 124) (.seq 4 (aJ 126 125 false 5) (.seq 6 (aJ 128 125 false 6) (.seq 7 (rF 129 125 false 128) (.seq 8 (rU 130 125 false 0 129) (.alt 5 ⟨.l 127,some (.l 125,false),.call 172 [.pl (.l 126)]⟩ (.seq 9 (fI 131 125 false 130) (.seq 10 (iQ 132 125 false .neq 127 131) (.seq 11 (fH 133 125 132) (.seq 12 (aQ 134 133) (.seq 13 (aJ 135 134 false 5) (.seq 15 (aJ 137 134 false 6) (.seq 16 (rF 138 134 false 137) (.seq 17 (rU 139 134 false 1 138) (.alt 14 ⟨.l 136,some (.l 134,false),.call 169 [.pl (.l 135)]⟩ (.seq 18 (fI 140 134 false 139) (.seq 19 (jc 141 134 false false 140) (.seq 20 (iQ 142 134 false .neq 136 141) (.seq 21 (fH 143 134 142) (.seq 22 (aQ 144 143) (.seq 23 ⟨.l 145,some (.l 144,false),.load (some 3) (.v 12)⟩ (.seq 24 ⟨.l 146,some (.l 144,false),.load (some 3) (.v 14)⟩ (.seq 25 ⟨.l 147,some (.l 144,false),.eqG true [1,1,2] (.l 145) (.l 146)⟩ (.seq 26 (fH 148 144 147) (.seq 27 (aQ 149 148) (.seq 28 (aJ 150 149 false 13) (.seq 29 (aJ 151 149 false 15) (.seq 30 (iQ 152 149 false .neq 150 151) (.seq 31 (iq 153 149 152) .fin)))))))))))))) (.one 18 (fI 140 134 false 139) (.seq 19 (jc 141 134 false false 140) (.one 14 ⟨.l 136,some (.l 134,false),.call 169 [.pl (.l 135)]⟩ (.seq 20 (iQ 142 134 false .neq 136 141) (.seq 21 (fH 143 134 142) (.seq 22 (aQ 144 143) (.seq 23 ⟨.l 145,some (.l 144,false),.load (some 3) (.v 12)⟩ (.seq 24 ⟨.l 146,some (.l 144,false),.load (some 3) (.v 14)⟩ (.seq 25 ⟨.l 147,some (.l 144,false),.eqG true [1,1,2] (.l 145) (.l 146)⟩ (.seq 26 (fH 148 144 147) (.seq 27 (aQ 149 148) (.seq 28 (aJ 150 149 false 13) (.seq 29 (aJ 151 149 false 15) (.seq 30 (iQ 152 149 false .neq 150 151) (.seq 31 (iq 153 149 152) .fin)))))))))))))))))))))))) (.one 9 (fI 131 125 false 130) (.one 5 ⟨.l 127,some (.l 125,false),.call 172 [.pl (.l 126)]⟩ (.seq 10 (iQ 132 125 false .neq 127 131) (.seq 11 (fH 133 125 132) (.seq 12 (aQ 134 133) (.seq 13 (aJ 135 134 false 5) (.seq 15 (aJ 137 134 false 6) (.seq 16 (rF 138 134 false 137) (.seq 17 (rU 139 134 false 1 138) (.alt 14 ⟨.l 136,some (.l 134,false),.call 169 [.pl (.l 135)]⟩ (.seq 18 (fI 140 134 false 139) (.seq 19 (jc 141 134 false false 140) (.seq 20 (iQ 142 134 false .neq 136 141) (.seq 21 (fH 143 134 142) (.seq 22 (aQ 144 143) (.seq 23 ⟨.l 145,some (.l 144,false),.load (some 3) (.v 12)⟩ (.seq 24 ⟨.l 146,some (.l 144,false),.load (some 3) (.v 14)⟩ (.seq 25 ⟨.l 147,some (.l 144,false),.eqG true [1,1,2] (.l 145) (.l 146)⟩ (.seq 26 (fH 148 144 147) (.seq 27 (aQ 149 148) (.seq 28 (aJ 150 149 false 13) (.seq 29 (aJ 151 149 false 15) (.seq 30 (iQ 152 149 false .neq 150 151) (.seq 31 (iq 153 149 152) .fin)))))))))))))) (.one 18 (fI 140 134 false 139) (.seq 19 (jc 141 134 false false 140) (.one 14 ⟨.l 136,some (.l 134,false),.call 169 [.pl (.l 135)]⟩ (.seq 20 (iQ 142 134 false .neq 136 141) (.seq 21 (fH 143 134 142) (.seq 22 (aQ 144 143) (.seq 23 ⟨.l 145,some (.l 144,false),.load (some 3) (.v 12)⟩ (.seq 24 ⟨.l 146,some (.l 144,false),.load (some 3) (.v 14)⟩ (.seq 25 ⟨.l 147,some (.l 144,false),.eqG true [1,1,2] (.l 145) (.l 146)⟩ (.seq 26 (fH 148 144 147) (.seq 27 (aQ 149 148) (.seq 28 (aJ 150 149 false 13) (.seq 29 (aJ 151 149 false 15) (.seq 30 (iQ 152 149 false .neq 150 151) (.seq 31 (iq 153 149 152) .fin))))))))))))))))))))))))))))))))))
def UF:SL:=[dC 4 4 false]
def UE:SL:=[aC 16 16 0]
def OO:SL:=[af 154 16,af 155 6,bI 156 155,bD 157 1 156,aA 158 157,cO 159 false 158,aL 160 .add 159 1,fK 161 .leq 154 160]
def OM:SL:=[af 165 5,af 166 16,dM 167 170 165 166,aQ 164 167,df 168 0 164,df 169 1 164,⟨.v 17,none,.allocL [.int .i64 0,.int .i64 0,.str []]⟩,bH 3 17 168,ah 18 18 169]
def OL:SL:=[af 171 6,af 172 16,dM 173 179 171 172,aQ 170 173,df 174 0 170,df 175 1 170,⟨.v 19,none,.allocL [.int .i64 0,.int .i64 0,.str []]⟩,bH 3 19 174,ah 20 20 175]
def OJ:SL:=[eQ 176 3 17,eQ 177 3 19,⟨.v 178,none,.eqG true [1,1,2] (.l 176) (.l 177)⟩]
def OI:SL:=[dC 4 4 false]
def OH:SL:=[af 162 16,aL 163 .add 162 1,ah 16 16 163]
def a173l30:ACode:=(.seq (sR OO (cV 161 .skip (.exit 3))) (.seq (.block 4 (sR OM (sR OL (sR OJ (cV 178 (sT OI) .skip))))) (.region OH)))
def OG:SL:=[af 34 7,aL 35 .add 34 1,ah 7 7 35]
def UJ:ACode:=(.seq (sR uR (cV 33 .skip (.exit 0))) (.seq (.block 1 (sR FN (.seq (sR FM (cV 42 (.exit 1) .skip)) (sR FL (.seq (sR H7 (.block 2 (sR Ic (cV 45 (.draw Ii) (sR Ib (cV 59 (.draw Ih) (sR Ia (cV 77 (.draw Ig) (sR H9 (cV 91 (sR H8 (.draw Ie)) .skip)))))))))) (sR UH (sR UG (.seq (.seq (.draw UI) (cV 153 (sT UF) .skip)) (sR UE (bL 3 a173l30)))))))))) (.region OG)))
def zhE:SL:=[⟨.l 179,none,.call 161 []⟩,ah 4 4 179]
def a173:AFunc:=⟨2,[0,1,4,5,6,7,8,9,10,11,12,13,14,15,16,17,18,19,20,25,33,42,44,45,59,77,91,153,161,178],[.tmp 4],(sR zhI (sR zhH (.seq (sR zhG (cV 25 (sT zhF) .skip)) (.seq (sR zhD (bL 0 UJ)) (sT zhE))))),false⟩
def Yb:SL:=[dC 2 2 false]
def Ya:SL:=[af 7 0,dP 8 14 7,aQ 6 8,df 9 0 6,df 10 1 6,df 11 2 6,⟨.v 3,none,.allocL kA⟩,bH 8 3 9,ah 4 4 10,ah 5 5 11]
def X9:SL:=[af 12 5,aL 13 .neq 12 0,aQ 14 13,⟨.l 15,some (.l 14,false),.load (some 8) (.v 3)⟩,⟨.l 16,some (.l 14,false),.call 38 [.pl (.l 15)]⟩,fH 17 14 16,ah 2 2 17]
def a8:AFunc:=⟨1,[0,2,3,4,5],[.tmp 2],(sR Yb (sR Ya (sT X9))),true⟩
def DD:SL:=[⟨.v 4,none,.asg 4 (.c .nils)⟩,aC 5 5 0,aC 6 6 0]
def DC:SL:=[af 11 1,⟨.l 12,none,.bin .eql (.l 11) (.c (.str [32]))⟩,ah 10 10 12]
def Dw:SL:=[af 13 0,dP 14 180 13,ah 4 4 14,aC 5 5 0,aC 6 6 0]
def Dv:SL:=[af 16 1,⟨.l 17,none,.bin .eql (.l 16) (.c (.str []))⟩,ah 15 15 17]
def Du:SL:=[af 18 0,dP 19 181 18,ah 4 4 19,aC 5 5 0,aC 6 6 0]
def Dt:SL:=[af 21 1,cO 22 true 21,aL 23 .gtr 22 1,aQ 24 23,aJ 25 24 false 1,⟨.l 26,some (.l 24,false),.bin .eql (.l 25) (.c (.str [92]))⟩,fH 27 24 26,ah 20 20 27]
def Dr:SL:=[af 29 1,dP 30 10 29,aQ 28 30,df 31 0 28,df 32 1 28,df 33 2 28,ah 7 7 31,ah 8 8 32,ah 9 9 33]
def Dq:SL:=[af 34 9,dI 35 .neq 34 0]
def Dp:SL:=[af 36 8,af 37 9,⟨.v 4,none,.asg 4 (.c .nils)⟩,ah 5 8 36,ah 6 9 37]
def Dn:SL:=[af 38 7,af 39 0,dM 40 153 38 39,ah 4 4 40,aC 5 5 0,aC 6 6 0]
def Dz:SL:=[af 42 0,⟨.l 43,none,.bin .eql (.l 42) (.c (.str []))⟩,ah 41 41 43]
def Dy:SL:=[⟨.v 4,none,.asg 4 (.c .nils)⟩,aC 5 5 0,aC 6 6 0]
def Dx:SL:=[af 44 0,af 45 1,dM 46 182 44 45,ah 4 4 46,aC 5 5 0,aC 6 6 0]
def a157:AFunc:=⟨2,[0,1,4,5,6,7,8,9,10,15,20,35,41],[.tmp 4,.tmp 5,.tmp 6],(sR DD (.seq (.block 0 (sR DC (cV 10 (sT Dw) (sR Dv (cV 15 (sT Du) (sR Dt (cV 20 (sR Dr (.seq (sR Dq (cV 35 (sT Dp) .skip)) (sT Dn))) (sR Dz (cV 41 (sT Dy) .skip))))))))) (sT Dx))),true⟩
def IA:SL:=[⟨.v 4,none,.asg 4 (.c .nils)⟩,aC 5 5 0,aC 6 6 0]
def Iz:SL:=[af 13 1,⟨.v 14,none,.bin .eql (.l 13) (.c (.str [32]))⟩]
def Ir:SL:=[af 15 0,dP 16 183 15,ah 4 4 16,aC 5 5 0,aC 6 6 0]
def Iq:SL:=[af 17 1,⟨.v 18,none,.bin .eql (.l 17) (.c (.str []))⟩]
def Ip:SL:=[af 19 0,dP 20 184 19,ah 4 4 20,aC 5 5 0,aC 6 6 0]
def Io:SL:=[af 21 1,cO 22 true 21,aL 23 .gtr 22 1,aQ 24 23,aJ 25 24 false 1,⟨.l 26,some (.l 24,false),.bin .eql (.l 25) (.c (.str [92]))⟩,iq 27 24 26]
def Im:SL:=[af 29 1,dP 30 14 29,aQ 28 30,df 31 0 28,df 32 1 28,df 33 2 28,⟨.v 7,none,.allocL kA⟩,bH 8 7 31,ah 8 8 32,ah 9 9 33]
def Il:SL:=[af 34 9,dI 35 .neq 34 0]
def Ik:SL:=[af 36 8,af 37 9,⟨.v 4,none,.asg 4 (.c .nils)⟩,ah 5 8 36,ah 6 9 37]
def Ij:SL:=[eQ 38 8 7,af 39 0,dM 40 148 38 39,ah 4 4 40,aC 5 5 0,aC 6 6 0]
def Iy:SL:=[⟨.l 41,none,.bslice false (.str []) 0 []⟩,ah 10 10 41,aC 11 11 0]
def Iw:SL:=[aC 12 12 0]
def Ba:SL:=[af 42 12,af 43 0,cO 44 true 43,eZ 45 .leq 42 44,aQ 46 45,aJ 47 46 true 0,⟨.l 48,some (.l 46,true),.bin .neq (.l 47) (.c (.str []))⟩,iR 49 46 48]
def Bb:Plan:=(.seq 0 (af 52 12) (.seq 1 (af 53 0) (.seq 2 (cO 54 true 53) (.seq 3 (eZ 55 .eql 52 54) (.seq 4 (aQ 56 55) (.seq 5 (aJ 57 56 false 0) (.seq 6 (aJ 58 56 false 12) (.seq 7 ⟨.l 59,some (.l 56,false),.sidx (.l 57) (.l 58)⟩ (.seq 8 (aJ 60 56 false 1) (.seq 9 ⟨.l 61,some (.l 56,false),.sidx (.l 60) (.c (.int .i64 0))⟩ (.seq 10 (iQ 62 56 false .eql 59 61) (.seq 11 (iq 63 56 62) .fin))))))))))))
def A9:SL:=[af 64 10,af 65 0,af 66 11,af 67 12,⟨.l 68,none,.slice none (.l 65) (some (.l 66)) (some (.l 67))⟩,⟨.l 69,none,.bslice false (.str []) 1 [(0,(.l 68))]⟩,iI 70 0 64 69,af 71 12,aL 72 .add 71 1,ah 10 10 70,ah 11 11 72]
def A8:SL:=[af 50 12,aL 51 .add 50 1,ah 12 12 51]
def a158l16:ACode:=(.seq (sR Ba (cV 49 .skip (.exit 0))) (.seq (.block 1 (.seq (.draw Bb) (cV 63 (.region A9) .skip))) (.region A8)))
def Iu:SL:=[af 73 10,ah 4 10 73,aC 5 5 0,aC 6 6 0]
def a158:AFunc:=⟨2,[0,1,4,5,6,7,8,9,10,11,12,14,18,27,35,49,63],[.tmp 4,.tmp 5,.tmp 6],(sR IA (.seq (sR Iz (cV 14 (sT Ir) .skip)) (.seq (sR Iq (cV 18 (sT Ip) .skip)) (.seq (sR Io (cV 27 (sR Im (.seq (sR Il (cV 35 (sT Ik) .skip)) (sT Ij))) .skip)) (sR Iy (.seq (sR Iw (bL 0 a158l16)) (sT Iu))))))),true⟩
def Z0:SL:=[dC 2 2 false]
def ZZ:SL:=[af 3 0,cO 4 true 3,aL 5 .lss 4 2,aQ 6 5,aJ 7 6 false 0,⟨.l 8,some (.l 6,false),.call 8 [.pl (.l 7)]⟩,fH 9 6 8,ah 2 2 9]
def a160:AFunc:=⟨1,[0,2],[.tmp 2],(sR Z0 (sT ZZ)),true⟩
def zrL:SL:=[dC 0 0 false]
def zrK:SL:=[⟨.l 2,none,.call 165 []⟩,ah 1 1 2]
def zrJ:SL:=[af 3 1,⟨.l 4,none,.eq true 1 (.l 3) (.c .nilp)⟩,aQ 5 4,aJ 6 5 true 1,⟨.l 7,some (.l 5,true),.call 167 [.pl (.l 6),.pl (.c (.str [32,97,32,98,32])),.pl (.c (.str [32]))]⟩,bW 8 5 true .eql 7 0,gH 9 5 8,aQ 10 9,aJ 11 10 true 1,⟨.l 12,some (.l 10,true),.call 169 [.pl (.l 11)]⟩,bW 13 10 true .eql 12 2,gH 14 10 13,aQ 15 14,aJ 16 15 true 1,⟨.l 17,some (.l 15,true),.call 168 [.pl (.l 16),.pl (.c (.int .i64 4)),.pl (.c (.str [100])),.pl (.c (.str [45]))]⟩,bW 18 15 true .eql 17 0,gH 19 15 18,aQ 20 19,aJ 21 20 true 1,⟨.l 22,some (.l 20,true),.call 172 [.pl (.l 21)]⟩,⟨.l 23,some (.l 20,true),.bin .eql (.l 22) (.c (.str [97,45,98,45,45,100]))⟩,gH 24 20 23,ah 0 0 24]
def a161:AFunc:=⟨0,[0,1],[.tmp 0],(sR zrL (sR zrK (sT zrJ))),true⟩
def zhO:SL:=[⟨.v 0,none,.asg 0 (.c .nilp)⟩]
def zhN:SL:=[⟨.l 1,none,.build [.str [],.nils] []⟩,⟨.l 2,none,.boxH (.l 1)⟩,ah 0 0 2]
def a165:AFunc:=⟨0,[0],[.tmp 0],(sR zhO (sT zhN)),false⟩
def UR:SL:=[iH 1 0,dC 2 2 false]
def UQ:SL:=[bN 3 2 1,aA 4 3,cO 5 true 4,aL 6 .leq 5 30,aQ 7 6,gQ 8 7 true 3 1,fI 9 7 true 8,jc 10 7 true true 9,bW 11 7 true .leq 10 30,gH 12 7 11,aQ 13 12,gQ 14 13 true 3 1,fI 15 13 true 14,⟨.l 16,some (.l 13,true),.call 160 [.pl (.l 15)]⟩,gH 17 13 16,ah 2 2 17]
def a166:AFunc:=⟨1,[0,1,2],[.tmp 2],(sR UR (sT UQ)),true⟩
def KZ:SL:=[aC 6 6 0]
def KY:SL:=[af 11 1,af 12 2,dM 13 157 11 12,aQ 10 13,df 14 0 10,df 15 1 10,df 16 2 10,ah 7 7 14,ah 8 8 15,ah 9 9 16]
def KX:SL:=[af 18 9,aL 19 .neq 18 0,ah 17 17 19]
def KW:SL:=[af 20 9,ah 6 9 20]
def KV:SL:=[af 22 7,cO 23 false 22,aL 24 .gtr 23 100,ah 21 21 24]
def KU:SL:=[aC 6 6 2]
def KT:SL:=[af 25 0,af 26 0,af 27 1,af 28 7,bI 29 25,bD 30 0 29,eO 30 27,bI 31 26,bD 32 1 31,eO 32 28]
def KS:SL:=[aC 6 6 0]
def a167:AFunc:=⟨3,[0,1,2,6,7,8,9,17,21],[.tmp 6],(sR KZ (sR KY (.seq (.block 0 (sR KX (cV 17 (sT KW) (sR KV (cV 21 (sT KU) .skip))))) (sR KT (sT KS))))),false⟩
def KR:SL:=[aC 8 8 0]
def KQ:SL:=[af 10 1,aL 11 .lss 10 1,aQ 12 11,aJ 13 12 false 1,bW 14 12 false .gtr 13 100,iq 15 12 14]
def KP:SL:=[aC 8 8 90]
def KO:SL:=[af 16 0,af 17 1,af 18 0,bI 19 18,bD 20 1 19,aA 21 20,cO 22 false 21,⟨.l 23,none,.maxI (.l 17) (.l 22)⟩,dM 24 187 16 23,ah 9 9 24]
def KN:SL:=[af 25 9,af 26 1,aL 27 .sub 26 1,af 28 2,fB 29 0 25 27,eO 29 28]
def KM:SL:=[af 30 0,af 31 9,af 32 3,gm 33 188 30 31 32,ah 8 8 33]
def a168:AFunc:=⟨4,[0,1,2,3,8,9,15],[.tmp 8],(sR KR (.seq (sR KQ (cV 15 (sT KP) .skip)) (sR KO (sR KN (sT KM))))),false⟩
def ZY:SL:=[aC 2 2 0]
def ZX:SL:=[af 3 0,bI 4 3,bD 5 1 4,aA 6 5,cO 7 false 6,ah 2 2 7]
def a169:AFunc:=⟨1,[0,2],[.tmp 2],(sR ZY (sT ZX)),true⟩
def FW:SL:=[⟨.v 4,none,.allocL [.int .i64 0,.int .i64 0,.str []]⟩,aC 5 5 0]
def FV:SL:=[af 7 1,aL 8 .lss 7 0,aQ 9 8,aJ 10 9 false 1,bW 11 9 false .gtr 10 100,fH 12 9 11,ah 6 6 12]
def FU:SL:=[⟨.l 13,none,.build [.int .i64 0,.int .i64 0,.str []] []⟩,bH 3 4 13,aC 5 5 90]
def FT:SL:=[af 15 1,aL 16 .eql 15 0,ah 14 14 16]
def FR:SL:=[af 17 0,bI 18 17,bD 19 0 18,aA 20 19,dP 21 185 20,bH 3 4 21,aC 5 5 0]
def FQ:SL:=[af 23 1,af 24 0,bI 25 24,bD 26 1 25,aA 27 26,cO 28 false 27,eZ 29 .gtr 23 28,ah 22 22 29]
def FP:SL:=[⟨.l 30,none,.build [.int .i64 0,.int .i64 0,.str []] []⟩,bH 3 4 30,aC 5 5 0]
def FO:SL:=[af 31 0,bI 32 31,bD 33 1 32,aA 34 33,af 35 1,aL 36 .sub 35 1,fB 37 0 34 36,aA 38 37,dP 39 185 38,bH 3 4 39,aC 5 5 0]
def a170:AFunc:=⟨2,[0,1,4,5,6,14,22],[.cell 4 (some 3),.tmp 5],(sR FW (.seq (.block 0 (sR FV (cV 6 (sT FU) (sR FT (cV 14 (sT FR) (sR FQ (cV 22 (sT FP) .skip))))))) (sT FO))),true⟩
def ZW:SL:=[⟨.v 2,none,.asg 2 (.c (.str []))⟩]
def ZV:SL:=[af 3 0,bI 4 3,bD 5 0 4,aA 6 5,ah 2 2 6]
def a172:AFunc:=⟨1,[0,2],[.tmp 2],(sR ZW (sT ZV)),true⟩
def zhM:SL:=[⟨.v 4,none,.asg 4 (.c (.str []))⟩]
def zhL:SL:=[⟨.v 5,none,.asg 5 (.c (.str []))⟩]
def zhK:SL:=[aC 6 6 0]
def UO:SL:=[af 7 6,af 8 0,cO 9 false 8,fK 10 .lss 7 9]
def UN:SL:=[af 13 6,dI 14 .gtr 13 0]
def UM:SL:=[af 15 5,af 16 1,eZ 17 .add 15 16,ah 5 5 17]
def UL:SL:=[af 18 5,af 19 0,af 20 6,fB 21 0 19 20,aA 22 21,eZ 23 .add 18 22,ah 5 5 23]
def UK:SL:=[af 11 6,aL 12 .add 11 1,ah 6 6 12]
def a171l8:ACode:=(.seq (sR UO (cV 10 .skip (.exit 0))) (.seq (.block 1 (.seq (sR UN (cV 14 (.region UM) .skip)) (.region UL))) (.region UK)))
def zhJ:SL:=[af 24 5,ah 4 5 24]
def a171:AFunc:=⟨2,[0,1,4,5,6,10,14],[.tmp 4],(sR zhM (sR zhL (.seq (sR zhK (bL 0 a171l8)) (sT zhJ)))),true⟩
def KL:SL:=[aC 6 6 0]
def KJ:SL:=[af 11 1,af 12 2,dM 13 158 11 12,aQ 10 13,df 14 0 10,df 15 1 10,df 16 2 10,ah 7 7 14,ah 8 8 15,ah 9 9 16]
def KI:SL:=[af 17 9,dI 18 .neq 17 0]
def KH:SL:=[af 19 9,ah 6 9 19]
def KG:SL:=[af 20 7,cO 21 false 20,dI 22 .gtr 21 100]
def KF:SL:=[aC 6 6 2]
def KE:SL:=[af 23 0,af 24 0,af 25 1,af 26 7,bI 27 23,bD 28 0 27,eO 28 25,bI 29 24,bD 30 1 29,eO 30 26]
def KD:SL:=[aC 6 6 0]
def a174:AFunc:=⟨3,[0,1,2,6,7,8,9,18,22],[.tmp 6],(sR KL (sR KJ (.seq (sR KI (cV 18 (sT KH) .skip)) (.seq (sR KG (cV 22 (sT KF) .skip)) (sR KE (sT KD)))))),false⟩
def OE:SL:=[aC 8 8 0]
def OD:SL:=[af 10 1,aL 11 .lss 10 1,aQ 12 11,aJ 13 12 false 1,bW 14 12 false .gtr 13 100,iq 15 12 14]
def OC:SL:=[aC 8 8 90]
def ZU:SL:=[⟨.l 16,none,.bslice false (.str []) 0 []⟩,af 17 0,bI 18 17,bD 19 1 18,aA 20 19,iI 21 0 16 20,ah 9 9 21]
def ZT:SL:=[af 22 9,cO 23 false 22,af 24 1,fK 25 .lss 23 24]
def ZR:SL:=[af 26 9,⟨.l 27,none,.bslice false (.str []) 1 [(0,(.c (.str [])))]⟩,iI 28 0 26 27,ah 9 9 28]
def a175l6:ACode:=(.seq (sR ZT (cV 25 .skip (.exit 0))) (.block 1 (.region ZR)))
def ZQ:SL:=[af 29 9,af 30 1,aL 31 .sub 30 1,af 32 2,fB 33 0 29 31,eO 33 32]
def ZP:SL:=[af 34 0,af 35 9,af 36 3,gm 37 186 34 35 36,ah 8 8 37]
def a175:AFunc:=⟨4,[0,1,2,3,8,9,15,25],[.tmp 8],(sR OE (.seq (sR OD (cV 15 (sT OC) .skip)) (sR ZU (.seq (bL 0 a175l6) (sR ZQ (sT ZP)))))),false⟩
def UA:SL:=[aC 6 6 0]
def Uz:SL:=[af 7 1,aL 8 .lss 7 0,aQ 9 8,aJ 10 9 false 1,bW 11 9 false .gtr 10 100,iq 12 9 11]
def Uy:SL:=[aC 6 6 90]
def Ux:SL:=[af 13 0,af 14 0,af 15 1,dM 16 187 14 15,af 17 2,gm 18 188 13 16 17,ah 6 6 18]
def a177:AFunc:=⟨3,[0,1,2,6,12],[.tmp 6],(sR UA (.seq (sR Uz (cV 12 (sT Uy) .skip)) (sT Ux))),false⟩
def UD:SL:=[aC 6 6 0]
def UC:SL:=[af 9 1,aL 10 .lss 9 0,aQ 11 10,aJ 12 11 false 1,bW 13 11 false .gtr 12 100,iq 14 11 13]
def UB:SL:=[aC 6 6 90]
def zhB:SL:=[⟨.l 15,none,.bslice false (.str []) 0 []⟩,ah 7 7 15]
def zhA:SL:=[aC 8 8 0]
def OB:SL:=[af 16 8,af 17 1,fK 18 .lss 16 17]
def OA:SL:=[af 21 8,af 22 0,bI 23 22,bD 24 1 23,aA 25 24,cO 26 false 25,fK 27 .lss 21 26]
def Oz:SL:=[af 28 7,af 29 0,bI 30 29,bD 31 1 30,aA 32 31,af 33 8,fB 34 0 32 33,aA 35 34,⟨.l 36,none,.bslice false (.str []) 1 [(0,(.l 35))]⟩,iI 37 0 28 36,ah 7 7 37]
def Oy:SL:=[af 38 7,⟨.l 39,none,.bslice false (.str []) 1 [(0,(.c (.str [])))]⟩,iI 40 0 38 39,ah 7 7 40]
def Ox:SL:=[af 19 8,aL 20 .add 19 1,ah 8 8 20]
def a176l10:ACode:=(.seq (sR OB (cV 18 .skip (.exit 0))) (.seq (.block 1 (sR OA (cV 27 (.region Oz) (.region Oy)))) (.region Ox)))
def zhC:SL:=[af 41 0,af 42 7,af 43 2,gm 44 186 41 42 43,ah 6 6 44]
def a176:AFunc:=⟨3,[0,1,2,6,7,8,14,18,27],[.tmp 6],(sR UD (.seq (sR UC (cV 14 (sT UB) .skip)) (sR zhB (.seq (sR zhA (bL 0 a176l10)) (sT zhC))))),false⟩
def ZO:SL:=[⟨.v 2,none,.asg 2 (.c (.str []))⟩]
def ZN:SL:=[⟨.l 4,none,.bslice false (.int .u8 0) 0 []⟩,ah 3 3 4]
def Ow:SL:=[af 5 0,⟨.l 6,none,.bin .neq (.l 5) (.c (.str []))⟩,aQ 7 6,aJ 8 7 true 3,jc 9 7 true false 8,bW 10 7 true .lss 9 33000,iR 11 7 10]
def Ov:SL:=[af 12 3,af 13 0,iI 14 0 12 13,ah 3 3 14]
def a178l4:ACode:=(.seq (sR Ow (cV 11 .skip (.exit 0))) (.block 1 (.region Ov)))
def ZM:SL:=[af 15 3,⟨.l 16,none,.b2s (.l 15)⟩,ah 2 2 16]
def a178:AFunc:=⟨1,[0,2,3,11],[.tmp 2],(sR ZO (sR ZN (.seq (bL 0 a178l4) (sT ZM)))),true⟩
def FK:SL:=[⟨.v 4,none,.allocL [.int .i64 0,.int .i64 0,.str []]⟩,aC 5 5 0]
def FJ:SL:=[af 6 1,aL 7 .lss 6 0,aQ 8 7,aJ 9 8 false 1,bW 10 8 false .gtr 9 100,iq 11 8 10]
def FI:SL:=[⟨.l 12,none,.build [.int .i64 0,.int .i64 0,.str []] []⟩,bH 3 4 12,aC 5 5 90]
def FH:SL:=[af 13 1,dI 14 .eql 13 0]
def FE:SL:=[af 15 0,bI 16 15,bD 17 0 16,aA 18 17,dP 19 189 18,bH 3 4 19,aC 5 5 0]
def FD:SL:=[af 20 1,af 21 0,bI 22 21,bD 23 1 22,aA 24 23,cO 25 false 24,fK 26 .gtr 20 25]
def FC:SL:=[⟨.l 27,none,.build [.int .i64 0,.int .i64 0,.str []] []⟩,bH 3 4 27,aC 5 5 0]
def FB:SL:=[af 28 0,bI 29 28,bD 30 1 29,aA 31 30,af 32 1,aL 33 .sub 32 1,fB 34 0 31 33,aA 35 34,dP 36 189 35,bH 3 4 36,aC 5 5 0]
def a179:AFunc:=⟨2,[0,1,4,5,11,14,26],[.cell 4 (some 3),.tmp 5],(sR FK (.seq (sR FJ (cV 11 (sT FI) .skip)) (.seq (sR FH (cV 14 (sT FE) .skip)) (.seq (sR FD (cV 26 (sT FC) .skip)) (sT FB))))),true⟩
def OX:SL:=[⟨.v 2,none,.allocL kA⟩,aC 3 3 0,aC 4 4 0]
def OW:SL:=[af 9 0,dP 10 44 9,aQ 8 10,df 11 0 8,df 12 1 8,df 13 2 8,⟨.v 5,none,.allocL kA⟩,bH 8 5 11,ah 6 6 12,ah 7 7 13]
def OV:SL:=[af 14 7,aL 15 .eql 14 0,aQ 16 15,⟨.l 17,some (.l 16,true),.load (some 8) (.v 5)⟩,⟨.l 18,some (.l 16,true),.call 45 [.pl (.l 17)]⟩,bW 19 16 true .eql 18 0,iR 20 16 19]
def OU:SL:=[⟨.l 21,none,.build kA []⟩,bH 8 2 21,aC 3 3 0,aC 4 4 1]
def OT:SL:=[af 22 7,aL 23 .eql 22 0,aQ 24 23,⟨.l 25,some (.l 24,true),.load (some 8) (.v 5)⟩,⟨.l 26,some (.l 24,true),.call 45 [.pl (.l 25)]⟩,bW 27 24 true .gtr 26 500,iR 28 24 27]
def OQ:SL:=[⟨.l 29,none,.build kA []⟩,bH 8 2 29,aC 3 3 0,aC 4 4 2]
def OP:SL:=[eQ 30 8 5,af 31 6,af 32 7,bH 8 2 30,ah 3 6 31,ah 4 7 32]
def a14:AFunc:=⟨1,[0,2,3,4,5,6,7,20,28],[.cell 2 (some 8),.tmp 3,.tmp 4],(sR OX (sR OW (.seq (sR OV (cV 20 (sT OU) .skip)) (.seq (sR OT (cV 28 (sT OQ) .skip)) (sT OP))))),true⟩
def Tv:SL:=[iH 1 0,dC 2 2 false]
def Tu:SL:=[eQ 3 8 1,dP 4 63 3,aQ 5 4,⟨.l 6,some (.l 5,true),.load (some 8) (.v 1)⟩,⟨.l 7,some (.l 5,true),.call 45 [.pl (.l 6)]⟩,bW 8 5 true .leq 7 300,gH 9 5 8,ah 2 2 9]
def a38:AFunc:=⟨1,[0,1,2],[.tmp 2],(sR Tv (sT Tu)),true⟩
def PE:SL:=[⟨.v 2,none,.asg 2 (.c .nilp)⟩,aC 3 3 0,aC 4 4 0]
def PD:SL:=[af 10 0,dP 11 41 10,aQ 9 11,df 12 0 9,df 13 1 9,df 14 2 9,⟨.v 5,none,.allocL kA⟩,bH 8 5 12,ah 6 6 13,ah 7 7 14]
def Pz:SL:=[af 15 7,dI 16 .neq 15 0]
def Py:SL:=[af 17 6,af 18 7,⟨.v 2,none,.asg 2 (.c .nilp)⟩,ah 3 6 17,ah 4 7 18]
def Vd:SL:=[eQ 20 8 5,dP 21 34 20,aQ 19 21,df 22 0 19,df 23 1 19,ah 8 8 22,ah 7 7 23]
def Vb:SL:=[af 24 7,dI 25 .neq 24 0]
def Va:SL:=[af 26 7,⟨.v 2,none,.asg 2 (.c .nilp)⟩,aC 3 3 0,ah 4 7 26]
def ziI:SL:=[af 27 0,af 28 8,eQ 29 8 5,dP 30 42 29,⟨.l 31,none,.build [.str [],.nilp,.int .i64 0] [(0,1,(.l 27)),(1,1,(.l 28)),(2,1,(.l 30))]⟩,⟨.l 32,none,.boxH (.l 31)⟩,ah 2 2 32,aC 3 3 0,aC 4 4 0]
def a10:AFunc:=⟨1,[0,2,3,4,5,6,7,8,16,25],[.tmp 2,.tmp 3,.tmp 4],(sR PE (sR PD (.seq (sR Pz (cV 16 (sT Py) .skip)) (sR Vd (.seq (sR Vb (cV 25 (sT Va) .skip)) (sT ziI)))))),false⟩
def zhz:SL:=[⟨.v 2,none,.asg 2 (.c .nils)⟩]
def zhy:SL:=[af 3 0,⟨.l 4,none,.call 191 [.pl (.l 3),.pl (.c (.fn 190 []))]⟩,ah 2 2 4]
def a180:AFunc:=⟨1,[0,2],[.tmp 2],(sR zhz (sT zhy)),true⟩
def U2:SL:=[⟨.v 4,none,.asg 4 (.c .nils)⟩]
def U1:SL:=[af 9 1,⟨.v 10,none,.bin .eql (.l 9) (.c (.str []))⟩]
def UW:SL:=[⟨.v 4,none,.asg 4 (.c .nils)⟩]
def zaa:SL:=[⟨.v 5,none,.asg 5 (.c .nils)⟩]
def Z9:SL:=[aC 6 6 0]
def Z8:SL:=[af 11 0,⟨.v 12,none,.eq true 1 (.l 11) (.c .nilp)⟩]
def Z7:SL:=[af 13 0,af 14 1,⟨.v 15,none,.call 11 [.pl (.l 13),.pl (.l 14)]⟩,⟨.v 16,none,.len false (.v 15)⟩,aC 17 17 0]
def K4:SL:=[⟨.v 18,none,.bin .lss (.v 17) (.v 16)⟩]
def UV:SL:=[⟨.l 19,none,.iaddr 2 (.v 15) (.v 17)⟩,iY 20 2 19,⟨.v 8,none,.allocL [.int .i64 0,.int .i64 0]⟩,bH 2 8 20]
def UU:SL:=[⟨.l 21,none,.aaddr 2 0 (.v 8) (.c (.int .i64 0))⟩,aA 22 21,⟨.l 23,none,.aaddr 2 0 (.v 8) (.c (.int .i64 1))⟩,aA 24 23,fK 25 .lss 22 24]
def U0:SL:=[af 26 5,af 27 1,af 28 6,⟨.l 29,none,.aaddr 2 0 (.v 8) (.c (.int .i64 0))⟩,aA 30 29,⟨.l 31,none,.slice none (.l 27) (some (.l 28)) (some (.l 30))⟩,⟨.l 32,none,.bslice false (.str []) 1 [(0,(.l 31))]⟩,iI 33 0 26 32,ah 5 5 33]
def UZ:SL:=[⟨.l 34,none,.aaddr 2 0 (.v 8) (.c (.int .i64 1))⟩,aA 35 34,ah 6 6 35]
def UY:SL:=[gp 36 .add 17 1,ah 17 17 36]
def a153l13:ACode:=(sR K4 (.seq (cV 18 .skip (.exit 0)) (.seq (.block 1 (sR UV (sR UU (cV 25 (sR U0 (.region UZ)) .skip)))) (.region UY))))
def UX:SL:=[af 37 5,af 38 1,af 39 6,⟨.l 40,none,.slice none (.l 38) (some (.l 39)) none⟩,⟨.l 41,none,.bslice false (.str []) 1 [(0,(.l 40))]⟩,iI 42 0 37 41,ah 4 4 42]
def a153:AFunc:=⟨2,[0,1,4,5,6,8,10,12,15,16,17,18,25],[.tmp 4],(sR U2 (.seq (sR U1 (cV 10 (sT UW) .skip)) (sR zaa (sR Z9 (.seq (sR Z8 (cV 12 (sR Z7 (bL 0 a153l13)) .skip)) (sT UX)))))),true⟩
def zhx:SL:=[⟨.v 2,none,.asg 2 (.c .nils)⟩]
def zhw:SL:=[⟨.l 6,none,.bslice false (.str []) 0 []⟩,ah 3 3 6,aC 4 4 (-1)]
def zhu:SL:=[aC 5 5 0]
def Dl:SL:=[af 7 5,af 8 0,cO 9 true 8,fK 10 .leq 7 9]
def Dk:SL:=[af 13 5,af 14 0,cO 15 true 14,eZ 16 .eql 13 15,aQ 17 16,aJ 18 17 false 0,aJ 19 17 false 5,⟨.l 20,some (.l 17,false),.sidx (.l 18) (.l 19)⟩,⟨.l 21,some (.l 17,false),.call 193 [.pl (.l 20)]⟩,iq 22 17 21]
def Dj:SL:=[af 23 4,dI 24 .geq 23 0]
def Di:SL:=[af 25 3,af 26 0,af 27 4,af 28 5,⟨.l 29,none,.slice none (.l 26) (some (.l 27)) (some (.l 28))⟩,⟨.l 30,none,.bslice false (.str []) 1 [(0,(.l 29))]⟩,iI 31 0 25 30,ah 3 3 31]
def Dh:SL:=[aC 4 4 (-1)]
def Dg:SL:=[af 32 4,dI 33 .lss 32 0]
def Df:SL:=[af 34 5,ah 4 4 34]
def Dm:SL:=[af 11 5,aL 12 .add 11 1,ah 5 5 12]
def a183l11:ACode:=(.seq (sR Dl (cV 10 .skip (.exit 0))) (.seq (.block 1 (sR Dk (cV 22 (.seq (sR Dj (cV 24 (.region Di) .skip)) (.region Dh)) (sR Dg (cV 33 (.region Df) .skip))))) (.region Dm)))
def zhv:SL:=[af 35 3,ah 2 3 35]
def a183:AFunc:=⟨1,[0,2,3,4,5,10,22,24,33],[.tmp 2],(sR zhx (sR zhw (.seq (sR zhu (bL 0 a183l11)) (sT zhv)))),true⟩
def zaj:SL:=[iH 2 0,⟨.v 4,none,.asg 4 (.c .nils)⟩]
def zai:SL:=[⟨.l 9,none,.bslice false (.str []) 0 []⟩,ah 5 5 9,aC 6 6 0]
def zah:SL:=[af 10 1,⟨.v 11,none,.bin .eql (.l 10) (.c (.str []))⟩]
def zaf:SL:=[af 12 5,ah 4 5 12]
def zhY:SL:=[eQ 13 8 2,af 14 1,dM 15 143 13 14,ah 7 7 15]
def zhX:SL:=[aC 8 8 0]
def U4:SL:=[af 16 8,af 17 7,cO 18 false 17,fK 19 .lss 16 18]
def zal:Plan:=(.seq 0 (af 22 7) (.seq 1 (af 23 8) (.seq 2 (fB 24 2 22 23) (.seq 3 ⟨.l 25,none,.aaddr 2 0 (.l 24) (.c (.int .i64 0))⟩ (.seq 4 (aA 26 25) (.seq 5 (af 27 7) (.seq 6 (af 28 8) (.seq 7 (fB 29 2 27 28) (.seq 8 ⟨.l 30,none,.aaddr 2 0 (.l 29) (.c (.int .i64 1))⟩ (.seq 9 (aA 31 30) (.seq 10 (fK 32 .lss 26 31) .fin)))))))))))
def zak:Plan:=(.seq 0 (af 33 5) (.seq 1 (af 34 1) (.seq 2 (af 35 6) (.seq 3 (af 36 7) (.seq 4 (af 37 8) (.seq 5 (fB 38 2 36 37) (.seq 6 ⟨.l 39,none,.aaddr 2 0 (.l 38) (.c (.int .i64 0))⟩ (.seq 7 (aA 40 39) (.seq 8 ⟨.l 41,none,.slice none (.l 34) (some (.l 35)) (some (.l 40))⟩ (.seq 11 (af 44 7) (.seq 12 (af 45 8) (.seq 13 (fB 46 2 44 45) (.seq 14 ⟨.l 47,none,.aaddr 2 0 (.l 46) (.c (.int .i64 1))⟩ (.alt 9 ⟨.l 42,none,.bslice false (.str []) 1 [(0,(.l 41))]⟩ (.alt 10 (iI 43 0 33 42) (.seq 15 (aA 48 47) (.seq 16 (ah 5 5 43) (.seq 17 (ah 6 6 48) .fin))) (.one 15 (aA 48 47) (.one 10 (iI 43 0 33 42) (.seq 16 (ah 5 5 43) (.seq 17 (ah 6 6 48) .fin))))) (.one 15 (aA 48 47) (.one 9 ⟨.l 42,none,.bslice false (.str []) 1 [(0,(.l 41))]⟩ (.one 10 (iI 43 0 33 42) (.seq 16 (ah 5 5 43) (.seq 17 (ah 6 6 48) .fin)))))))))))))))))))
def zae:SL:=[af 20 8,aL 21 .add 20 1,ah 8 8 21]
def a148l10:ACode:=(.seq (sR U4 (cV 19 .skip (.exit 0))) (.seq (.block 1 (.seq (.draw zal) (cV 32 (.draw zak) .skip))) (.region zae)))
def zhZ:SL:=[af 49 5,af 50 1,af 51 6,⟨.l 52,none,.slice none (.l 50) (some (.l 51)) none⟩,⟨.l 53,none,.bslice false (.str []) 1 [(0,(.l 52))]⟩,iI 54 0 49 53,ah 4 4 54]
def a148:AFunc:=⟨2,[0,1,2,4,5,6,7,8,11,19,32],[.tmp 4],(sR zaj (sR zai (.seq (sR zah (cV 11 (sT zaf) .skip)) (sR zhY (.seq (sR zhX (bL 0 a148l10)) (sT zhZ)))))),true⟩
def X7:SL:=[⟨.v 4,none,.asg 4 (.c (.str []))⟩,⟨.v 5,none,.asg 5 (.c (.str []))⟩,dC 6 6 false]
def X6:SL:=[af 7 0,af 8 1,dM 9 104 7 8,df 10 0 9,df 11 1 9,df 12 2 9,ah 4 4 10,ah 5 5 11,ah 6 6 12]
def a95:AFunc:=⟨2,[0,1,4,5,6],[.tmp 4,.tmp 5,.tmp 6],(sR X7 (sT X6)),true⟩
def zh2:SL:=[iH 2 0,⟨.v 4,none,.asg 4 (.c .nils)⟩]
def zh1:SL:=[⟨.l 11,none,.bslice false (.agg [.int .i64 0,.int .i64 0]) 0 []⟩,eQ 12 8 2,af 13 1,dM 14 46 12 13,ah 5 5 11,aC 6 6 0,ah 7 7 14]
def IB:SL:=[af 15 6,af 16 1,cO 17 true 16,fK 18 .leq 15 17]
def K7:SL:=[af 20 7,af 21 6,dM 22 152 20 21,aQ 19 22,df 23 0 19,df 24 1 19,df 25 2 19,ah 8 8 23,ah 9 9 24,ah 10 10 25]
def K6:SL:=[af 26 10,⟨.v 27,none,.un .not (.l 26)⟩]
def K5:SL:=[af 28 5,ah 4 5 28]
def OZ:SL:=[af 29 8,af 30 9,eZ 31 .eql 29 30,aQ 32 31,aJ 33 32 true 5,jc 34 32 true false 33,bW 35 32 true .gtr 34 0,gH 36 32 35,aQ 37 36,aJ 38 37 true 5,aJ 39 37 true 5,jc 40 37 true false 39,bW 41 37 true .sub 40 1,⟨.l 42,some (.l 37,true),.iaddr 2 (.l 38) (.l 41)⟩,⟨.l 43,some (.l 37,true),.aaddr 2 0 (.l 42) (.c (.int .i64 1))⟩,fI 44 37 true 43,aJ 45 37 true 8,iQ 46 37 true .eql 44 45,iR 47 37 46]
def OY:SL:=[af 48 8,aL 49 .add 48 1,ah 6 6 49]
def U5:SL:=[af 50 5,af 51 8,af 52 9,⟨.l 53,none,.build [.int .i64 0,.int .i64 0] [(0,1,(.l 51)),(1,1,(.l 52))]⟩,⟨.l 54,none,.bslice false (.agg [.int .i64 0,.int .i64 0]) 1 [(0,(.l 53))]⟩,iI 55 2 50 54,af 56 9,ah 5 5 55,ah 6 6 56]
def a143l9:ACode:=(.seq (sR IB (cV 18 .skip (.exit 0))) (.block 1 (sR K7 (.seq (sR K6 (cV 27 (sT K5) .skip)) (sR OZ (cV 47 (.region OY) (.region U5)))))))
def zh0:SL:=[af 57 5,ah 4 5 57]
def a143:AFunc:=⟨2,[0,1,2,4,5,6,7,8,9,10,18,27,47],[.tmp 4],(sR zh2 (sR zh1 (.seq (bL 0 a143l9) (sT zh0)))),true⟩
def ZH:SL:=[aC 6 6 0]
def ZG:SL:=[af 8 1,af 9 2,dM 10 194 8 9,ah 7 7 10]
def ZF:SL:=[af 11 7,cO 12 true 11,dI 13 .gtr 12 65536]
def ZE:SL:=[aC 6 6 2]
def ZC:SL:=[af 14 0,af 15 0,af 16 7,af 17 1,bI 18 14,bD 19 0 18,eO 19 16,bI 20 15,bD 21 1 20,eO 21 17]
def ZB:SL:=[aC 6 6 0]
def a188:AFunc:=⟨3,[0,1,2,6,7,13],[.tmp 6],(sR ZH (sR ZG (.seq (sR ZF (cV 13 (sT ZE) .skip)) (sR ZC (sT ZB))))),false⟩
def zht:SL:=[⟨.v 2,none,.allocL [.int .i64 0,.int .i64 0,.str []]⟩]
def zhs:SL:=[af 3 0,dP 4 195 3,bH 3 2 4]
def a185:AFunc:=⟨1,[0,2],[.cell 2 (some 3)],(sR zht (sT zhs)),true⟩
def zhr:SL:=[aC 6 6 0]
def zhq:SL:=[aC 7 7 0]
def zhp:SL:=[aC 8 8 0]
def Uw:SL:=[af 9 8,af 10 1,cO 11 false 10,fK 12 .lss 9 11]
def Uv:SL:=[af 15 8,dI 16 .gtr 15 0]
def Uu:SL:=[af 17 7,af 18 2,cO 19 true 18,eZ 20 .add 17 19,ah 7 7 20]
def Ut:SL:=[af 21 7,af 22 1,af 23 8,fB 24 0 22 23,aA 25 24,cO 26 true 25,eZ 27 .add 21 26,ah 7 7 27]
def Us:SL:=[af 13 8,aL 14 .add 13 1,ah 8 8 14]
def a186l8:ACode:=(.seq (sR Uw (cV 12 .skip (.exit 0))) (.seq (.block 1 (.seq (sR Uv (cV 16 (.region Uu) .skip)) (.region Ut))) (.region Us)))
def ZI:SL:=[af 28 7,dI 29 .gtr 28 65536]
def ZL:SL:=[aC 6 6 2]
def ZK:SL:=[af 30 0,af 31 0,af 32 1,af 33 2,dM 34 171 32 33,af 35 1,bI 36 30,bD 37 0 36,eO 37 34,bI 38 31,bD 39 1 38,eO 39 35]
def ZJ:SL:=[aC 6 6 0]
def a186:AFunc:=⟨3,[0,1,2,6,7,8,12,16,29],[.tmp 6],(sR zhr (sR zhq (.seq (sR zhp (bL 0 a186l8)) (.seq (sR ZI (cV 29 (sT ZL) .skip)) (sR ZK (sT ZJ)))))),false⟩
def Ou:SL:=[⟨.v 2,none,.allocL [.int .i64 0,.int .i64 0,.str []]⟩]
def Ot:SL:=[af 7 0,dP 8 196 7,ah 3 3 8]
def Oq:SL:=[af 10 3,dP 11 197 10,aQ 9 11,df 12 0 9,df 13 1 9,df 14 2 9,ah 4 4 12,ah 5 5 13,ah 6 6 14]
def Oo:SL:=[af 15 3,cO 16 true 15,aL 17 .gtr 16 0,aQ 18 17,aJ 19 18 true 5,aJ 20 18 true 3,jc 21 18 true true 20,iQ 22 18 true .eql 19 21,gH 23 18 22,aQ 24 23,aJ 25 24 true 6,bW 26 24 true .eql 25 0,iR 27 24 26]
def Om:SL:=[af 28 4,af 29 0,⟨.l 30,none,.build [.int .i64 0,.int .i64 0,.str []] [(0,1,(.c (.int .i64 3))),(1,1,(.l 28)),(2,1,(.l 29))]⟩,bH 3 2 30]
def Ol:SL:=[af 31 0,⟨.l 32,none,.build [.int .i64 0,.int .i64 0,.str []] [(0,1,(.c (.int .i64 2))),(2,1,(.l 31))]⟩,bH 3 2 32]
def a189:AFunc:=⟨1,[0,2,3,4,5,6,27],[.cell 2 (some 3)],(sR Ou (sR Ot (sR Oq (.seq (sR Oo (cV 27 (sT Om) .skip)) (sT Ol))))),true⟩
def Tk:SL:=[⟨.v 2,none,.allocL kA⟩,aC 3 3 0,aC 4 4 0]
def Tj:SL:=[af 7 0,cO 8 true 7,dI 9 .gtr 8 400]
def Ti:SL:=[⟨.l 10,none,.build kA []⟩,bH 8 2 10,aC 3 3 0,aC 4 4 2]
def Za:SL:=[af 11 0,⟨.l 12,none,.build [.str [],.int .i64 0,.int .i64 0,.int .i64 0] [(0,1,(.l 11))]⟩,⟨.l 13,none,.boxH (.l 12)⟩,ah 5 5 13]
def Y9:SL:=[af 14 5,⟨.l 15,none,.call 69 [.pl (.l 14),.pl (.c (.int .i64 0))]⟩,⟨.v 6,none,.allocL kA⟩,bH 8 6 15]
def Y8:SL:=[af 16 5,bI 17 16,bD 18 3 17,aA 19 18,dI 20 .neq 19 0]
def Zb:Plan:=(.seq 0 ⟨.l 21,none,.build kA []⟩ (.seq 1 (af 22 5) (.seq 2 (bI 23 22) (.seq 3 (bD 24 2 23) (.seq 5 (af 26 5) (.seq 6 (bI 27 26) (.seq 7 (bD 28 3 27) (.alt 4 (aA 25 24) (.alt 8 (aA 29 28) (.one 9 (bH 8 2 21) (.seq 10 (ah 3 3 25) (.seq 11 (ah 4 4 29) .fin))) (.one 9 (bH 8 2 21) (.seq 8 (aA 29 28) (.seq 10 (ah 3 3 25) (.seq 11 (ah 4 4 29) .fin))))) (.alt 8 (aA 29 28) (.alt 4 (aA 25 24) (.one 9 (bH 8 2 21) (.seq 10 (ah 3 3 25) (.seq 11 (ah 4 4 29) .fin))) (.one 9 (bH 8 2 21) (.seq 4 (aA 25 24) (.seq 10 (ah 3 3 25) (.seq 11 (ah 4 4 29) .fin))))) (.one 9 (bH 8 2 21) (.seq 4 (aA 25 24) (.seq 8 (aA 29 28) (.seq 10 (ah 3 3 25) (.seq 11 (ah 4 4 29) .fin))))))))))))))
def Y7:SL:=[eQ 30 8 6,bH 8 2 30,aC 3 3 0,aC 4 4 0]
def a44:AFunc:=⟨1,[0,2,3,4,5,6,9,20],[.cell 2 (some 8),.tmp 3,.tmp 4],(sR Tk (.seq (sR Tj (cV 9 (sT Ti) .skip)) (sR Za (sR Y9 (.seq (sR Y8 (cV 20 (.seq (.draw Zb) .ret) .skip)) (sT Y7)))))),true⟩
def Tg:SL:=[iH 1 0,aC 2 2 0]
def Tf:SL:=[eQ 4 8 1,⟨.l 5,none,.call 70 [.pl (.l 4),.pl (.c (.int .i64 (-1))),.pl (.c (.int .i64 1))]⟩,⟨.v 6,none,.un .not (.l 5)⟩]
def Te:SL:=[aC 2 2 0]
def Td:SL:=[eQ 7 8 1,dP 8 71 7,ah 3 3 8]
def Tc:SL:=[af 9 3,dI 10 .gtr 9 500]
def Ta:SL:=[aC 3 3 500]
def S9:SL:=[af 11 3,aL 12 .add 11 1,ah 2 2 12]
def a45:AFunc:=⟨1,[0,1,2,3,6,10],[.tmp 2],(sR Tg (.seq (sR Tf (cV 6 (sT Te) .skip)) (sR Td (.seq (sR Tc (cV 10 (.region Ta) .skip)) (sT S9))))),true⟩
def zgG:SL:=[iH 1 0,dC 2 2 false]
def zgF:SL:=[eQ 3 8 1,⟨.l 4,none,.call 85 [.pl (.l 3),.pl (.c (.int .i64 150)),.pl (.c (.int .i64 400))]⟩,aL 5 .leq 4 400,ah 2 2 5]
def a63:AFunc:=⟨1,[0,1,2],[.tmp 2],(sR zgG (sT zgF)),true⟩
def TB:SL:=[iH 1 0,⟨.v 2,none,.asg 2 (.c .nilp)⟩,aC 3 3 0]
def TA:SL:=[eQ 6 8 1,dP 7 57 6,ah 4 4 7]
def Tz:SL:=[af 9 4,aL 10 .eql 9 0,ah 8 8 10]
def Ty:SL:=[⟨.v 2,none,.asg 2 (.c .nilp)⟩,aC 3 3 1]
def Tx:SL:=[af 12 4,aL 13 .gtr 12 500,ah 11 11 13]
def Tw:SL:=[⟨.v 2,none,.asg 2 (.c .nilp)⟩,aC 3 3 2]
def zhc:SL:=[⟨.l 14,none,.build [.nils,.int .i64 0] []⟩,⟨.l 15,none,.boxH (.l 14)⟩,ah 5 5 15]
def zhd:Plan:=(.seq 0 (af 16 5) (.seq 1 (af 17 5) (.seq 3 (af 19 5) (.seq 4 ⟨.l 20,none,.build kB [(0,1,(.c (.int .i64 4)))]⟩ (.alt 2 (eQ 18 8 1) (.one 5 (dM 21 58 19 20) (.one 6 (gm 22 59 17 18 21) (.seq 7 (bI 23 16) (.seq 8 (bD 24 1 23) (.one 9 (eO 24 22) .fin))))) (.one 5 (dM 21 58 19 20) (.seq 2 (eQ 18 8 1) (.one 6 (gm 22 59 17 18 21) (.seq 7 (bI 23 16) (.seq 8 (bD 24 1 23) (.one 9 (eO 24 22) .fin)))))))))))
def zhb:SL:=[af 25 5,ah 2 5 25,aC 3 3 0]
def a34:AFunc:=⟨1,[0,1,2,3,4,5,8,11],[.tmp 2,.tmp 3],(sR TB (sR TA (.seq (.block 0 (sR Tz (cV 8 (sT Ty) (sR Tx (cV 11 (sT Tw) .skip))))) (sR zhc (.seq (.draw zhd) (sT zhb)))))),false⟩
def zg3:SL:=[iH 1 0,aC 2 2 0]
def zg2:SL:=[eQ 3 8 1,⟨.l 4,none,.call 65 [.pl (.l 3),.pl (.c (.int .i64 (-1))),.pl (.c (.int .i64 1))]⟩,⟨.v 5,none,.un .not (.l 4)⟩]
def zg1:SL:=[aC 2 2 0]
def zg0:SL:=[eQ 6 8 1,dP 7 66 6,ah 2 2 7]
def a42:AFunc:=⟨1,[0,1,2,5],[.tmp 2],(sR zg3 (.seq (sR zg2 (cV 5 (sT zg1) .skip)) (sT zg0))),true⟩
def zrI:SL:=[dC 2 2 false]
def zrH:SL:=[af 3 0,⟨.l 4,none,.bin .lss (.l 3) (.c (.int .i32 128))⟩,aQ 5 4,aJ 6 5 true 0,⟨.l 7,some (.l 5,true),.conv .u8 (.l 6)⟩,⟨.l 8,some (.l 5,true),.call 198 [.pl (.c (.str [32,9,10])),.pl (.l 7)]⟩,bW 9 5 true .geq 8 0,gH 10 5 9,ah 2 2 10]
def a190:AFunc:=⟨1,[0,2],[.tmp 2],(sR zrI (sT zrH)),false⟩
def zrF:SL:=[aC 4 4 0]
def zrE:SL:=[af 5 0,af 6 1,dM 7 123 5 6,ah 4 4 7]
def a198:AFunc:=⟨2,[0,1,4],[.tmp 4],(sR zrF (sT zrE)),false⟩
def Oj:SL:=[dC 2 2 false]
def Oi:SL:=[af 3 0,⟨.l 4,none,.bin .eql (.l 3) (.c (.int .u8 32))⟩,aQ 5 4,aJ 6 5 false 0,⟨.l 7,some (.l 5,false),.bin .eql (.l 6) (.c (.int .u8 9))⟩,fH 8 5 7,aQ 9 8,aJ 10 9 false 0,⟨.l 11,some (.l 9,false),.bin .eql (.l 10) (.c (.int .u8 10))⟩,fH 12 9 11,ah 2 2 12]
def a193:AFunc:=⟨1,[0,2],[.tmp 2],(sR Oj (sT Oi)),true⟩
def zbl:SL:=[⟨.v 4,none,.asg 4 (.c (.str []))⟩,⟨.v 5,none,.asg 5 (.c (.str []))⟩,dC 6 6 false]
def zbk:SL:=[af 8 0,af 9 1,dM 10 112 8 9,ah 7 7 10]
def zbj:SL:=[af 11 7,dI 12 .geq 11 0]
def zbm:Plan:=(.seq 0 (af 13 0) (.seq 1 (af 14 7) (.seq 2 ⟨.l 15,none,.slice none (.l 13) none (some (.l 14))⟩ (.seq 3 (af 16 0) (.seq 4 (af 17 7) (.seq 5 (af 18 1) (.seq 6 (cO 19 true 18) (.seq 7 (eZ 20 .add 17 19) (.seq 8 ⟨.l 21,none,.slice none (.l 16) (some (.l 20)) none⟩ (.seq 9 (ah 4 4 15) (.seq 10 (ah 5 5 21) (.seq 11 (dC 6 6 true) .fin))))))))))))
def zbi:SL:=[af 22 0,ah 4 0 22,⟨.v 5,none,.asg 5 (.c (.str []))⟩,dC 6 6 false]
def a104:AFunc:=⟨2,[0,1,4,5,6,7,12],[.tmp 4,.tmp 5,.tmp 6],(sR zbl (.seq (sR zbk (sR zbj (cV 12 (.seq (.draw zbm) .ret) .skip))) (sT zbi))),true⟩
def zgU:SL:=[iH 2 0,⟨.v 4,none,.asg 4 (.c .nils)⟩]
def zgT:SL:=[⟨.l 14,none,.bslice false (.nils) 0 []⟩,ah 5 5 14]
def zgS:SL:=[aC 6 6 0]
def Y5:SL:=[af 15 6,af 16 1,cO 17 true 16,fK 18 .leq 15 17]
def zgK:SL:=[af 21 1,cO 22 true 21,aL 23 .add 22 1,⟨.l 24,none,.mslice false (.bool false) (.l 23) (.l 23)⟩,ah 7 7 24]
def za:SL:=[af 25 7,af 26 6,bN 27 0 2,aA 28 27,aL 29 .eql 28 0,aQ 30 29,gQ 31 30 false 0 2,fI 32 30 false 31,bW 33 30 false .eql 32 2,gK 34 30 false 33,aJ 35 34 true 6,bW 36 34 true .eql 35 0,ku 37 30 false 34 36,fH 38 30 37,aQ 39 38,gQ 40 39 false 0 2,fI 41 39 false 40,bW 42 39 false .eql 41 3,gK 43 39 false 42,aJ 44 43 true 6,aJ 45 43 true 1,jc 46 43 true true 45,iQ 47 43 true .eql 44 46,ku 48 39 false 43 47,fH 49 39 48,aQ 50 49,gQ 51 50 false 0 2,fI 52 50 false 51,bW 53 50 false .eql 52 4,fH 54 50 53,aQ 55 54,gQ 56 55 false 0 2,fI 57 55 false 56,bW 58 55 false .eql 57 6,fH 59 55 58,fB 60 0 25 26,eO 60 59]
def SN:SL:=[bN 61 0 2,aA 62 61,aL 63 .eql 62 1,aQ 64 63,aJ 65 64 true 6,aJ 66 64 true 1,jc 67 64 true true 66,iQ 68 64 true .lss 65 67,iR 69 64 68]
def SY:Plan:=(.seq 0 (af 70 7) (.seq 1 (af 71 6) (.seq 2 (aL 72 .add 71 1) (.seq 3 (bN 73 1 2) (.seq 4 (iY 74 4 73) (.seq 6 (af 76 1) (.seq 7 (af 77 6) (.seq 8 ⟨.l 78,none,.sidx (.l 76) (.l 77)⟩ (.one 5 (dP 75 72 74) (.seq 9 ⟨.l 79,none,.aidx 256 none (.l 75) (.l 78)⟩ (.seq 10 (fB 80 0 70 72) (.one 11 (eO 80 79) .fin))))))))))))
def SK:SL:=[af 81 5,af 82 7,⟨.l 83,none,.bslice false (.nils) 1 [(0,(.l 82))]⟩,iI 84 0 81 83,ah 5 5 84]
def SI:SL:=[af 19 6,aL 20 .add 19 1,ah 6 6 20]
def a46l10:ACode:=(.seq (sR Y5 (cV 18 .skip (.exit 0))) (.seq (.block 1 (sR zgK (sR za (.seq (sR SN (cV 69 (.draw SY) .skip)) (.region SK))))) (.region SI)))
def NN:SL:=[bN 85 0 2,aA 86 85,dI 87 .eql 86 4]
def NM:SL:=[aC 8 8 0]
def Kg:SL:=[af 88 8,bN 89 7 2,aA 90 89,cO 91 false 90,fK 92 .lss 88 91]
def NL:SL:=[af 95 5,bN 96 7 2,aA 97 96,af 98 8,fB 99 8 97 98,iY 100 8 99,af 101 1,dM 102 46 100 101,dM 103 73 95 102,ah 5 5 103]
def NK:SL:=[af 93 8,aL 94 .add 93 1,ah 8 8 94]
def a46l16:ACode:=(.seq (sR Kg (cV 92 .skip (.exit 2))) (.seq (.block 3 (.region NL)) (.region NK)))
def NJ:SL:=[bN 104 0 2,aA 105 104,dI 106 .eql 105 5]
def NI:SL:=[aC 9 9 0]
def Ke:SL:=[af 107 9,bN 108 7 2,aA 109 108,cO 110 false 109,fK 111 .lss 107 110]
def NH:SL:=[af 114 5,bN 115 7 2,aA 116 115,af 117 9,fB 118 8 116 117,iY 119 8 118,af 120 1,dM 121 46 119 120,dM 122 74 114 121,ah 5 5 122]
def NG:SL:=[af 112 9,aL 113 .add 112 1,ah 9 9 113]
def a46l22:ACode:=(.seq (sR Ke (cV 111 .skip (.exit 4))) (.seq (.block 5 (.region NH)) (.region NG)))
def NF:SL:=[bN 123 0 2,aA 124 123,dI 125 .eql 124 6]
def zgR:SL:=[bN 126 7 2,aA 127 126,⟨.l 128,none,.iaddr 8 (.l 127) (.c (.int .i64 0))⟩,iY 129 8 128,af 130 1,dM 131 46 129 130,ah 10 10 131]
def zgQ:SL:=[aC 11 11 0]
def Y6:SL:=[af 132 11,bN 133 5 2,aA 134 133,fK 135 .lss 132 134]
def zgP:SL:=[af 138 5,af 139 10,dM 140 73 138 139,ah 5 5 140]
def zgO:SL:=[af 136 11,aL 137 .add 136 1,ah 11 11 137]
def a46l29:ACode:=(.seq (sR Y6 (cV 135 .skip (.exit 6))) (.seq (.block 7 (.region zgP)) (.region zgO)))
def SX:SL:=[bN 141 6 2,aA 142 141,dI 143 .lss 142 0]
def SS:SL:=[af 144 5,af 145 10,dP 146 75 145,dM 147 73 144 146,ah 4 4 147]
def Y4:SL:=[af 148 5,ah 12 12 148]
def Y3:SL:=[bN 149 5 2,aA 150 149,ah 13 13 150]
def Y2:SL:=[af 151 13,bN 152 6 2,aA 153 152,fK 154 .lss 151 153]
def zgN:SL:=[af 157 12,af 158 10,dM 159 73 157 158,ah 12 12 159]
def zgM:SL:=[af 160 5,af 161 12,dM 162 74 160 161,ah 5 5 162]
def zgL:SL:=[af 155 13,aL 156 .add 155 1,ah 13 13 156]
def a46l38:ACode:=(.seq (sR Y2 (cV 154 .skip (.exit 8))) (.seq (.block 9 (sR zgN (.region zgM))) (.region zgL)))
def SQ:SL:=[af 163 5,ah 4 5 163]
def a46:AFunc:=⟨2,[0,1,2,4,5,6,7,8,9,10,11,12,13,18,69,87,92,106,111,125,135,143,154],[.tmp 4],(sR zgU (sR zgT (.seq (sR zgS (bL 0 a46l10)) (.seq (sR NN (cV 87 (sR NM (bL 2 a46l16)) .skip)) (.seq (sR NJ (cV 106 (sR NI (bL 4 a46l22)) .skip)) (.seq (sR NF (cV 125 (sR zgR (.seq (sR zgQ (bL 6 a46l29)) (.seq (sR SX (cV 143 (sT SS) .skip)) (sR Y4 (sR Y3 (bL 8 a46l38)))))) .skip)) (sT SQ))))))),true⟩
def zhW:SL:=[aC 4 4 0,aC 5 5 0,dC 6 6 false]
def zhV:SL:=[af 9 1,ah 7 7 9]
def U3:SL:=[af 10 7,af 11 0,cO 12 false 11,fK 13 .lss 10 12]
def zad:SL:=[af 16 0,af 17 7,fB 18 0 16 17,aA 19 18,dP 20 155 19,ah 8 8 20]
def zac:SL:=[af 21 8,dI 22 .geq 21 0]
def zab:SL:=[af 23 7,af 24 8,ah 4 7 23,ah 5 8 24,dC 6 6 true]
def zhU:SL:=[af 14 7,aL 15 .add 14 1,ah 7 7 15]
def a152l7:ACode:=(.seq (sR U3 (cV 13 .skip (.exit 0))) (.seq (.block 1 (sR zad (sR zac (cV 22 (sT zab) .skip)))) (.region zhU)))
def zhT:SL:=[aC 4 4 0,aC 5 5 0,dC 6 6 false]
def a152:AFunc:=⟨2,[0,1,4,5,6,7,8,13,22],[.tmp 4,.tmp 5,.tmp 6],(sR zhW (.seq (sR zhV (bL 0 a152l7)) (sT zhT))),true⟩
def zho:SL:=[⟨.v 4,none,.asg 4 (.c (.str []))⟩]
def zhn:SL:=[af 5 0,af 6 1,dM 7 202 5 6,ah 4 4 7]
def a194:AFunc:=⟨2,[0,1,4],[.tmp 4],(sR zho (sT zhn)),true⟩
def Oh:SL:=[⟨.v 2,none,.allocL [.int .i64 0,.int .i64 0,.str []]⟩]
def Og:SL:=[af 7 0,dP 8 203 7,ah 3 3 8]
def Oe:SL:=[af 10 3,dP 11 204 10,aQ 9 11,df 12 0 9,df 13 1 9,df 14 2 9,ah 4 4 12,ah 5 5 13,ah 6 6 14]
def Od:SL:=[af 15 3,⟨.l 16,none,.bin .eql (.l 15) (.c (.str []))⟩,aQ 17 16,aJ 18 17 false 5,aJ 19 17 false 3,jc 20 17 false true 19,iQ 21 17 false .neq 18 20,fH 22 17 21,aQ 23 22,aJ 24 23 false 6,bW 25 23 false .neq 24 0,iq 26 23 25]
def Oc:SL:=[af 27 0,⟨.l 28,none,.build [.int .i64 0,.int .i64 0,.str []] [(0,1,(.c (.int .i64 2))),(2,1,(.l 27))]⟩,bH 3 2 28]
def Ob:SL:=[af 29 4,af 30 0,⟨.l 31,none,.build [.int .i64 0,.int .i64 0,.str []] [(0,1,(.c (.int .i64 3))),(1,1,(.l 29)),(2,1,(.l 30))]⟩,bH 3 2 31]
def a195:AFunc:=⟨1,[0,2,3,4,5,6,26],[.cell 2 (some 3)],(sR Oh (sR Og (sR Oe (.seq (sR Od (cV 26 (sT Oc) .skip)) (sT Ob))))),true⟩
def zhm:SL:=[⟨.v 2,none,.asg 2 (.c (.str []))⟩]
def Ur:SL:=[af 3 0,cO 4 true 3,aL 5 .gtr 4 0,aQ 6 5,aJ 7 6 true 0,⟨.l 8,some (.l 6,true),.sidx (.l 7) (.c (.int .i64 0))⟩,⟨.l 9,some (.l 6,true),.call 193 [.pl (.l 8)]⟩,iR 10 6 9]
def Uq:SL:=[af 11 0,⟨.l 12,none,.slice none (.l 11) (some (.c (.int .i64 1))) none⟩,ah 0 0 12]
def a196l3:ACode:=(.seq (sR Ur (cV 10 .skip (.exit 0))) (.block 1 (.region Uq)))
def Uo:SL:=[af 13 0,cO 14 true 13,aL 15 .gtr 14 0,aQ 16 15,aJ 17 16 true 0,aJ 18 16 true 0,jc 19 16 true true 18,bW 20 16 true .sub 19 1,⟨.l 21,some (.l 16,true),.sidx (.l 17) (.l 20)⟩,⟨.l 22,some (.l 16,true),.call 193 [.pl (.l 21)]⟩,iR 23 16 22]
def Un:SL:=[af 24 0,af 25 0,cO 26 true 25,aL 27 .sub 26 1,⟨.l 28,none,.slice none (.l 24) none (some (.l 27))⟩,ah 0 0 28]
def a196l6:ACode:=(.seq (sR Uo (cV 23 .skip (.exit 2))) (.block 3 (.region Un)))
def zhl:SL:=[af 29 0,ah 2 0 29]
def a196:AFunc:=⟨1,[0,2,10,23],[.tmp 2],(sR zhm (.seq (bL 0 a196l3) (.seq (bL 2 a196l6) (sT zhl)))),true⟩
def ZA:SL:=[aC 2 2 0,aC 3 3 0,aC 4 4 0]
def Zz:SL:=[aC 5 5 0]
def Um:SL:=[af 12 5,af 13 0,cO 14 true 13,eZ 15 .lss 12 14,aQ 16 15,aJ 17 16 true 0,aJ 18 16 true 5,⟨.l 19,some (.l 16,true),.sidx (.l 17) (.l 18)⟩,⟨.l 20,some (.l 16,true),.bin .eql (.l 19) (.c (.int .u8 32))⟩,gK 21 16 true 20,aJ 22 21 false 0,aJ 23 21 false 5,⟨.l 24,some (.l 21,false),.sidx (.l 22) (.l 23)⟩,⟨.l 25,some (.l 21,false),.bin .eql (.l 24) (.c (.int .u8 9))⟩,lc 26 16 true 21 25,gK 27 16 true 26,aJ 28 27 false 0,aJ 29 27 false 5,⟨.l 30,some (.l 27,false),.sidx (.l 28) (.l 29)⟩,⟨.l 31,some (.l 27,false),.bin .eql (.l 30) (.c (.int .u8 10))⟩,lc 32 16 true 27 31,iR 33 16 32]
def Ue:SL:=[af 34 5,aL 35 .add 34 1,ah 5 5 35]
def a197l4:ACode:=(.seq (sR Um (cV 33 .skip (.exit 0))) (.block 1 (.region Ue)))
def KC:SL:=[⟨.l 36,none,.build [.bool false,.nils] []⟩,⟨.v 6,none,.allocL [.bool false,.nils]⟩,bH 2 6 36]
def KA:SL:=[af 37 5,af 38 0,cO 39 true 38,eZ 40 .lss 37 39,aQ 41 40,aJ 42 41 true 0,aJ 43 41 true 5,⟨.l 44,some (.l 41,true),.sidx (.l 42) (.l 43)⟩,⟨.l 45,some (.l 41,true),.bin .eql (.l 44) (.c (.int .u8 45))⟩,gK 46 41 true 45,aJ 47 46 false 0,aJ 48 46 false 5,⟨.l 49,some (.l 46,false),.sidx (.l 47) (.l 48)⟩,⟨.l 50,some (.l 46,false),.bin .eql (.l 49) (.c (.int .u8 43))⟩,lc 51 41 true 46 50,iR 52 41 51]
def Kz:SL:=[af 53 0,af 54 5,⟨.l 55,none,.sidx (.l 53) (.l 54)⟩,⟨.l 56,none,.bin .eql (.l 55) (.c (.int .u8 45))⟩,bN 57 0 6,eO 57 56]
def Ky:SL:=[af 58 5,aL 59 .add 58 1,ah 5 5 59]
def Zv:SL:=[⟨.l 60,none,.bslice false (.int .i64 0) 0 []⟩,ah 7 7 60,aC 8 8 (-1),aC 9 9 0]
def uQ:SL:=[af 61 5,af 62 0,cO 63 true 62,eZ 64 .lss 61 63,aQ 65 64,aJ 66 65 true 0,aJ 67 65 true 5,⟨.l 68,some (.l 65,true),.sidx (.l 66) (.l 67)⟩,⟨.l 69,some (.l 65,true),.call 205 [.pl (.l 68)]⟩,gK 70 65 true 69,aJ 71 70 false 0,aJ 72 70 false 5,⟨.l 73,some (.l 70,false),.sidx (.l 71) (.l 72)⟩,⟨.l 74,some (.l 70,false),.bin .eql (.l 73) (.c (.int .u8 46))⟩,gK 75 70 false 74,aJ 76 75 true 8,bW 77 75 true .lss 76 0,ku 78 70 false 75 77,lc 79 65 true 70 78,iR 80 65 79]
def uP:SL:=[af 81 0,af 82 5,⟨.l 83,none,.sidx (.l 81) (.l 82)⟩,⟨.v 84,none,.bin .eql (.l 83) (.c (.int .u8 46))⟩]
def uO:SL:=[af 85 9,aL 86 .eql 85 0,aQ 87 86,aJ 88 87 true 5,bW 89 87 true .add 88 1,aJ 90 87 true 0,jc 91 87 true true 90,iQ 92 87 true .geq 89 91,gK 93 87 true 92,aJ 94 93 false 0,aJ 95 93 false 5,bW 96 93 false .add 95 1,⟨.l 97,some (.l 93,false),.sidx (.l 94) (.l 96)⟩,⟨.l 98,some (.l 93,false),.call 205 [.pl (.l 97)]⟩,⟨.l 99,some (.l 93,false),.un .not (.l 98)⟩,lc 100 87 true 93 99,iR 101 87 100]
def uN:SL:=[aC 2 2 0,aC 3 3 0,aC 4 4 0]
def uM:SL:=[aC 8 8 0]
def uL:SL:=[af 102 9,aL 103 .add 102 1,ah 9 9 103]
def uK:SL:=[af 104 8,dI 105 .lss 104 6]
def uJ:SL:=[af 106 0,af 107 5,⟨.l 108,none,.sidx (.l 106) (.l 107)⟩,⟨.l 109,none,.bin .sub (.l 108) (.c (.int .u8 48))⟩,⟨.l 110,none,.conv .i64 (.l 109)⟩,⟨.l 111,none,.bslice false (.int .i64 0) 1 [(0,(.l 110))]⟩,af 112 7,iI 113 0 111 112,ah 7 7 113]
def uI:SL:=[af 114 8,dI 115 .geq 114 0]
def uH:SL:=[af 116 8,aL 117 .add 116 1,ah 8 8 117]
def uG:SL:=[af 118 5,aL 119 .add 118 1,ah 5 5 119]
def a197l21:ACode:=(.seq (sR uQ (cV 80 .skip (.exit 2))) (.block 3 (.seq (sR uP (cV 84 (.seq (sR uO (cV 101 (sT uN) .skip)) (.region uM)) (sR uL (.seq (sR uK (cV 105 (.region uJ) .skip)) (sR uI (cV 115 (.region uH) .skip)))))) (.region uG))))
def Ul:SL:=[af 120 9,dI 121 .eql 120 0]
def Uk:SL:=[aC 2 2 0,aC 3 3 0,aC 4 4 0]
def Uj:SL:=[af 122 8,dI 123 .lss 122 6]
def Ui:SL:=[⟨.l 124,none,.bslice false (.int .i64 0) 1 [(0,(.c (.int .i64 0)))]⟩,af 125 7,iI 126 0 124 125,ah 7 7 126]
def Uh:SL:=[af 127 8,dI 128 .lss 127 0]
def Ug:SL:=[aC 8 8 0]
def Uf:SL:=[af 129 8,aL 130 .add 129 1,ah 8 8 130]
def a197l29:ACode:=(.seq (sR Uj (cV 123 .skip (.exit 4))) (.block 5 (sR Ui (.seq (sR Uh (cV 128 (.region Ug) .skip)) (.region Uf)))))
def Zy:SL:=[af 131 7,dP 132 206 131,bN 133 1 6,eO 133 132]
def Zx:SL:=[eQ 135 2 6,dP 136 207 135,aQ 134 136,df 137 0 134,df 138 1 134,ah 10 10 137,ah 11 11 138]
def Zw:SL:=[af 139 10,af 140 5,af 141 11,ah 2 10 139,ah 3 5 140,ah 4 11 141]
def a197:AFunc:=⟨1,[0,2,3,4,5,6,7,8,9,10,11,33,52,80,84,101,105,115,121,123,128],[.tmp 2,.tmp 3,.tmp 4],(sR ZA (sR Zz (.seq (bL 0 a197l4) (sR KC (.seq (sR KA (cV 52 (sR Kz (.region Ky)) .skip)) (sR Zv (.seq (bL 2 a197l21) (.seq (sR Ul (cV 121 (sT Uk) .skip)) (.seq (bL 4 a197l29) (sR Zy (sR Zx (sT Zw)))))))))))),true⟩
def YV:SL:=[⟨.v 4,none,.allocL kA⟩]
def YU:SL:=[af 7 0,af 8 1,dM 9 92 7 8,⟨.l 10,none,.bslice false (.agg kA) 1 [(0,(.l 9))]⟩,ah 5 5 10]
def NC:SL:=[af 11 0,dP 12 93 11,dI 13 .eql 12 124]
def YT:SL:=[af 14 0,bI 15 14,bD 16 1 15,aA 17 16,aL 18 .add 17 1,bI 19 14,bD 20 1 19,eO 20 18]
def YS:SL:=[af 21 0,af 22 1,dM 23 92 21 22,⟨.v 6,none,.allocL kA⟩,bH 8 6 23]
def YR:SL:=[af 24 5,eQ 25 8 6,⟨.l 26,none,.bslice false (.agg kA) 1 [(0,(.l 25))]⟩,iI 27 8 24 26,ah 5 5 27]
def a69l6:ACode:=(.seq (sR NC (cV 13 .skip (.exit 0))) (.block 1 (sR YT (sR YS (.region YR)))))
def YQ:SL:=[af 28 5,⟨.l 29,none,.call 3 [.pl (.c (.int .i64 5)),.pl (.l 28)]⟩,bH 8 4 29]
def a69:AFunc:=⟨2,[0,1,4,5,6,13],[.cell 4 (some 8)],(sR YV (sR YU (.seq (bL 0 a69l6) (sT YQ)))),false⟩
def zgu:SL:=[iH 3 0,dC 6 6 false]
def zgt:SL:=[bN 9 0 3,aA 10 9,ah 7 7 10]
def qZ:SL:=[af 11 2,aL 12 .gtr 11 100,aQ 13 12,aJ 14 13 false 7,bW 15 13 false .lss 14 0,fH 16 13 15,aQ 17 16,aJ 18 17 false 7,bW 19 17 false .gtr 18 6,fH 20 17 19,aQ 21 20,aJ 22 21 false 7,bW 23 21 false .neq 22 1,gK 24 21 false 23,gQ 25 24 true 1 3,⟨.l 26,some (.l 24,true),.load (some 4) (.l 25)⟩,⟨.l 27,some (.l 24,true),.build kC []⟩,⟨.l 28,some (.l 24,true),.eqG true (List.replicate 4 1) (.l 26) (.l 27)⟩,ku 29 21 false 24 28,fH 30 21 29,aQ 31 30,aJ 32 31 false 7,bW 33 31 false .neq 32 6,gK 34 31 false 33,gQ 35 34 true 5 3,fI 36 34 true 35,bW 37 34 true .neq 36 0,gK 38 34 true 37,gQ 39 38 false 6 3,fI 40 38 false 39,bW 41 38 false .neq 40 0,lc 42 34 true 38 41,ku 43 31 false 34 42,fH 44 31 43,aQ 45 44,aJ 46 45 false 7,bW 47 45 false .lss 46 4,gK 48 45 false 47,gQ 49 48 true 7 3,fI 50 48 true 49,jc 51 48 true false 50,bW 52 48 true .gtr 51 0,ku 53 45 false 48 52,iq 54 45 53]
def zgr:SL:=[dC 6 6 false]
def CO:SL:=[af 55 7,aL 56 .eql 55 0,aQ 57 56,aJ 58 57 true 1,bW 59 57 true .eql 58 4,gH 60 57 59,aQ 61 60,aJ 62 61 false 7,bW 63 61 false .eql 62 4,gK 64 61 false 63,aJ 65 64 false 7,bW 66 64 false .eql 65 5,lc 67 61 false 64 66,gK 68 61 false 67,aJ 69 68 true 7,aJ 70 68 true 1,iQ 71 68 true .eql 69 70,gK 72 68 true 71,gQ 73 72 false 7 3,fI 74 72 false 73,jc 75 72 false false 74,bW 76 72 false .lss 75 2,lc 77 68 true 72 76,ku 78 61 false 68 77,iq 79 61 78]
def zgq:SL:=[dC 6 6 false]
def yJ:SL:=[af 80 7,aL 81 .eql 80 6,aQ 82 81,gQ 83 82 true 7 3,fI 84 82 true 83,jc 85 82 true false 84,bW 86 82 true .neq 85 1,gK 87 82 true 86,gQ 88 87 false 5 3,fI 89 87 false 88,bW 90 87 false .lss 89 0,lc 91 82 true 87 90,gK 92 82 true 91,gQ 93 92 false 5 3,fI 94 92 false 93,bW 95 92 false .gtr 94 50,lc 96 82 true 92 95,gK 97 82 true 96,gQ 98 97 false 6 3,fI 99 97 false 98,bW 100 97 false .gtr 99 50,lc 101 82 true 97 100,gK 102 82 true 101,gQ 103 102 false 6 3,fI 104 102 false 103,gQ 105 102 false 5 3,fI 106 102 false 105,iQ 107 102 false .lss 104 106,gK 108 102 false 107,gQ 109 108 true 6 3,fI 110 108 true 109,bW 111 108 true .neq 110 (-1),ku 112 102 false 108 111,lc 113 82 true 102 112,iR 114 82 113]
def zgp:SL:=[dC 6 6 false]
def zgo:SL:=[aC 8 8 0]
def Sy:SL:=[af 115 8,bN 116 7 3,aA 117 116,cO 118 false 117,fK 119 .lss 115 118]
def YP:SL:=[bN 122 7 3,aA 123 122,af 124 8,fB 125 8 123 124,iY 126 8 125,af 127 7,af 128 2,aL 129 .add 128 1,gm 130 70 126 127 129,⟨.v 131,none,.un .not (.l 130)⟩]
def YO:SL:=[dC 6 6 false]
def YN:SL:=[af 120 8,aL 121 .add 120 1,ah 8 8 121]
def a70l13:ACode:=(.seq (sR Sy (cV 119 .skip (.exit 0))) (.seq (.block 1 (sR YP (cV 131 (sT YO) .skip))) (.region YN)))
def zgs:SL:=[dC 6 6 true]
def a70:AFunc:=⟨3,[0,1,2,3,6,7,8,54,79,114,119,131],[.tmp 6],(sR zgu (sR zgt (.seq (sR qZ (cV 54 (sT zgr) .skip)) (.seq (sR CO (cV 79 (sT zgq) .skip)) (.seq (sR yJ (cV 114 (sT zgp) .skip)) (.seq (sR zgo (bL 0 a70l13)) (sT zgs))))))),true⟩
def NB:SL:=[iH 1 0,aC 2 2 0]
def NA:SL:=[bN 5 0 1,aA 6 5,aL 7 .geq 6 1,aQ 8 7,gQ 9 8 true 0 1,fI 10 8 true 9,bW 11 8 true .leq 10 3,iR 12 8 11]
def Ns:SL:=[aC 2 2 1]
def zgn:SL:=[aC 3 3 0]
def zgm:SL:=[aC 4 4 0]
def Sr:SL:=[af 13 4,bN 14 7 1,aA 15 14,cO 16 false 15,fK 17 .lss 13 16]
def YM:SL:=[af 20 3,bN 21 7 1,aA 22 21,af 23 4,fB 24 8 22 23,iY 25 8 24,dP 26 71 25,eZ 27 .add 20 26,ah 3 3 27]
def YL:SL:=[af 28 3,dI 29 .gtr 28 500]
def YK:SL:=[aC 2 2 1000]
def YJ:SL:=[af 18 4,aL 19 .add 18 1,ah 4 4 19]
def a71l10:ACode:=(.seq (sR Sr (cV 17 .skip (.exit 0))) (.seq (.block 1 (sR YM (sR YL (cV 29 (sT YK) .skip)))) (.region YJ)))
def Nz:SL:=[bN 30 0 1,aA 31 30,dI 32 .eql 31 5]
def Ny:SL:=[af 33 3,bN 34 7 1,aA 35 34,cO 36 false 35,eZ 37 .add 33 36,aL 38 .sub 37 1,ah 3 3 38]
def Nw:SL:=[bN 39 0 1,aA 40 39,aL 41 .eql 40 6,aQ 42 41,gQ 43 42 true 6 1,fI 44 42 true 43,bW 45 42 true .lss 44 0,iR 46 42 45]
def Nv:SL:=[bN 47 5 1,aA 48 47,af 49 3,eZ 50 .mul 48 49,af 51 3,eZ 52 .add 50 51,aL 53 .add 52 1,ah 3 3 53]
def Nu:SL:=[bN 54 0 1,aA 55 54,dI 56 .eql 55 6]
def Nt:SL:=[bN 57 5 1,aA 58 57,af 59 3,eZ 60 .mul 58 59,bN 61 6 1,aA 62 61,bN 63 5 1,aA 64 63,eZ 65 .sub 62 64,af 66 3,aL 67 .add 66 1,eZ 68 .mul 65 67,eZ 69 .add 60 68,ah 3 3 69]
def Sw:SL:=[af 70 3,dI 71 .gtr 70 500]
def Sv:SL:=[aC 2 2 1000]
def Su:SL:=[af 72 3,ah 2 3 72]
def a71:AFunc:=⟨1,[0,1,2,3,4,12,17,29,32,46,56,71],[.tmp 2],(sR NB (.seq (sR NA (cV 12 (sT Ns) .skip)) (sR zgn (.seq (sR zgm (bL 0 a71l10)) (.seq (sR Nz (cV 32 (.region Ny) .skip)) (.seq (sR Nw (cV 46 (.region Nv) (sR Nu (cV 56 (.region Nt) .skip)))) (.seq (sR Sw (cV 71 (sT Sv) .skip)) (sT Su)))))))),true⟩
def zfJ:SL:=[iH 3 0,aC 6 6 0]
def zfI:SL:=[aC 7 7 1]
def zfH:SL:=[aC 8 8 0]
def Nr:SL:=[af 9 8,bN 10 7 3,aA 11 10,cO 12 false 11,eZ 13 .lss 9 12,aQ 14 13,aJ 15 14 true 7,aJ 16 14 true 2,iQ 17 14 true .leq 15 16,gH 18 14 17,aQ 19 18,aJ 20 19 true 1,bW 21 19 true .gtr 20 0,iR 22 19 21]
def Sg:SL:=[af 25 7,bN 26 7 3,aA 27 26,af 28 8,fB 29 8 27 28,iY 30 8 29,af 31 1,aL 32 .sub 31 1,af 33 2,af 34 7,eZ 35 .sub 33 34,gm 36 85 30 32 35,eZ 37 .add 25 36,ah 7 7 37]
def Sd:SL:=[af 23 8,aL 24 .add 23 1,ah 8 8 24]
def a85l6:ACode:=(.seq (sR Nr (cV 22 .skip (.exit 0))) (.seq (.block 1 (.region Sg)) (.region Sd)))
def Yj:SL:=[af 38 1,dI 39 .leq 38 0]
def Yi:SL:=[af 40 2,aL 41 .add 40 1,ah 6 6 41]
def Yh:SL:=[af 42 7,ah 6 7 42]
def a85:AFunc:=⟨3,[0,1,2,3,6,7,8,22,39],[.tmp 6],(sR zfJ (sR zfI (.seq (sR zfH (bL 0 a85l6)) (.seq (sR Yj (cV 39 (sT Yi) .skip)) (sT Yh))))),true⟩
def Yg:SL:=[⟨.v 4,none,.allocL kA⟩]
def Yf:SL:=[af 6 0,af 7 1,dM 8 87 6 7,⟨.l 9,none,.bslice false (.agg kA) 1 [(0,(.l 8))]⟩,ah 5 5 9]
def Sc:SL:=[af 10 0,⟨.v 11,none,.call 88 [.pl (.l 10),.pl (.c (.int .u8 124))]⟩]
def Ye:SL:=[af 12 5,af 13 0,af 14 1,dM 15 87 13 14,⟨.l 16,none,.bslice false (.agg kA) 1 [(0,(.l 15))]⟩,iI 17 8 12 16,ah 5 5 17]
def a86l4:ACode:=(.seq (sR Sc (cV 11 .skip (.exit 0))) (.block 1 (.region Ye)))
def zfG:SL:=[af 18 5,⟨.l 19,none,.call 89 [.pl (.c (.int .i64 5)),.pl (.l 18)]⟩,bH 8 4 19]
def a86:AFunc:=⟨2,[0,1,4,5,11],[.cell 4 (some 8)],(sR Yg (sR Yf (.seq (bL 0 a86l4) (sT zfG)))),false⟩
def SH:SL:=[iH 1 0,aC 2 2 0]
def SG:SL:=[eQ 3 8 1,dP 4 81 3,⟨.v 5,none,.un .not (.l 4)⟩]
def SF:SL:=[aC 2 2 0]
def SE:SL:=[eQ 6 8 1,dP 7 82 6,⟨.l 8,none,.minI (.l 7) (.c (.int .i64 500))⟩,aL 9 .add 8 1,ah 2 2 9]
def a57:AFunc:=⟨1,[0,1,2,5],[.tmp 2],(sR SH (.seq (sR SG (cV 5 (sT SF) .skip)) (sT SE))),true⟩
def xm:SL:=[iH 4 1,aC 6 6 0]
def xk:SL:=[bN 10 0 4,⟨.v 11,none,.load none (.l 10)⟩]
def wZ:SL:=[gp 13 .eql 11 1,ah 12 12 13]
def wU:SL:=[af 14 0,bN 15 1 4,iY 16 4 15,af 17 2,⟨.l 18,none,.build kB [(0,1,(.c (.int .i64 0))),(1,4,(.l 16)),(5,1,(.l 17))]⟩,dM 19 58 14 18,ah 6 6 19]
def wS:SL:=[gp 21 .eql 11 2,ah 20 20 21]
def wQ:SL:=[af 22 0,af 23 2,⟨.l 24,none,.build kB [(0,1,(.c (.int .i64 1))),(5,1,(.l 23))]⟩,dM 25 58 22 24,ah 6 6 25]
def wP:SL:=[gp 27 .eql 11 3,ah 26 26 27]
def wO:SL:=[af 28 0,af 29 2,⟨.l 30,none,.build kB [(0,1,(.c (.int .i64 2))),(5,1,(.l 29))]⟩,dM 31 58 28 30,ah 6 6 31]
def wN:SL:=[gp 33 .eql 11 4,ah 32 32 33]
def wM:SL:=[bN 34 7 4,aA 35 34,cO 36 false 35,aL 37 .sub 36 1,ah 7 7 37]
def tJ:SL:=[af 38 7,dI 39 .geq 38 0]
def tH:SL:=[af 42 0,bN 43 7 4,aA 44 43,af 45 7,fB 46 8 44 45,iY 47 8 46,af 48 2,gm 49 59 42 47 48,ah 2 2 49]
def tF:SL:=[af 40 7,aL 41 .sub 40 1,ah 7 7 41]
def a59l13:ACode:=(.seq (sR tJ (cV 39 .skip (.exit 1))) (.seq (.block 2 (.region tH)) (.region tF)))
def xh:SL:=[gp 51 .eql 11 5,ah 50 50 51]
def xg:SL:=[af 52 0,bN 53 7 4,aA 54 53,bN 55 7 4,aA 56 55,cO 57 false 56,aL 58 .sub 57 1,fB 59 8 54 58,iY 60 8 59,af 61 2,gm 62 59 52 60 61,ah 8 8 62]
def xe:SL:=[bN 63 7 4,aA 64 63,cO 65 false 64,aL 66 .sub 65 2,ah 9 9 66]
def tC:SL:=[af 67 9,dI 68 .geq 67 0]
def tu:SL:=[af 71 0,af 72 0,bN 73 7 4,aA 74 73,af 75 9,fB 76 8 74 75,iY 77 8 76,af 78 2,gm 79 59 72 77 78,af 80 8,⟨.l 81,none,.build kB [(0,1,(.c (.int .i64 3))),(5,1,(.l 79)),(6,1,(.l 80))]⟩,dM 82 58 71 81,ah 8 8 82]
def tq:SL:=[af 69 9,aL 70 .sub 69 1,ah 9 9 70]
def a59l20:ACode:=(.seq (sR tC (cV 68 .skip (.exit 3))) (.seq (.block 4 (.region tu)) (.region tq)))
def wY:SL:=[af 83 8,ah 6 8 83]
def wX:SL:=[gp 85 .eql 11 6,ah 84 84 85]
def wW:SL:=[af 86 0,eQ 87 8 4,af 88 2,gm 89 83 86 87 88,ah 6 6 89]
def wV:SL:=[af 90 2,ah 6 2 90]
def a59:AFunc:=⟨3,[0,1,2,4,6,7,8,9,11,12,20,26,32,39,50,68,84],[.tmp 6],(sR xm (.seq (sR xk (.block 0 (sR wZ (cV 12 (sT wU) (sR wS (cV 20 (sT wQ) (sR wP (cV 26 (sT wO) (sR wN (cV 32 (sR wM (bL 1 a59l13)) (sR xh (cV 50 (sR xg (.seq (sR xe (bL 3 a59l20)) (sT wY))) (sR wX (cV 84 (sT wW) .skip)))))))))))))) (sT wV))),false⟩
def Y0:SL:=[iH 3 1,aC 4 4 0]
def Y1:Plan:=(.seq 0 (af 5 0) (.seq 1 (af 6 0) (.seq 2 (bI 7 6) (.seq 3 (bD 8 0 7) (.seq 5 (eQ 10 7 3) (.alt 4 (aA 9 8) (.one 6 ⟨.l 11,none,.bslice false (.agg kB) 1 [(0,(.l 10))]⟩ (.one 7 ⟨.l 12,none,.append true 7 (.l 9) (.l 11)⟩ (.seq 8 (bI 13 5) (.seq 9 (bD 14 0 13) (.one 10 (eO 14 12) .fin))))) (.one 6 ⟨.l 11,none,.bslice false (.agg kB) 1 [(0,(.l 10))]⟩ (.seq 4 (aA 9 8) (.one 7 ⟨.l 12,none,.append true 7 (.l 9) (.l 11)⟩ (.seq 8 (bI 13 5) (.seq 9 (bD 14 0 13) (.one 10 (eO 14 12) .fin))))))))))))
def YZ:SL:=[af 15 0,bI 16 15,bD 17 0 16,aA 18 17,cO 19 false 18,aL 20 .sub 19 1,ah 4 4 20]
def a58:AFunc:=⟨2,[0,1,3,4],[.tmp 4],(sR Y0 (.seq (.draw Y1) (sT YZ))),false⟩
def zgE:SL:=[⟨.v 3,none,.boxH (.v 0)⟩,⟨.v 5,none,.boxH (.v 2)⟩,dC 6 6 false]
def yX:SL:=[⟨.l 7,none,.load none (.v 5)⟩,aL 8 .gtr 7 100,aQ 9 8,gQ 10 9 false 0 3,fI 11 9 false 10,bW 12 9 false .neq 11 1,gK 13 9 false 12,gQ 14 13 true 1 3,⟨.l 15,some (.l 13,true),.load (some 4) (.l 14)⟩,⟨.l 16,some (.l 13,true),.build kC []⟩,⟨.l 17,some (.l 13,true),.eqG true (List.replicate 4 1) (.l 15) (.l 16)⟩,ku 18 9 false 13 17,fH 19 9 18,aQ 20 19,gQ 21 20 false 0 3,fI 22 20 false 21,bW 23 20 false .neq 22 6,gK 24 20 false 23,gQ 25 24 true 5 3,fI 26 24 true 25,bW 27 24 true .neq 26 0,gK 28 24 true 27,gQ 29 28 false 6 3,fI 30 28 false 29,bW 31 28 false .neq 30 0,lc 32 24 true 28 31,ku 33 20 false 24 32,iq 34 20 33]
def wI:SL:=[dC 6 6 false]
def yQ:SL:=[bN 35 0 3,⟨.v 36,none,.load none (.l 35)⟩]
def yP:SL:=[gp 38 .eql 36 0,ah 37 37 38]
def yO:SL:=[bN 39 7 3,aA 40 39,cO 41 false 40,aL 42 .eql 41 0,aQ 43 42,aJ 44 43 true 1,bW 45 43 true .neq 44 4,gH 46 43 45,ah 6 6 46]
def yN:SL:=[gp 48 .eql 36 1,ah 47 47 48]
def yM:SL:=[gp 49 .eql 36 2,ah 47 47 49]
def yL:SL:=[gp 50 .eql 36 3,ah 47 47 50]
def yK:SL:=[bN 51 7 3,aA 52 51,cO 53 false 52,aL 54 .eql 53 0,ah 6 6 54]
def yV:SL:=[gp 56 .eql 36 4,ah 55 55 56]
def yU:SL:=[gp 57 .eql 36 5,ah 55 55 57]
def yT:SL:=[af 58 1,bN 59 0 3,aA 60 59,eZ 61 .eql 58 60,aQ 62 61,gQ 63 62 false 7 3,fI 64 62 false 63,jc 65 62 false false 64,bW 66 62 false .lss 65 2,iq 67 62 66]
def yS:SL:=[dC 6 6 false]
def yR:SL:=[gp 69 .eql 36 6,ah 68 68 69]
def pI:SL:=[bN 70 7 3,aA 71 70,cO 72 false 71,aL 73 .neq 72 1,aQ 74 73,gQ 75 74 false 5 3,fI 76 74 false 75,bW 77 74 false .lss 76 0,fH 78 74 77,aQ 79 78,gQ 80 79 false 5 3,fI 81 79 false 80,bW 82 79 false .gtr 81 50,fH 83 79 82,aQ 84 83,gQ 85 84 false 6 3,fI 86 84 false 85,bW 87 84 false .neq 86 (-1),gK 88 84 false 87,gQ 89 88 true 6 3,fI 90 88 true 89,gQ 91 88 true 5 3,fI 92 88 true 91,iQ 93 88 true .lss 90 92,gK 94 88 true 93,gQ 95 94 false 6 3,fI 96 94 false 95,bW 97 94 false .gtr 96 50,lc 98 88 true 94 97,ku 99 84 false 88 98,iq 100 84 99]
def wL:SL:=[dC 6 6 false]
def wK:SL:=[dC 6 6 false]
def wJ:SL:=[bN 101 7 3,aA 102 101,⟨.l 103,none,.mkfn 90 [(.v 3),(.v 5)]⟩,dM 104 91 102 103,⟨.l 105,none,.un .not (.l 104)⟩,ah 6 6 105]
def a65:AFunc:=⟨3,[0,1,2,3,5,6,34,36,37,47,55,67,68,100],[.tmp 6],(sR zgE (.seq (sR yX (cV 34 (sT wI) .skip)) (.seq (sR yQ (.block 0 (sR yP (cV 37 (sT yO) (.seq (sR yN (.cond false (.v 47) .skip (sR yM (.cond false (.v 47) .skip (.region yL))))) (.cond false (.v 47) (sT yK) (.seq (sR yV (.cond false (.v 55) .skip (.region yU))) (.cond false (.v 55) (sR yT (cV 67 (sT yS) .skip)) (sR yR (cV 68 (sR pI (cV 100 (sT wL) .skip)) (sT wK))))))))))) (sT wJ)))),true⟩
def Kc:SL:=[iH 1 0,aC 2 2 0]
def Kb:SL:=[aC 3 3 0]
def Ka:SL:=[bN 8 0 1,⟨.v 9,none,.load none (.l 8)⟩]
def J9:SL:=[gp 11 .eql 9 1,ah 10 10 11]
def NE:SL:=[aC 2 2 1]
def ND:SL:=[gp 13 .eql 9 6,ah 12 12 13]
def SC:Plan:=(.seq 0 (bN 14 5 1) (.seq 2 (bN 16 7 1) (.seq 3 (aA 17 16) (.seq 4 ⟨.l 18,none,.iaddr 8 (.l 17) (.c (.int .i64 0))⟩ (.seq 5 (iY 19 8 18) (.alt 1 (aA 15 14) (.one 6 (dP 20 66 19) (.seq 7 (eZ 21 .mul 15 20) (.seq 8 (ah 2 2 21) .fin))) (.one 6 (dP 20 66 19) (.seq 1 (aA 15 14) (.seq 7 (eZ 21 .mul 15 20) (.seq 8 (ah 2 2 21) .fin))))))))))
def Sz:SL:=[gp 23 .eql 9 4,ah 22 22 23]
def zgv:SL:=[bN 24 7 1,⟨.v 25,none,.load none (.l 24)⟩,⟨.v 26,none,.len false (.v 25)⟩,aC 27 27 0]
def YW:SL:=[⟨.v 28,none,.bin .lss (.v 27) (.v 26)⟩]
def zgD:SL:=[⟨.l 29,none,.iaddr 8 (.v 25) (.v 27)⟩,iY 30 8 29,⟨.v 5,none,.allocL kA⟩,bH 8 5 30]
def zgC:SL:=[af 31 3,eQ 32 8 5,dP 33 66 32,eZ 34 .add 31 33,ah 3 3 34]
def zgB:SL:=[gp 35 .add 27 1,ah 27 27 35]
def a66l13:ACode:=(sR YW (.seq (cV 28 .skip (.exit 1)) (.seq (.block 2 (sR zgD (.region zgC))) (.region zgB))))
def YY:SL:=[gp 37 .eql 9 5,ah 36 36 37]
def zgA:SL:=[bN 38 7 1,aA 39 38,⟨.l 40,none,.iaddr 8 (.l 39) (.c (.int .i64 0))⟩,iY 41 8 40,dP 42 66 41,ah 3 3 42]
def zgz:SL:=[bN 43 7 1,⟨.v 44,none,.load none (.l 43)⟩,⟨.v 45,none,.len false (.v 44)⟩,aC 46 46 0]
def YX:SL:=[⟨.v 47,none,.bin .lss (.v 46) (.v 45)⟩]
def zgy:SL:=[⟨.l 48,none,.iaddr 8 (.v 44) (.v 46)⟩,iY 49 8 48,⟨.v 7,none,.allocL kA⟩,bH 8 7 49]
def zgx:SL:=[af 50 3,eQ 51 8 7,dP 52 66 51,⟨.l 53,none,.minI (.l 50) (.l 52)⟩,ah 3 3 53]
def zgw:SL:=[gp 54 .add 46 1,ah 46 46 54]
def a66l21:ACode:=(sR YX (.seq (cV 47 .skip (.exit 3)) (.seq (.block 4 (sR zgy (.region zgx))) (.region zgw))))
def SB:SL:=[af 55 3,ah 2 3 55]
def a66:AFunc:=⟨1,[0,1,2,3,5,7,9,10,12,22,25,26,27,28,36,44,45,46,47],[.tmp 2],(sR Kc (sR Kb (.seq (sR Ka (.block 0 (sR J9 (cV 10 (sT NE) (sR ND (cV 12 (.seq (.draw SC) .ret) (sR Sz (cV 22 (sR zgv (bL 1 a66l13)) (sR YY (cV 36 (sR zgA (sR zgz (bL 3 a66l21))) .skip)))))))))) (sT SB)))),true⟩
def zrN:SL:=[aC 4 4 0]
def zrM:SL:=[af 5 0,af 6 1,dM 7 129 5 6,ah 4 4 7]
def a123:AFunc:=⟨2,[0,1,4],[.tmp 4],(sR zrN (sT zrM)),false⟩
def zgZ:SL:=[aC 6 6 0,aC 7 7 0,dC 8 8 false]
def zgY:SL:=[af 10 2,dI 11 .lss 10 0]
def zgX:SL:=[aC 6 6 0,aC 7 7 0,dC 8 8 false]
def NP:SL:=[af 12 2,af 13 0,bI 14 13,bD 15 2 14,aA 16 15,eZ 17 .add 12 16,af 18 1,cO 19 true 18,fK 20 .leq 17 19]
def Ze:SL:=[af 23 0,bI 24 23,bD 25 1 24,aA 26 25,af 27 1,af 28 2,gm 29 35 26 27 28,ah 9 9 29]
def Zd:SL:=[af 30 9,dI 31 .geq 30 0]
def Zc:SL:=[af 32 2,af 33 9,ah 6 2 32,ah 7 9 33,dC 8 8 true]
def zgW:SL:=[af 21 2,aL 22 .add 21 1,ah 2 2 22]
def a43l8:ACode:=(.seq (sR NP (cV 20 .skip (.exit 0))) (.seq (.block 1 (sR Ze (sR Zd (cV 31 (sT Zc) .skip)))) (.region zgW)))
def zgV:SL:=[aC 6 6 0,aC 7 7 0,dC 8 8 false]
def a43:AFunc:=⟨3,[0,1,2,6,7,8,9,11,20,31],[.tmp 6,.tmp 7,.tmp 8],(sR zgZ (.seq (sR zgY (cV 11 (sT zgX) .skip)) (.seq (bL 0 a43l8) (sT zgV)))),true⟩
def zgl:SL:=[iH 1 0,⟨.v 2,none,.allocL (List.replicate 256 (.bool false))⟩]
def zgk:SL:=[⟨.l 5,none,.build (List.replicate 256 (.bool false)) []⟩,⟨.v 3,none,.allocL (List.replicate 256 (.bool false))⟩,bH 256 3 5]
def zgj:SL:=[aC 4 4 0]
def YI:SL:=[af 6 4,dI 7 .lss 6 256]
def zgi:SL:=[af 10 4,af 11 4,aL 12 .quo 11 64,jX 13 4 0 1 12,aA 14 13,af 15 4,aL 16 .rem 15 64,⟨.l 17,none,.conv .u64 (.l 16)⟩,eZ 18 .shr 14 17,⟨.l 19,none,.bin .rem (.l 18) (.c (.int .u64 2))⟩,⟨.l 20,none,.bin .eql (.l 19) (.c (.int .u64 1))⟩,jX 21 256 0 3 10,eO 21 20]
def zgh:SL:=[af 8 4,aL 9 .add 8 1,ah 4 4 9]
def a72l6:ACode:=(.seq (sR YI (cV 7 .skip (.exit 0))) (.seq (.block 1 (.region zgi)) (.region zgh)))
def zgg:SL:=[eQ 22 256 3,bH 256 2 22]
def a72:AFunc:=⟨1,[0,1,2,3,4,7],[.cell 2 (some 256)],(sR zgl (sR zgk (.seq (sR zgj (bL 0 a72l6)) (sT zgg)))),true⟩
def zgf:SL:=[⟨.v 4,none,.asg 4 (.c .nils)⟩]
def zge:SL:=[⟨.l 10,none,.bslice false (.nils) 0 []⟩,ah 5 5 10]
def zga:SL:=[aC 6 6 0]
def YE:SL:=[af 11 6,af 12 0,cO 13 false 12,fK 14 .lss 11 13]
def zf9:SL:=[af 17 0,cO 18 false 17,⟨.l 19,none,.mslice false (.bool false) (.l 18) (.l 18)⟩,ah 7 7 19]
def zf8:SL:=[aC 8 8 0]
def Sn:SL:=[af 20 8,af 21 0,cO 22 false 21,fK 23 .lss 20 22]
def YD:SL:=[af 26 0,af 27 6,fB 28 0 26 27,aA 29 28,af 30 8,fB 31 0 29 30,⟨.v 32,none,.load none (.l 31)⟩]
def YC:SL:=[aC 9 9 0]
def Sm:SL:=[af 33 9,af 34 0,cO 35 false 34,fK 36 .lss 33 35]
def YH:SL:=[af 39 7,af 40 9,af 41 7,af 42 9,fB 43 0 41 42,aA 44 43,aQ 45 44,aJ 46 45 false 1,aJ 47 45 false 8,⟨.l 48,some (.l 45,false),.iaddr 0 (.l 46) (.l 47)⟩,fI 49 45 false 48,aJ 50 45 false 9,⟨.l 51,some (.l 45,false),.iaddr 0 (.l 49) (.l 50)⟩,fI 52 45 false 51,fH 53 45 52,fB 54 0 39 40,eO 54 53]
def YG:SL:=[af 37 9,aL 38 .add 37 1,ah 9 9 38]
def a73l12:ACode:=(.seq (sR Sm (cV 36 .skip (.exit 4))) (.seq (.block 5 (.region YH)) (.region YG)))
def YF:SL:=[af 24 8,aL 25 .add 24 1,ah 8 8 25]
def a73l14:ACode:=(.seq (sR Sn (cV 23 .skip (.exit 2))) (.seq (.block 3 (sR YD (cV 32 (sR YC (bL 4 a73l12)) .skip))) (.region YF)))
def zgd:SL:=[af 55 5,af 56 7,⟨.l 57,none,.bslice false (.nils) 1 [(0,(.l 56))]⟩,iI 58 0 55 57,ah 5 5 58]
def zgc:SL:=[af 15 6,aL 16 .add 15 1,ah 6 6 16]
def a73l17:ACode:=(.seq (sR YE (cV 14 .skip (.exit 0))) (.seq (.block 1 (sR zf9 (.seq (sR zf8 (bL 2 a73l14)) (.region zgd)))) (.region zgc)))
def zgb:SL:=[af 59 5,ah 4 5 59]
def a73:AFunc:=⟨2,[0,1,4,5,6,7,8,9,14,23,32,36],[.tmp 4],(sR zgf (sR zge (.seq (sR zga (bL 0 a73l17)) (sT zgb)))),true⟩
def zf7:SL:=[⟨.v 4,none,.asg 4 (.c .nils)⟩]
def zf6:SL:=[⟨.l 9,none,.bslice false (.nils) 0 []⟩,ah 5 5 9]
def zf2:SL:=[aC 6 6 0]
def YB:SL:=[af 10 6,af 11 0,cO 12 false 11,fK 13 .lss 10 12]
def zf1:SL:=[af 16 0,cO 17 false 16,⟨.l 18,none,.mslice false (.bool false) (.l 17) (.l 17)⟩,ah 7 7 18]
def zf0:SL:=[aC 8 8 0]
def Sl:SL:=[af 19 8,af 20 0,cO 21 false 20,fK 22 .lss 19 21]
def YA:SL:=[af 25 7,af 26 8,af 27 0,af 28 6,fB 29 0 27 28,aA 30 29,af 31 8,fB 32 0 30 31,aA 33 32,aQ 34 33,aJ 35 34 false 1,aJ 36 34 false 6,⟨.l 37,some (.l 34,false),.iaddr 0 (.l 35) (.l 36)⟩,fI 38 34 false 37,aJ 39 34 false 8,⟨.l 40,some (.l 34,false),.iaddr 0 (.l 38) (.l 39)⟩,fI 41 34 false 40,fH 42 34 41,fB 43 0 25 26,eO 43 42]
def Yz:SL:=[af 23 8,aL 24 .add 23 1,ah 8 8 24]
def a74l9:ACode:=(.seq (sR Sl (cV 22 .skip (.exit 2))) (.seq (.block 3 (.region YA)) (.region Yz)))
def zf5:SL:=[af 44 5,af 45 7,⟨.l 46,none,.bslice false (.nils) 1 [(0,(.l 45))]⟩,iI 47 0 44 46,ah 5 5 47]
def zf4:SL:=[af 14 6,aL 15 .add 14 1,ah 6 6 15]
def a74l12:ACode:=(.seq (sR YB (cV 13 .skip (.exit 0))) (.seq (.block 1 (sR zf1 (.seq (sR zf0 (bL 2 a74l9)) (.region zf5)))) (.region zf4)))
def zf3:SL:=[af 48 5,ah 4 5 48]
def a74:AFunc:=⟨2,[0,1,4,5,6,7,8,13,22],[.tmp 4],(sR zf7 (sR zf6 (.seq (sR zf2 (bL 0 a74l12)) (sT zf3)))),true⟩
def zfZ:SL:=[⟨.v 2,none,.asg 2 (.c .nils)⟩]
def zfY:SL:=[⟨.l 9,none,.bslice false (.nils) 0 []⟩,ah 3 3 9]
def zfV:SL:=[aC 4 4 0]
def Yt:SL:=[af 10 4,af 11 0,cO 12 false 11,fK 13 .lss 10 12]
def zfS:SL:=[⟨.l 16,none,.bslice true (.bool false) 0 []⟩,af 17 0,af 18 4,fB 19 0 17 18,aA 20 19,iI 21 0 16 20,ah 5 5 21]
def zfR:SL:=[af 22 5,af 23 4,fB 24 0 22 23,⟨.no,none,.store none (.l 24) (.c (.bool true))⟩]
def zfQ:SL:=[af 25 3,af 26 5,⟨.l 27,none,.bslice false (.nils) 1 [(0,(.l 26))]⟩,iI 28 0 25 27,ah 3 3 28]
def zfP:SL:=[af 14 4,aL 15 .add 14 1,ah 4 4 15]
def a75l8:ACode:=(.seq (sR Yt (cV 13 .skip (.exit 0))) (.seq (.block 1 (sR zfS (sR zfR (.region zfQ)))) (.region zfP)))
def zfO:SL:=[aC 6 6 0]
def Yx:SL:=[af 29 6,af 30 0,cO 31 false 30,fK 32 .lss 29 31]
def zfX:SL:=[aC 7 7 0]
def Sk:SL:=[af 35 7,af 36 0,cO 37 false 36,fK 38 .lss 35 37]
def Yw:SL:=[af 41 3,af 42 7,fB 43 0 41 42,aA 44 43,af 45 6,fB 46 0 44 45,aA 47 46,⟨.v 48,none,.un .not (.l 47)⟩]
def zfW:SL:=[aC 8 8 0]
def Sj:SL:=[af 49 8,af 50 0,cO 51 false 50,fK 52 .lss 49 51]
def Yy:Plan:=(.seq 0 (af 55 3) (.seq 1 (af 56 7) (.seq 2 (fB 57 0 55 56) (.seq 3 (aA 58 57) (.seq 4 (af 59 8) (.seq 5 (af 60 3) (.seq 6 (af 61 7) (.seq 7 (fB 62 0 60 61) (.seq 8 (aA 63 62) (.seq 9 (af 64 8) (.seq 10 (fB 65 0 63 64) (.seq 11 (aA 66 65) (.seq 12 (aQ 67 66) (.seq 13 (aJ 68 67 false 3) (.seq 14 (aJ 69 67 false 6) (.seq 15 ⟨.l 70,some (.l 67,false),.iaddr 0 (.l 68) (.l 69)⟩ (.seq 16 (fI 71 67 false 70) (.seq 17 (aJ 72 67 false 8) (.seq 18 ⟨.l 73,some (.l 67,false),.iaddr 0 (.l 71) (.l 72)⟩ (.seq 19 (fI 74 67 false 73) (.seq 20 (fH 75 67 74) (.seq 21 (fB 76 0 58 59) (.one 22 (eO 76 75) .fin)))))))))))))))))))))))
def Yv:SL:=[af 53 8,aL 54 .add 53 1,ah 8 8 54]
def a75l18:ACode:=(.seq (sR Sj (cV 52 .skip (.exit 6))) (.seq (.block 7 (.draw Yy)) (.region Yv)))
def Yu:SL:=[af 39 7,aL 40 .add 39 1,ah 7 7 40]
def a75l20:ACode:=(.seq (sR Sk (cV 38 .skip (.exit 4))) (.seq (.block 5 (.seq (sR Yw (cV 48 (.exit 5) .skip)) (sR zfW (bL 6 a75l18)))) (.region Yu)))
def zfU:SL:=[af 33 6,aL 34 .add 33 1,ah 6 6 34]
def a75l22:ACode:=(.seq (sR Yx (cV 32 .skip (.exit 2))) (.seq (.block 3 (sR zfX (bL 4 a75l20))) (.region zfU)))
def zfT:SL:=[af 77 3,ah 2 3 77]
def a75:AFunc:=⟨1,[0,2,3,4,5,6,7,8,13,32,38,48,52],[.tmp 2],(sR zfZ (sR zfY (.seq (sR zfV (bL 0 a75l8)) (.seq (sR zfO (bL 2 a75l22)) (sT zfT))))),true⟩
def zhS:SL:=[aC 2 2 0]
def zhR:SL:=[aC 3 3 (-1)]
def zhQ:SL:=[aC 4 4 0]
def UT:SL:=[af 5 4,af 6 0,cO 7 false 6,fK 8 .lss 5 7]
def Z6:SL:=[af 11 0,af 12 4,fB 13 0 11 12,⟨.v 14,none,.load none (.l 13)⟩]
def Z5:SL:=[af 15 4,ah 3 3 15]
def Z4:SL:=[af 9 4,aL 10 .add 9 1,ah 4 4 10]
def a155l7:ACode:=(.seq (sR UT (cV 8 .skip (.exit 0))) (.seq (.block 1 (sR Z6 (cV 14 (.region Z5) .skip))) (.region Z4)))
def zhP:SL:=[af 16 3,ah 2 3 16]
def a155:AFunc:=⟨1,[0,2,3,4,8,14],[.tmp 2],(sR zhS (sR zhR (.seq (sR zhQ (bL 0 a155l7)) (sT zhP)))),true⟩
def zhk:SL:=[⟨.v 2,none,.asg 2 (.c (.str []))⟩]
def zhj:SL:=[af 3 0,⟨.l 4,none,.call 212 [.pl (.l 3),.pl (.c (.str [32,9,10]))]⟩,ah 2 2 4]
def a203:AFunc:=⟨1,[0,2],[.tmp 2],(sR zhk (sT zhj)),true⟩
def Zu:SL:=[aC 2 2 0,aC 3 3 0,aC 4 4 0]
def Zt:SL:=[aC 5 5 0]
def Oa:SL:=[af 15 5,af 16 0,cO 17 true 16,eZ 18 .lss 15 17,aQ 19 18,aJ 20 19 true 0,aJ 21 19 true 5,⟨.l 22,some (.l 19,true),.sidx (.l 20) (.l 21)⟩,⟨.l 23,some (.l 19,true),.bin .eql (.l 22) (.c (.int .u8 32))⟩,gK 24 19 true 23,aJ 25 24 false 0,aJ 26 24 false 5,⟨.l 27,some (.l 24,false),.sidx (.l 25) (.l 26)⟩,⟨.l 28,some (.l 24,false),.bin .eql (.l 27) (.c (.int .u8 9))⟩,lc 29 19 true 24 28,gK 30 19 true 29,aJ 31 30 false 0,aJ 32 30 false 5,⟨.l 33,some (.l 30,false),.sidx (.l 31) (.l 32)⟩,⟨.l 34,some (.l 30,false),.bin .eql (.l 33) (.c (.int .u8 10))⟩,lc 35 19 true 30 34,iR 36 19 35]
def N7:SL:=[af 37 5,aL 38 .add 37 1,ah 5 5 38]
def a204l4:ACode:=(.seq (sR Oa (cV 36 .skip (.exit 0))) (.block 1 (.region N7)))
def Kw:SL:=[af 39 5,af 40 0,cO 41 true 40,eZ 42 .lss 39 41,aQ 43 42,aJ 44 43 true 0,aJ 45 43 true 5,⟨.l 46,some (.l 43,true),.sidx (.l 44) (.l 45)⟩,⟨.l 47,some (.l 43,true),.bin .eql (.l 46) (.c (.int .u8 45))⟩,gH 48 43 47,ah 6 6 48]
def Kv:SL:=[af 49 6,aQ 50 49,aJ 51 50 false 5,aJ 52 50 false 0,jc 53 50 false true 52,iQ 54 50 false .lss 51 53,gK 55 50 false 54,aJ 56 55 true 0,aJ 57 55 true 5,⟨.l 58,some (.l 55,true),.sidx (.l 56) (.l 57)⟩,⟨.l 59,some (.l 55,true),.bin .eql (.l 58) (.c (.int .u8 43))⟩,ku 60 50 false 55 59,iq 61 50 60]
def Ku:SL:=[af 62 5,aL 63 .add 62 1,ah 5 5 63]
def Zr:SL:=[⟨.v 7,none,.allocH [.int .u64 0,.bool false]⟩]
def Zq:SL:=[af 64 5,ah 8 8 64]
def Ud:SL:=[af 65 0,af 66 5,⟨.v 67,none,.call 213 [.pl (.l 65),.pl (.l 66)]⟩]
def Uc:SL:=[bN 71 0 7,aA 72 71,⟨.l 73,none,.call 214 [.pl (.l 72),.pl (.c (.int .u64 10))]⟩,aQ 70 73,df 74 0 70,df 75 1 70,ah 9 9 74,ah 10 10 75]
def Ub:SL:=[af 76 10,bN 77 1 7,aA 78 77,aQ 79 78,aJ 80 79 false 9,⟨.l 81,some (.l 79,false),.bin .gtr (.l 80) (.c (.int .u64 0))⟩,fH 82 79 81,bN 83 0 7,eO 83 76,bN 84 1 7,eO 84 82]
def Ua:SL:=[af 85 0,af 86 5,⟨.l 87,none,.sidx (.l 85) (.l 86)⟩,⟨.l 88,none,.call 215 [.pl (.v 7),.pl (.l 87),.pl (.c (.int .u64 1000000))]⟩]
def T9:SL:=[af 68 5,aL 69 .add 68 1,ah 5 5 69]
def a204l15:ACode:=(.seq (sR Ud (cV 67 .skip (.exit 2))) (.seq (.block 3 (sR Uc (sR Ub (.region Ua)))) (.region T9)))
def H6:SL:=[af 89 5,af 90 8,eZ 91 .sub 89 90,ah 11 11 91]
def H5:SL:=[af 92 5,af 93 0,cO 94 true 93,eZ 95 .lss 92 94,aQ 96 95,aJ 97 96 true 0,aJ 98 96 true 5,⟨.l 99,some (.l 96,true),.sidx (.l 97) (.l 98)⟩,⟨.l 100,some (.l 96,true),.bin .eql (.l 99) (.c (.int .u8 46))⟩,gH 101 96 100,aQ 102 101,aJ 103 102 true 11,bW 104 102 true .gtr 103 0,gK 105 102 true 104,aJ 106 105 false 0,aJ 107 105 false 5,bW 108 105 false .add 107 1,⟨.l 109,some (.l 105,false),.call 213 [.pl (.l 106),.pl (.l 108)]⟩,lc 110 102 true 105 109,iR 111 102 110]
def HZ:SL:=[⟨.v 12,none,.asg 12 (.c (.int .u64 1000000))⟩]
def HY:SL:=[af 112 5,aL 113 .add 112 1,ah 5 5 113]
def TZ:SL:=[af 114 0,af 115 5,⟨.v 116,none,.call 213 [.pl (.l 114),.pl (.l 115)]⟩]
def TY:SL:=[af 119 12,⟨.l 120,none,.bin .quo (.l 119) (.c (.int .u64 10))⟩,ah 12 12 120]
def TW:SL:=[af 121 0,af 122 5,⟨.l 123,none,.sidx (.l 121) (.l 122)⟩,af 124 12,⟨.l 125,none,.call 215 [.pl (.v 7),.pl (.l 123),.pl (.l 124)]⟩]
def TV:SL:=[af 126 11,aL 127 .add 126 1,ah 11 11 127]
def TU:SL:=[af 117 5,aL 118 .add 117 1,ah 5 5 118]
def a204l25:ACode:=(.seq (sR TZ (cV 116 .skip (.exit 4))) (.seq (.block 5 (sR TY (sR TW (.region TV)))) (.region TU)))
def N9:SL:=[af 128 11,dI 129 .eql 128 0]
def N8:SL:=[aC 2 2 0,aC 3 3 0,aC 4 4 0]
def TT:SL:=[bN 131 0 7,aA 132 131,af 133 6,dM 134 216 132 133,aQ 130 134,df 135 0 130,df 136 1 130,ah 13 13 135,ah 14 14 136]
def TS:SL:=[bN 137 1 7,⟨.v 138,none,.load none (.l 137)⟩]
def TR:SL:=[aC 13 13 0,aC 14 14 10]
def TQ:SL:=[af 139 13,af 140 5,af 141 14,ah 2 13 139,ah 3 5 140,ah 4 14 141]
def a204:AFunc:=⟨1,[0,2,3,4,5,6,7,8,9,10,11,12,13,14,36,61,67,111,116,129,138],[.tmp 2,.tmp 3,.tmp 4],(sR Zu (sR Zt (.seq (bL 0 a204l4) (sR Kw (.seq (sR Kv (cV 61 (.region Ku) .skip)) (sR Zr (sR Zq (.seq (bL 2 a204l15) (sR H6 (.seq (sR H5 (cV 111 (sR HZ (sR HY (bL 4 a204l25))) .skip)) (.seq (sR N9 (cV 129 (sT N8) .skip)) (sR TT (.seq (sR TS (cV 138 (.region TR) .skip)) (sT TQ)))))))))))))),true⟩
def TP:SL:=[dC 2 2 false]
def TN:SL:=[af 3 0,⟨.l 4,none,.bin .geq (.l 3) (.c (.int .u8 48))⟩,aQ 5 4,aJ 6 5 true 0,⟨.l 7,some (.l 5,true),.bin .leq (.l 6) (.c (.int .u8 57))⟩,gH 8 5 7,ah 2 2 8]
def a205:AFunc:=⟨1,[0,2],[.tmp 2],(sR TP (sT TN)),true⟩
def zhi:SL:=[⟨.v 2,none,.asg 2 (.c .nils)⟩]
def TM:SL:=[af 3 0,cO 4 false 3,aL 5 .gtr 4 0,aQ 6 5,aJ 7 6 true 0,aJ 8 6 true 0,jc 9 6 true false 8,bW 10 6 true .sub 9 1,⟨.l 11,some (.l 6,true),.iaddr 0 (.l 7) (.l 10)⟩,fI 12 6 true 11,bW 13 6 true .eql 12 0,iR 14 6 13]
def TL:SL:=[af 15 0,af 16 0,cO 17 false 16,aL 18 .sub 17 1,⟨.l 19,none,.slice (some 0) (.l 15) none (some (.l 18))⟩,ah 0 0 19]
def a206l3:ACode:=(.seq (sR TM (cV 14 .skip (.exit 0))) (.block 1 (.region TL)))
def zhh:SL:=[af 20 0,ah 2 0 20]
def a206:AFunc:=⟨1,[0,2,14],[.tmp 2],(sR zhi (.seq (bL 0 a206l3) (sT zhh))),true⟩
def Kt:SL:=[iH 1 0,aC 2 2 0,aC 3 3 0]
def Kr:SL:=[⟨.l 7,none,.call 217 [.pl (.c (.int .i64 (-9223372036854775808)))]⟩,⟨.l 8,none,.aidx 2 none (.l 7) (.c (.int .i64 1))⟩,ah 4 4 8]
def Kq:SL:=[af 9 4,bN 10 1 1,aA 11 10,dM 12 227 9 11,aQ 13 12,gQ 14 13 false 0 1,fI 15 13 false 14,⟨.l 16,some (.l 13,false),.un .not (.l 15)⟩,gK 17 13 false 16,gQ 18 17 true 1 1,fI 19 17 true 18,aJ 20 17 true 4,⟨.l 21,some (.l 17,true),.call 227 [.pl (.l 19),.pl (.l 20)]⟩,⟨.l 22,some (.l 17,true),.un .not (.l 21)⟩,ku 23 13 false 17 22,iq 24 13 23]
def Ko:SL:=[aC 2 2 0,aC 3 3 10]
def Kn:SL:=[aC 5 5 0]
def Km:SL:=[bN 25 1 1,aA 26 25,cO 27 false 26,aL 28 .sub 27 1,ah 6 6 28]
def TJ:SL:=[af 29 6,dI 30 .geq 29 0]
def TI:SL:=[bN 33 0 1,⟨.v 34,none,.load none (.l 33)⟩]
def TH:SL:=[af 35 5,aL 36 .mul 35 10,bN 37 1 1,aA 38 37,af 39 6,fB 40 0 38 39,aA 41 40,eZ 42 .sub 36 41,ah 5 5 42]
def TG:SL:=[af 43 5,aL 44 .mul 43 10,bN 45 1 1,aA 46 45,af 47 6,fB 48 0 46 47,aA 49 48,eZ 50 .add 44 49,ah 5 5 50]
def TK:SL:=[af 31 6,aL 32 .sub 31 1,ah 6 6 32]
def a207l11:ACode:=(.seq (sR TJ (cV 30 .skip (.exit 0))) (.seq (.block 1 (sR TI (cV 34 (.region TH) (.region TG)))) (.region TK)))
def Zp:SL:=[af 51 5,ah 2 5 51,aC 3 3 0]
def a207:AFunc:=⟨1,[0,1,2,3,4,5,6,24,30,34],[.tmp 2,.tmp 3],(sR Kt (sR Kr (.seq (sR Kq (cV 24 (sT Ko) .skip)) (sR Kn (.seq (sR Km (bL 0 a207l11)) (sT Zp)))))),true⟩
def zfx:SL:=[⟨.v 4,none,.allocL kA⟩]
def zfw:SL:=[⟨.l 7,none,.bslice false (.agg kA) 0 []⟩,ah 5 5 7]
def Fy:SL:=[af 8 0,dP 9 93 8,aL 10 .geq 9 0,aQ 11 10,aJ 12 11 true 0,⟨.l 13,some (.l 11,true),.call 93 [.pl (.l 12)]⟩,bW 14 11 true .neq 13 124,gH 15 11 14,aQ 16 15,aJ 17 16 true 0,⟨.l 18,some (.l 16,true),.call 93 [.pl (.l 17)]⟩,bW 19 16 true .eql 18 41,gK 20 16 true 19,aJ 21 20 true 1,bW 22 20 true .gtr 21 0,ku 23 16 true 20 22,⟨.l 24,some (.l 16,true),.un .not (.l 23)⟩,iR 25 16 24]
def RU:SL:=[af 26 0,af 27 1,dM 28 101 26 27,⟨.v 6,none,.allocL kA⟩,bH 8 6 28]
def RQ:SL:=[af 29 0,eQ 30 8 6,dM 31 102 29 30,bH 8 6 31]
def RP:SL:=[af 32 5,eQ 33 8 6,⟨.l 34,none,.bslice false (.agg kA) 1 [(0,(.l 33))]⟩,iI 35 8 32 34,ah 5 5 35]
def a92l6:ACode:=(.seq (sR Fy (cV 25 .skip (.exit 0))) (.block 1 (sR RU (sR RQ (.region RP)))))
def X8:SL:=[af 36 5,⟨.l 37,none,.call 3 [.pl (.c (.int .i64 4)),.pl (.l 36)]⟩,bH 8 4 37]
def a92:AFunc:=⟨2,[0,1,4,5,6,25],[.cell 4 (some 8)],(sR zfx (sR zfw (.seq (bL 0 a92l6) (sT X8)))),false⟩
def RL:SL:=[aC 2 2 0]
def RO:Plan:=(.seq 0 (af 3 0) (.seq 1 (bI 4 3) (.seq 2 (bD 5 3 4) (.seq 3 (aA 6 5) (.seq 4 (aL 7 .neq 6 0) (.seq 5 (aQ 8 7) (.seq 6 (aJ 9 8 false 0) (.seq 7 (rF 10 8 false 9) (.seq 8 (rU 11 8 false 1 10) (.seq 9 (fI 12 8 false 11) (.seq 10 (aJ 13 8 false 0) (.seq 11 (rF 14 8 false 13) (.seq 12 (rU 15 8 false 0 14) (.seq 13 (fI 16 8 false 15) (.seq 14 (jc 17 8 false true 16) (.seq 15 (iQ 18 8 false .geq 12 17) (.seq 16 (iq 19 8 18) .fin)))))))))))))))))
def RJ:SL:=[aC 2 2 (-1)]
def RN:Plan:=(.seq 0 (af 20 0) (.seq 1 (bI 21 20) (.seq 2 (bD 22 0 21) (.seq 3 (aA 23 22) (.seq 4 (af 24 0) (.seq 5 (bI 25 24) (.seq 6 (bD 26 1 25) (.seq 7 (aA 27 26) (.seq 8 ⟨.l 28,none,.sidx (.l 23) (.l 27)⟩ (.one 9 ⟨.l 29,none,.conv .i64 (.l 28)⟩ (.seq 10 (ah 2 2 29) .fin)))))))))))
def a93:AFunc:=⟨1,[0,2,19],[.tmp 2],(sR RL (.seq (.seq (.draw RO) (cV 19 (sT RJ) .skip)) (.seq (.draw RN) .ret))),true⟩
def a3r0:SL:=[⟨.v 4,none,.allocL kA⟩]
def a3r1:SL:=[⟨.l 7,none,.bslice false (.agg kA) 0 []⟩,ah 5 5 7]
def a3r2:SL:=[aC 6 6 0]
def Fz:SL:=[af 8 6,af 9 1,cO 10 false 9,fK 11 .lss 8 10]
def Kl:SL:=[af 14 1,af 15 6,fB 16 8 14 15,bD 17 0 16,aA 18 17,af 19 0,fK 20 .eql 18 19]
def Kk:SL:=[af 21 5,af 22 1,af 23 6,fB 24 8 22 23,bD 25 7 24,aA 26 25,iI 27 8 21 26,ah 5 5 27]
def Kj:SL:=[af 28 1,af 29 6,fB 30 8 28 29,bD 31 0 30,aA 32 31,aL 33 .neq 32 0,aQ 34 33,aJ 35 34 false 0,bW 36 34 false .eql 35 5,iq 37 34 36]
def Ki:SL:=[af 38 5,af 39 1,af 40 6,fB 41 8 39 40,iY 42 8 41,⟨.l 43,none,.bslice false (.agg kA) 1 [(0,(.l 42))]⟩,iI 44 8 38 43,ah 5 5 44]
def Kh:SL:=[af 12 6,aL 13 .add 12 1,ah 6 6 13]
def a3l9:ACode:=(.seq (sR Fz (cV 11 .skip (.exit 0))) (.seq (.block 1 (sR Kl (cV 20 (.region Kk) (sR Kj (cV 37 (.region Ki) .skip))))) (.region Kh)))
def Tt:SL:=[af 45 5,cO 46 false 45,dI 47 .eql 46 0]
def Tq:SL:=[⟨.l 48,none,.build kA []⟩,bH 8 4 48]
def Tp:SL:=[af 49 5,cO 50 false 49,dI 51 .eql 50 1]
def Tn:SL:=[af 52 5,⟨.l 53,none,.iaddr 8 (.l 52) (.c (.int .i64 0))⟩,iY 54 8 53,bH 8 4 54]
def Tm:SL:=[af 55 0,af 56 5,⟨.l 57,none,.build kA [(0,1,(.l 55)),(7,1,(.l 56))]⟩,bH 8 4 57]
def a3:AFunc:=⟨2,[0,1,4,5,6,11,20,37,47,51],[.cell 4 (some 8)],(sR a3r0 (sR a3r1 (.seq (sR a3r2 (bL 0 a3l9)) (.seq (sR Tt (cV 47 (sT Tq) .skip)) (.seq (sR Tp (cV 51 (sT Tn) .skip)) (sT Tm)))))),true⟩
def zfF:SL:=[⟨.v 4,none,.allocL kA⟩]
def zfE:SL:=[⟨.v 5,none,.asg 5 (.c .nils)⟩]
def rZ:SL:=[af 9 0,dP 10 98 9,aQ 8 10,df 11 0 8,df 12 1 8,ah 6 6 11,ah 7 7 12]
def rY:SL:=[af 13 7,⟨.l 14,none,.un .not (.l 13)⟩,aQ 15 14,aJ 16 15 false 6,⟨.l 17,some (.l 15,false),.bin .eql (.l 16) (.c (.int .u8 124))⟩,fH 18 15 17,aQ 19 18,aJ 20 19 false 6,⟨.l 21,some (.l 19,false),.bin .eql (.l 20) (.c (.int .u8 41))⟩,gK 22 19 false 21,aJ 23 22 true 1,bW 24 22 true .gtr 23 0,ku 25 19 false 22 24,iq 26 19 25]
def rX:SL:=[af 27 5,⟨.l 28,none,.call 89 [.pl (.c (.int .i64 4)),.pl (.l 27)]⟩,bH 8 4 28]
def rW:SL:=[af 29 5,af 30 0,af 31 1,dM 32 99 30 31,⟨.l 33,none,.bslice false (.agg kA) 1 [(0,(.l 32))]⟩,iI 34 8 29 33,ah 5 5 34]
def a87l6:ACode:=(.block 1 (sR rZ (.seq (sR rY (cV 26 (sT rX) .skip)) (.region rW))))
def a87:AFunc:=⟨2,[0,1,4,5,6,7,26],[.cell 4 (some 8)],(sR zfF (sR zfE (bL 0 a87l6))),false⟩
def Sb:SL:=[dC 4 4 false]
def Sa:SL:=[af 8 0,dP 9 98 8,aQ 7 9,df 10 0 7,df 11 1 7,ah 5 5 10,ah 6 6 11]
def R9:SL:=[af 12 6,aQ 13 12,aJ 14 13 true 5,aJ 15 13 true 1,iQ 16 13 true .eql 14 15,gH 17 13 16,ah 6 6 17]
def R8:SL:=[⟨.v 18,none,.asg 18 (.v 6)⟩]
def R7:SL:=[af 19 0,bI 20 19,bD 21 1 20,aA 22 21,aL 23 .add 22 1,bI 24 19,bD 25 1 24,eO 25 23]
def R6:SL:=[af 26 6,ah 4 6 26]
def a88:AFunc:=⟨2,[0,1,4,5,6,18],[.tmp 4],(sR Sb (sR Sa (.seq (sR R9 (sR R8 (cV 18 (.region R7) .skip))) (sT R6)))),false⟩
def R5:SL:=[⟨.v 4,none,.allocL kA⟩]
def R4:SL:=[af 8 1,⟨.v 9,none,.len false (.l 8)⟩]
def RX:SL:=[gp 11 .eql 9 0,ah 10 10 11]
def RV:SL:=[⟨.l 12,none,.build kA []⟩,bH 8 4 12]
def Yd:SL:=[gp 14 .eql 9 1,ah 13 13 14]
def Yc:SL:=[af 15 1,⟨.l 16,none,.iaddr 8 (.l 15) (.c (.int .i64 0))⟩,iY 17 8 16,bH 8 4 17]
def zfD:SL:=[⟨.v 5,none,.asg 5 (.c .nils)⟩]
def zfC:SL:=[⟨.v 18,none,.asg 18 (.v 1)⟩,⟨.v 19,none,.len false (.v 18)⟩,aC 20 20 0]
def yu:SL:=[⟨.v 21,none,.bin .lss (.v 20) (.v 19)⟩]
def AL:SL:=[⟨.l 22,none,.iaddr 8 (.v 18) (.v 20)⟩,iY 23 8 22,⟨.v 7,none,.allocL kA⟩,bH 8 7 23]
def AU:SL:=[bN 24 0 7,aA 25 24,af 26 0,fK 27 .eql 25 26]
def AR:SL:=[af 28 5,bN 29 7 7,aA 30 29,iI 31 8 28 30,ah 5 5 31]
def AQ:SL:=[bN 32 0 7,aA 33 32,aL 34 .neq 33 0,aQ 35 34,aJ 36 35 false 0,bW 37 35 false .eql 36 5,iq 38 35 37]
def AP:SL:=[af 39 5,eQ 40 8 7,⟨.l 41,none,.bslice false (.agg kA) 1 [(0,(.l 40))]⟩,iI 42 8 39 41,ah 5 5 42]
def AO:SL:=[gp 43 .add 20 1,ah 20 20 43]
def a89l15:ACode:=(sR yu (.seq (cV 21 .skip (.exit 1)) (.seq (.block 2 (sR AL (sR AU (cV 27 (.region AR) (sR AQ (cV 38 (.region AP) .skip)))))) (.region AO))))
def R3:SL:=[af 44 5,cO 45 false 44,dI 46 .lss 45 2]
def RZ:SL:=[af 47 0,af 48 5,dM 49 89 47 48,bH 8 4 49]
def RY:SL:=[af 50 0,af 51 5,⟨.l 52,none,.build kA [(0,1,(.l 50)),(7,1,(.l 51))]⟩,bH 8 4 52]
def a89:AFunc:=⟨2,[0,1,4,5,7,9,10,13,18,19,20,21,27,38,46],[.cell 4 (some 8)],(sR R5 (.seq (sR R4 (.block 0 (sR RX (cV 10 (sT RV) (sR Yd (cV 13 (sT Yc) .skip)))))) (sR zfD (.seq (sR zfC (bL 1 a89l15)) (.seq (sR R3 (cV 46 (sT RZ) .skip)) (sT RY)))))),true⟩
def zfN:SL:=[iH 1 0,dC 2 2 false]
def zfM:SL:=[eQ 3 8 1,⟨.l 4,none,.call 65 [.pl (.l 3),.pl (.c (.int .i64 (-1))),.pl (.c (.int .i64 1))]⟩,ah 2 2 4]
def a81:AFunc:=⟨1,[0,1,2],[.tmp 2],(sR zfN (sT zfM)),true⟩
def Yr:SL:=[iH 1 0,aC 2 2 0]
def Yq:SL:=[aC 3 3 0]
def Yp:SL:=[bN 6 7 1,⟨.v 7,none,.load none (.l 6)⟩,⟨.v 8,none,.len false (.v 7)⟩,aC 9 9 0]
def Si:SL:=[⟨.v 10,none,.bin .lss (.v 9) (.v 8)⟩]
def Yo:SL:=[⟨.l 11,none,.iaddr 8 (.v 7) (.v 9)⟩,iY 12 8 11,⟨.v 5,none,.allocL kA⟩,bH 8 5 12]
def Yn:SL:=[af 13 3,eQ 14 8 5,dP 15 82 14,eZ 16 .add 13 15,ah 3 3 16]
def Ym:SL:=[af 17 3,dI 18 .gtr 17 500]
def Yl:SL:=[af 19 3,ah 2 3 19]
def Yk:SL:=[gp 20 .add 9 1,ah 9 9 20]
def a82l9:ACode:=(sR Si (.seq (cV 10 .skip (.exit 0)) (.seq (.block 1 (sR Yo (sR Yn (sR Ym (cV 18 (sT Yl) .skip))))) (.region Yk))))
def yI:SL:=[bN 21 0 1,⟨.v 22,none,.load none (.l 21)⟩]
def yH:SL:=[gp 24 .eql 22 1,ah 23 23 24]
def yG:SL:=[gp 25 .eql 22 2,ah 23 23 25]
def yF:SL:=[gp 26 .eql 22 3,ah 23 23 26]
def yE:SL:=[aC 2 2 1]
def yD:SL:=[gp 28 .eql 22 5,ah 27 27 28]
def yC:SL:=[af 29 3,bN 30 7 1,aA 31 30,cO 32 false 31,eZ 33 .add 29 32,aL 34 .sub 33 1,ah 2 2 34]
def yB:SL:=[gp 36 .eql 22 6,ah 35 35 36]
def yA:SL:=[bN 37 6 1,aA 38 37,dI 39 .lss 38 0]
def yz:SL:=[bN 40 5 1,aA 41 40,af 42 3,eZ 43 .mul 41 42,af 44 3,eZ 45 .add 43 44,aL 46 .add 45 1,ah 2 2 46]
def yx:SL:=[bN 47 5 1,aA 48 47,af 49 3,eZ 50 .mul 48 49,bN 51 6 1,aA 52 51,bN 53 5 1,aA 54 53,eZ 55 .sub 52 54,af 56 3,aL 57 .add 56 1,eZ 58 .mul 55 57,eZ 59 .add 50 58,ah 2 2 59]
def yw:SL:=[af 60 3,ah 2 3 60]
def a82:AFunc:=⟨1,[0,1,2,3,5,7,8,9,10,18,22,23,27,35,39],[.tmp 2],(sR Yr (sR Yq (.seq (sR Yp (bL 0 a82l9)) (.seq (sR yI (.block 2 (.seq (sR yH (.cond false (.v 23) .skip (sR yG (.cond false (.v 23) .skip (.region yF))))) (.cond false (.v 23) (sT yE) (sR yD (cV 27 (sT yC) (sR yB (cV 35 (.seq (sR yA (cV 39 (sT yz) .skip)) (sT yx)) .skip)))))))) (sT yw))))),true⟩
def HV:SL:=[iH 4 1,aC 6 6 0]
def Hz:SL:=[bN 10 6 4,aA 11 10,dI 12 .lss 11 0]
def Hu:SL:=[af 13 0,af 14 2,⟨.l 15,none,.build kB [(0,1,(.c (.int .i64 3))),(6,1,(.l 14))]⟩,dM 16 58 13 15,ah 7 7 16]
def Ht:SL:=[af 17 0,bN 18 7 4,aA 19 18,⟨.l 20,none,.iaddr 8 (.l 19) (.c (.int .i64 0))⟩,iY 21 8 20,af 22 7,gm 23 59 17 21 22,ah 8 8 23]
def Hr:SL:=[af 24 0,bI 25 24,bD 26 0 25,aA 27 26,af 28 7,af 29 8,fB 30 7 27 28,bD 31 5 30,eO 31 29]
def Hq:SL:=[af 32 7,ah 2 2 32]
def Ho:SL:=[af 33 2,ah 9 9 33]
def Hm:SL:=[bN 34 6 4,aA 35 34,bN 36 5 4,aA 37 36,fK 38 .sub 35 37,aC 39 39 0]
def CF:SL:=[⟨.v 40,none,.bin .lss (.v 39) (.v 38)⟩]
def CE:SL:=[af 41 0,af 42 0,bN 43 7 4,aA 44 43,⟨.l 45,none,.iaddr 8 (.l 44) (.c (.int .i64 0))⟩,iY 46 8 45,af 47 2,gm 48 59 42 46 47,af 49 9,⟨.l 50,none,.build kB [(0,1,(.c (.int .i64 3))),(5,1,(.l 48)),(6,1,(.l 49))]⟩,dM 51 58 41 50,ah 2 2 51]
def CL:SL:=[gp 52 .add 39 1,ah 39 39 52]
def a83l11:ACode:=(sR CF (.seq (cV 40 .skip (.exit 0)) (.seq (.block 1 (.region CE)) (.region CL))))
def Hy:SL:=[bN 53 5 4,⟨.v 54,none,.load none (.l 53)⟩,aC 55 55 0]
def CK:SL:=[⟨.v 56,none,.bin .lss (.v 55) (.v 54)⟩]
def CJ:SL:=[af 57 0,bN 58 7 4,aA 59 58,⟨.l 60,none,.iaddr 8 (.l 59) (.c (.int .i64 0))⟩,iY 61 8 60,af 62 2,gm 63 59 57 61 62,ah 2 2 63]
def CG:SL:=[gp 64 .add 55 1,ah 55 55 64]
def a83l16:ACode:=(sR CK (.seq (cV 56 .skip (.exit 2)) (.seq (.block 3 (.region CJ)) (.region CG))))
def Hw:SL:=[af 65 2,ah 6 2 65]
def a83:AFunc:=⟨3,[0,1,2,4,6,7,8,9,12,38,39,40,54,55,56],[.tmp 6],(sR HV (.seq (sR Hz (cV 12 (sR Hu (sR Ht (sR Hr (.region Hq)))) .skip)) (sR Ho (.seq (sR Hm (bL 0 a83l11)) (.seq (sR Hy (bL 2 a83l16)) (sT Hw)))))),false⟩
def zfz:SL:=[dC 4 4 false]
def zfy:SL:=[af 5 0,af 6 1,dM 7 100 5 6,aL 8 .geq 7 0,ah 4 4 8]
def a91:AFunc:=⟨2,[0,1,4],[.tmp 4],(sR zfz (sT zfy)),false⟩
def zfB:SL:=[iH 3 0,dC 4 4 false]
def zfA:SL:=[eQ 5 8 3,bN 6 0 1,aA 7 6,⟨.l 8,none,.load none (.v 2)⟩,aL 9 .add 8 1,gm 10 65 5 7 9,⟨.l 11,none,.un .not (.l 10)⟩,ah 4 4 11]
def a90:AFunc:=⟨3,[0,1,2,3,4],[.tmp 4],(sR zfB (sT zfA)),true⟩
def zha:SL:=[aC 6 6 0]
def zg9:SL:=[⟨.v 7,none,.allocH [.int .i64 0]⟩,⟨.no,none,.store none (.v 7) (.c (.int .i64 (-1)))⟩]
def zg8:SL:=[af 8 0,af 9 1,af 10 2,⟨.l 11,none,.mkfn 60 [(.v 7)]⟩,⟨.l 12,none,.call 37 [.pl (.l 8),.pl (.l 9),.pl (.l 10),.pl (.l 11)]⟩]
def zg7:SL:=[⟨.l 13,none,.load none (.v 7)⟩,ah 6 6 13]
def a35:AFunc:=⟨3,[0,1,2,6,7],[.tmp 6],(sR zha (sR zg9 (sR zg8 (sT zg7)))),true⟩
def NZ:SL:=[dC 4 4 false]
def NY:SL:=[af 5 1,af 6 0,cO 7 true 6,eZ 8 .lss 5 7,aQ 9 8,aJ 10 9 true 0,aJ 11 9 true 1,⟨.l 12,some (.l 9,true),.sidx (.l 10) (.l 11)⟩,⟨.l 13,some (.l 9,true),.bin .geq (.l 12) (.c (.int .u8 48))⟩,gH 14 9 13,aQ 15 14,aJ 16 15 true 0,aJ 17 15 true 1,⟨.l 18,some (.l 15,true),.sidx (.l 16) (.l 17)⟩,⟨.l 19,some (.l 15,true),.bin .leq (.l 18) (.c (.int .u8 57))⟩,gH 20 15 19,ah 4 4 20]
def a213:AFunc:=⟨2,[0,1,4],[.tmp 4],(sR NZ (sT NY)),true⟩
def NW:SL:=[aC 4 4 0,aC 5 5 0]
def NV:SL:=[af 7 1,⟨.l 8,none,.un .not (.l 7)⟩,aQ 9 8,aJ 10 9 true 0,⟨.l 11,some (.l 9,true),.bin .gtr (.l 10) (.c (.int .u64 9223372036854775807))⟩,gH 12 9 11,aQ 13 12,aJ 14 13 false 0,⟨.l 15,some (.l 13,false),.bin .gtr (.l 14) (.c (.int .u64 9223372036854775808))⟩,fH 16 13 15,ah 6 6 16]
def NU:SL:=[aC 4 4 0,aC 5 5 10]
def NT:SL:=[af 18 1,ah 17 17 18]
def NR:SL:=[af 19 0,⟨.l 20,none,.un .neg (.l 19)⟩,⟨.l 21,none,.conv .i64 (.l 20)⟩,ah 4 4 21,aC 5 5 0]
def NQ:SL:=[af 22 0,⟨.l 23,none,.conv .i64 (.l 22)⟩,ah 4 4 23,aC 5 5 0]
def a216:AFunc:=⟨2,[0,1,4,5,6,17],[.tmp 4,.tmp 5],(sR NW (.seq (.block 0 (sR NV (cV 6 (sT NU) (sR NT (cV 17 (sT NR) .skip))))) (sT NQ))),true⟩
def zhg:SL:=[dC 4 4 false]
def zhf:SL:=[af 6 0,cO 7 false 6,af 8 1,cO 9 false 8,eZ 10 .add 7 9,ah 5 5 10]
def TF:SL:=[af 11 5,dI 12 .geq 11 0]
def TE:SL:=[af 15 0,af 16 5,dM 17 228 15 16,af 18 1,af 19 5,dM 20 228 18 19,fK 21 .neq 17 20]
def TD:SL:=[af 22 0,af 23 5,dM 24 228 22 23,af 25 1,af 26 5,dM 27 228 25 26,eZ 28 .lss 24 27,ah 4 4 28]
def TC:SL:=[af 13 5,aL 14 .sub 13 1,ah 5 5 14]
def a227l6:ACode:=(.seq (sR TF (cV 12 .skip (.exit 0))) (.seq (.block 1 (sR TE (cV 21 (sT TD) .skip))) (.region TC)))
def zhe:SL:=[dC 4 4 false]
def a227:AFunc:=⟨2,[0,1,4,5,12,21],[.tmp 4],(sR zhg (.seq (sR zhf (bL 0 a227l6)) (sT zhe))),true⟩
def nC:SL:=[⟨.v 4,none,.allocL kA⟩]
def nD:Plan:=(.seq 0 (af 12 0) (.seq 1 (bI 13 12) (.seq 2 (bD 14 1 13) (.seq 4 (af 16 0) (.alt 3 (aA 15 14) (.one 5 (dP 17 93 16) (.seq 6 (ah 5 5 15) (.seq 7 (ah 6 6 17) .fin))) (.one 5 (dP 17 93 16) (.seq 3 (aA 15 14) (.seq 6 (ah 5 5 15) (.seq 7 (ah 6 6 17) .fin)))))))))
def nA:SL:=[af 18 6,aL 19 .eql 18 42,aQ 20 19,aJ 21 20 false 6,bW 22 20 false .eql 21 43,fH 23 20 22,aQ 24 23,aJ 25 24 false 6,bW 26 24 false .eql 25 63,fH 27 24 26,aQ 28 27,aJ 29 28 false 6,bW 30 28 false .eql 29 123,iq 31 28 30]
def nz:SL:=[af 32 0,af 33 5,mJ 34 107 32 33 50]
def ny:SL:=[⟨.l 35,none,.build kA []⟩,bH 8 4 35]
def nu:SL:=[af 36 6,dI 37 .eql 36 41]
def nk:SL:=[af 38 0,af 39 5,mJ 40 107 38 39 4]
def ni:SL:=[⟨.l 41,none,.build kA []⟩,bH 8 4 41]
def nW:SL:=[af 42 6,dI 43 .eql 42 91]
def nV:SL:=[af 45 0,bI 46 45,bD 47 0 46,aA 48 47,af 49 5,dM 50 108 48 49,aQ 44 50,df 51 0 44,df 52 1 44,df 53 2 44,⟨.v 7,none,.allocL kC⟩,bH 4 7 51,ah 8 8 52,ah 9 9 53]
def o8:SL:=[af 54 9,dI 55 .neq 54 0]
def o7:SL:=[af 56 0,af 57 5,af 58 9,gm 59 107 56 57 58]
def o6:SL:=[af 60 0,af 61 8,bI 62 60,bD 63 1 62,eO 63 61]
def oZ:SL:=[eQ 64 4 7,⟨.l 65,none,.build kA [(0,1,(.c (.int .i64 1))),(1,4,(.l 64))]⟩,bH 8 4 65]
def oW:SL:=[af 66 0,bI 67 66,bD 68 1 67,aA 69 68,aL 70 .add 69 1,bI 71 66,bD 72 1 71,eO 72 70]
def oV:SL:=[af 73 6,dI 74 .eql 73 40]
def oU:SL:=[af 75 1,dI 76 .geq 75 20]
def oQ:SL:=[af 77 0,af 78 5,mJ 79 107 77 78 2]
def oP:SL:=[⟨.l 80,none,.build kA []⟩,bH 8 4 80]
def oO:SL:=[af 81 0,af 82 1,aL 83 .add 82 1,dM 84 69 81 83,⟨.v 10,none,.allocL kA⟩,bH 8 10 84]
def oN:SL:=[af 85 0,dP 86 93 85,dI 87 .neq 86 41]
def oM:SL:=[af 88 0,af 89 0,bI 90 89,bD 91 1 90,aA 92 91,mJ 93 107 88 92 3]
def oL:SL:=[af 94 0,bI 95 94,bD 96 1 95,aA 97 96,aL 98 .add 97 1,bI 99 94,bD 100 1 99,eO 100 98]
def oK:SL:=[eQ 101 8 10,bH 8 4 101]
def oJ:SL:=[af 102 6,dI 103 .eql 102 92]
def oI:SL:=[af 104 0,dP 105 93 104,ah 11 11 105]
def oH:SL:=[af 106 11,dI 107 .lss 106 0]
def oG:SL:=[af 108 0,af 109 0,bI 110 109,bD 111 1 110,aA 112 111,mJ 113 107 108 112 3]
def oF:SL:=[⟨.l 114,none,.build kA []⟩,bH 8 4 114]
def oD:SL:=[af 115 0,bI 116 115,bD 117 1 116,aA 118 117,aL 119 .add 118 1,bI 120 115,bD 121 1 120,eO 121 119]
def oC:SL:=[af 122 11,dI 123 .eql 122 110]
def oz:SL:=[aC 11 11 10]
def ou:SL:=[af 124 11,dI 125 .eql 124 116]
def oq:SL:=[aC 11 11 9]
def oo:SL:=[af 126 11,dP 127 109 126,bH 8 4 127]
def om:SL:=[af 128 6,dI 129 .eql 128 46]
def ol:SL:=[⟨.l 130,none,.call 110 []⟩,⟨.l 131,none,.build kA [(0,1,(.c (.int .i64 1))),(1,4,(.l 130))]⟩,bH 8 4 131]
def oh:SL:=[af 132 6,dI 133 .eql 132 94]
def og:SL:=[⟨.l 134,none,.build kA [(0,1,(.c (.int .i64 2)))]⟩,bH 8 4 134]
def nZ:SL:=[af 135 6,dI 136 .eql 135 36]
def nY:SL:=[⟨.l 137,none,.build kA [(0,1,(.c (.int .i64 3)))]⟩,bH 8 4 137]
def nX:SL:=[af 138 6,dP 139 109 138,bH 8 4 139]
def a101:AFunc:=⟨2,[0,1,4,5,6,7,8,9,10,11,31,37,43,55,74,76,87,103,107,123,125,129,133,136],[.cell 4 (some 8)],(sR nC (.seq (.draw nD) (.seq (sR nA (cV 31 (sR nz (sT ny)) .skip)) (.seq (sR nu (cV 37 (sR nk (sT ni)) .skip)) (.seq (sR nW (cV 43 (sR nV (.seq (sR o8 (cV 55 (.region o7) .skip)) (sR o6 (sT oZ)))) .skip)) (sR oW (.seq (sR oV (cV 74 (.seq (sR oU (cV 76 (sR oQ (sT oP)) .skip)) (sR oO (.seq (sR oN (cV 87 (.region oM) .skip)) (sR oL (sT oK))))) .skip)) (.seq (sR oJ (cV 103 (sR oI (.seq (sR oH (cV 107 (sR oG (sT oF)) .skip)) (sR oD (.seq (sR oC (cV 123 (.region oz) .skip)) (.seq (sR ou (cV 125 (.region oq) .skip)) (sT oo)))))) .skip)) (.seq (sR om (cV 129 (sT ol) .skip)) (.seq (sR oh (cV 133 (sT og) .skip)) (.seq (sR nZ (cV 136 (sT nY) .skip)) (sT nX)))))))))))),false⟩
def zbn:SL:=[iH 3 1,⟨.v 4,none,.allocL kA⟩]
def vO:SL:=[af 8 0,bI 9 8,bD 10 1 9,aA 11 10,ah 5 5 11,aC 6 6 0,aC 7 7 (-1)]
def vD:SL:=[af 12 0,⟨.v 13,none,.call 93 [.pl (.l 12)]⟩]
def ve:SL:=[gp 16 .eql 13 42,ah 15 15 16]
def u7:SL:=[af 17 0,bI 18 17,bD 19 1 18,aA 20 19,aL 21 .add 20 1,bI 22 17,bD 23 1 22,eO 23 21]
def u6:SL:=[gp 25 .eql 13 43,ah 24 24 25]
def uZ:SL:=[af 26 0,bI 27 26,bD 28 1 27,aA 29 28,aL 30 .add 29 1,bI 31 26,bD 32 1 31,eO 32 30]
def uY:SL:=[aC 6 6 1]
def uX:SL:=[gp 34 .eql 13 63,ah 33 33 34]
def uW:SL:=[af 35 0,bI 36 35,bD 37 1 36,aA 38 37,aL 39 .add 38 1,bI 40 35,bD 41 1 40,eO 41 39]
def vN:SL:=[aC 7 7 1]
def vM:SL:=[gp 43 .eql 13 123,ah 42 42 43]
def vL:SL:=[af 44 0,bI 45 44,bD 46 1 45,aA 47 46,aL 48 .add 47 1,bI 49 44,bD 50 1 49,eO 50 48]
def vK:SL:=[af 51 0,dP 52 111 51,ah 6 6 52]
def vJ:SL:=[af 53 6,ah 7 7 53]
def vI:SL:=[af 54 6,aL 55 .geq 54 0,aQ 56 55,aJ 57 56 true 0,⟨.l 58,some (.l 56,true),.call 93 [.pl (.l 57)]⟩,bW 59 56 true .eql 58 44,iR 60 56 59]
def vH:SL:=[af 61 0,bI 62 61,bD 63 1 62,aA 64 63,aL 65 .add 64 1,bI 66 61,bD 67 1 66,eO 67 65]
def vG:SL:=[af 68 0,dP 69 93 68,dI 70 .eql 69 125]
def vF:SL:=[aC 7 7 (-1)]
def vE:SL:=[af 71 0,dP 72 111 71,ah 7 7 72]
def vC:SL:=[af 73 7,af 74 6,fK 75 .lss 73 74]
def vB:SL:=[aC 6 6 (-1)]
def vz:SL:=[af 76 6,aL 77 .lss 76 0,aQ 78 77,aJ 79 78 false 0,⟨.l 80,some (.l 78,false),.call 93 [.pl (.l 79)]⟩,bW 81 78 false .neq 80 125,iq 82 78 81]
def vw:SL:=[af 83 0,af 84 5,mJ 85 107 83 84 50]
def vv:SL:=[eQ 86 8 3,bH 8 4 86]
def vo:SL:=[af 87 0,bI 88 87,bD 89 1 88,aA 90 89,aL 91 .add 90 1,bI 92 87,bD 93 1 92,eO 93 91]
def vk:SL:=[eQ 14 8 3,bH 8 4 14]
def vg:SL:=[af 94 6,af 95 7,eQ 96 8 3,⟨.l 97,none,.bslice false (.agg kA) 1 [(0,(.l 96))]⟩,⟨.l 98,none,.build kA [(0,1,(.c (.int .i64 6))),(5,1,(.l 94)),(6,1,(.l 95)),(7,1,(.l 97))]⟩,bH 8 3 98]
def a102l28:ACode:=(.block 1 (sR vO (.seq (sR vD (.block 2 (sR ve (cV 15 (.region u7) (sR u6 (cV 24 (sR uZ (.region uY)) (sR uX (cV 33 (sR uW (.region vN)) (sR vM (cV 42 (sR vL (sR vK (sR vJ (.seq (sR vI (cV 60 (sR vH (sR vG (cV 70 (.region vF) (sR vE (sR vC (cV 75 (.region vB) .skip)))))) .skip)) (.seq (sR vz (cV 82 (sR vw (sT vv)) .skip)) (.region vo)))))) (sT vk))))))))))) (.region vg))))
def a102:AFunc:=⟨2,[0,1,3,4,5,6,7,13,15,24,33,42,60,70,75,82],[.cell 4 (some 8)],(sR zbn (bL 0 a102l28)),false⟩
def X3:SL:=[⟨.v 2,none,.asg 2 (.c (.int .u8 0))⟩,dC 3 3 false]
def X5:Plan:=(.seq 0 (af 4 0) (.seq 1 (bI 5 4) (.seq 2 (bD 6 1 5) (.seq 3 (aA 7 6) (.seq 4 (af 8 0) (.seq 5 (bI 9 8) (.seq 6 (bD 10 0 9) (.seq 7 (aA 11 10) (.seq 8 (cO 12 true 11) (.seq 9 (fK 13 .eql 7 12) .fin))))))))))
def X0:SL:=[⟨.v 2,none,.asg 2 (.c (.int .u8 0))⟩,dC 3 3 false]
def X4:Plan:=(.seq 0 (af 14 0) (.seq 1 (bI 15 14) (.seq 2 (bD 16 0 15) (.seq 3 (aA 17 16) (.seq 4 (af 18 0) (.seq 5 (bI 19 18) (.seq 6 (bD 20 1 19) (.seq 7 (aA 21 20) (.seq 8 ⟨.l 22,none,.sidx (.l 17) (.l 21)⟩ (.seq 9 (ah 2 2 22) (.seq 10 (dC 3 3 true) .fin)))))))))))
def a98:AFunc:=⟨1,[0,2,3,13],[.tmp 2,.tmp 3],(sR X3 (.seq (.seq (.draw X5) (cV 13 (sT X0) .skip)) (.seq (.draw X4) .ret))),true⟩
def XZ:SL:=[⟨.v 4,none,.allocL kA⟩]
def XY:SL:=[af 9 0,af 10 1,dM 11 105 9 10,⟨.v 5,none,.allocL kA⟩,bH 8 5 11]
def He:SL:=[af 12 0,bI 13 12,bD 14 1 13,aA 15 14,ah 6 6 15]
def Hd:SL:=[aC 7 7 0,aC 8 8 (-1)]
def Ha:SL:=[af 18 0,⟨.l 19,none,.call 88 [.pl (.l 18),.pl (.c (.int .u8 42))]⟩,ah 17 17 19]
def G9:SL:=[af 21 0,⟨.l 22,none,.call 88 [.pl (.l 21),.pl (.c (.int .u8 43))]⟩,ah 20 20 22]
def G8:SL:=[aC 7 7 1]
def G7:SL:=[af 24 0,⟨.l 25,none,.call 88 [.pl (.l 24),.pl (.c (.int .u8 63))]⟩,ah 23 23 25]
def G6:SL:=[aC 8 8 1]
def G5:SL:=[af 27 0,⟨.l 28,none,.call 88 [.pl (.l 27),.pl (.c (.int .u8 123))]⟩,ah 26 26 28]
def Hl:SL:=[af 30 0,af 31 6,dM 32 106 30 31,aQ 29 32,df 33 0 29,df 34 1 29,ah 7 7 33,ah 8 8 34]
def Hg:SL:=[eQ 16 8 5,bH 8 4 16]
def Hf:SL:=[af 35 7,af 36 8,eQ 37 8 5,⟨.l 38,none,.bslice false (.agg kA) 1 [(0,(.l 37))]⟩,⟨.l 39,none,.build kA [(0,1,(.c (.int .i64 6))),(5,1,(.l 35)),(6,1,(.l 36)),(7,1,(.l 38))]⟩,bH 8 5 39]
def a99l13:ACode:=(.block 1 (sR He (sR Hd (.seq (.block 2 (sR Ha (cV 17 .skip (sR G9 (cV 20 (.region G8) (sR G7 (cV 23 (.region G6) (sR G5 (cV 26 (.region Hl) (sT Hg)))))))))) (.region Hf)))))
def a99:AFunc:=⟨2,[0,1,4,5,6,7,8,17,20,23,26],[.cell 4 (some 8)],(sR XZ (sR XY (bL 0 a99l13))),false⟩
def ziV:SL:=[aC 4 4 0]
def ziU:SL:=[af 6 0,⟨.v 7,none,.len false (.l 6)⟩,aC 8 8 0]
def Vo:SL:=[⟨.v 9,none,.bin .lss (.v 8) (.v 7)⟩]
def zbr:SL:=[af 10 8,ah 5 5 10]
def zbq:SL:=[af 11 1,af 12 0,af 13 5,fB 14 8 12 13,iY 15 8 14,⟨.v 16,none,.callv (.l 11) [.pl (.l 15)]⟩]
def zbp:SL:=[af 17 5,ah 4 5 17]
def zbo:SL:=[gp 18 .add 8 1,ah 8 8 18]
def a100l7:ACode:=(sR Vo (.seq (cV 9 .skip (.exit 0)) (.seq (.block 1 (sR zbr (sR zbq (cV 16 (sT zbp) .skip)))) (.region zbo))))
def ziT:SL:=[aC 4 4 (-1)]
def a100:AFunc:=⟨2,[0,1,4,5,7,8,9,16],[.tmp 4],(sR ziV (.seq (sR ziU (bL 0 a100l7)) (sT ziT))),false⟩
def Zk:SL:=[af 14 2,aL 15 .lss 14 0,aQ 16 15,aJ 17 16 false 2,aJ 18 16 false 1,jc 19 16 false true 18,iQ 20 16 false .gtr 17 19,iq 21 16 20]
def Zj:SL:=[af 22 0,af 23 1,af 24 0,bI 25 24,bD 26 0 25,aA 27 26,cO 28 false 27,⟨.l 29,none,.mslice true (.int .i64 0) (.l 28) (.l 28)⟩,⟨.l 30,none,.build [.nilp,.str [],.nils,.int .i64 0] [(0,1,(.l 22)),(1,1,(.l 23)),(2,1,(.l 29)),(3,1,(.c (.int .i64 1)))]⟩,⟨.l 31,none,.boxH (.l 30)⟩,ah 8 8 31]
def Zg:SL:=[af 32 8,af 33 0,bI 34 33,bD 35 1 34,aA 36 35,af 37 2,⟨.l 38,none,.call 61 [.pl (.l 32),.pl (.c .nils),.pl (.l 36),.pl (.l 37)]⟩,ah 9 9 38]
def Zf:SL:=[af 39 9,cO 40 false 39,dI 41 .gtr 40 0]
def zg6:SL:=[⟨.v 10,none,.asg 10 (.c .nils)⟩]
def zg5:SL:=[af 44 8,bI 45 44,bD 46 3 45,aA 47 46,aL 48 .add 47 1,bI 49 44,bD 50 3 49,eO 50 48]
def zg4:SL:=[⟨.v 51,none,.asg 51 (.v 9)⟩,⟨.v 52,none,.len false (.v 51)⟩,aC 53 53 0]
def A7:SL:=[⟨.v 54,none,.bin .lss (.v 53) (.v 52)⟩]
def C8:SL:=[⟨.l 55,none,.iaddr 0 (.v 51) (.v 53)⟩,aA 56 55,ah 12 12 56]
def CZ:SL:=[af 57 0,bI 58 57,bD 59 0 58,aA 60 59,af 61 12,fB 62 7 60 61,iY 63 7 62,⟨.v 13,none,.allocL kB⟩,bH 7 13 63]
def Dc:SL:=[bN 65 0 13,aA 66 65,aL 67 .eql 66 4,ah 64 64 67]
def Db:SL:=[af 68 3,af 69 2,⟨.l 70,none,.callv (.l 68) [.pl (.l 69)]⟩]
def De:Plan:=(.seq 0 (af 72 2) (.seq 1 (af 73 1) (.seq 2 (cO 74 true 73) (.seq 3 (eZ 75 .lss 72 74) (.seq 4 (aQ 76 75) (.seq 5 (gQ 77 76 true 1 13) (.seq 6 ⟨.l 78,some (.l 76,true),.load (some 4) (.l 77)⟩ (.seq 7 (aJ 79 76 true 1) (.seq 8 (aJ 80 76 true 2) (.seq 9 ⟨.l 81,some (.l 76,true),.sidx (.l 79) (.l 80)⟩ (.one 10 ⟨.l 82,some (.l 76,true),.call 62 [.pl (.l 78),.pl (.l 81)]⟩ (.seq 11 (gH 83 76 82) (.seq 12 (ah 71 71 83) .fin)))))))))))))
def Da:SL:=[af 84 8,af 85 10,bN 86 5 13,aA 87 86,af 88 2,aL 89 .add 88 1,⟨.l 90,none,.call 61 [.pl (.l 84),.tk (.l 85),.pl (.l 87),.pl (.l 89)]⟩,ah 10 10 90]
def C9:SL:=[gp 91 .add 53 1,ah 53 53 91]
def a37l15:ACode:=(sR A7 (.seq (cV 54 .skip (.exit 2)) (.seq (.block 3 (sR C8 (sR CZ (.block 4 (sR Dc (cV 64 (.region Db) (.seq (.draw De) (cV 71 (.region Da) .skip)))))))) (.region C9))))
def Zi:SL:=[af 92 10,ah 9 9 92]
def Zh:SL:=[af 42 2,aL 43 .add 42 1,ah 2 2 43]
def a37l18:ACode:=(.seq (sR Zf (cV 41 .skip (.exit 0))) (.seq (.block 1 (sR zg6 (sR zg5 (.seq (sR zg4 (bL 2 a37l15)) (.region Zi))))) (.region Zh)))
def a37:AFunc:=⟨4,[0,1,2,3,8,9,10,12,13,21,41,51,52,53,54,64,71],[],(.seq (sR Zk (cV 21 .ret .skip)) (sR Zj (sR Zg (bL 0 a37l18)))),false⟩
def zgJ:SL:=[af 3 0,⟨.no,none,.store none (.v 1) (.l 3)⟩]
def a60:AFunc:=⟨2,[0,1],[],(.region zgJ),false⟩
def Zo:SL:=[aC 4 4 0]
def Zn:SL:=[af 5 1,af 6 0,cO 7 false 6,fK 8 .lss 5 7]
def Zm:SL:=[af 9 0,af 10 1,fB 11 0 9 10,aA 12 11,ah 4 4 12]
def Zl:SL:=[aC 4 4 0]
def a228:AFunc:=⟨2,[0,1,4,8],[.tmp 4],(sR Zo (.seq (sR Zn (cV 8 (sT Zm) .skip)) (sT Zl))),true⟩
def zbd:SL:=[af 6 0,bI 7 6,bD 8 3 7,aA 9 8,dI 10 .eql 9 0]
def zbc:SL:=[af 11 0,af 12 0,af 13 1,af 14 2,bI 15 11,bD 16 2 15,eO 16 13,bI 17 12,bD 18 3 17,eO 18 14]
def a107:AFunc:=⟨3,[0,1,2,10],[],(sR zbd (cV 10 (.region zbc) .skip)),false⟩
def zbb:SL:=[⟨.v 4,none,.allocL kC⟩,aC 5 5 0,aC 6 6 0]
def zba:SL:=[af 19 1,aL 20 .lss 19 0,aQ 21 20,aJ 22 21 false 1,aJ 23 21 false 0,jc 24 21 false true 23,iQ 25 21 false .geq 22 24,fH 26 21 25,aQ 27 26,aJ 28 27 false 0,aJ 29 27 false 1,⟨.l 30,some (.l 27,false),.sidx (.l 28) (.l 29)⟩,⟨.l 31,some (.l 27,false),.bin .neq (.l 30) (.c (.int .u8 91))⟩,iq 32 27 31]
def za7:SL:=[⟨.l 33,none,.build kC []⟩,bH 4 4 33,aC 5 5 0,aC 6 6 1]
def za3:SL:=[af 34 1,aL 35 .add 34 1,ah 1 1 35]
def zaX:SL:=[af 36 0,af 37 1,dM 38 119 36 37,aL 39 .eql 38 94,ah 7 7 39]
def zaS:SL:=[⟨.v 40,none,.asg 40 (.v 7)⟩]
def zaR:SL:=[af 41 1,aL 42 .add 41 1,ah 1 1 42]
def zaQ:SL:=[⟨.l 43,none,.build (List.replicate 256 (.bool false)) []⟩,⟨.v 8,none,.allocL (List.replicate 256 (.bool false))⟩,bH 256 8 43]
def zaP:SL:=[dC 9 9 true]
def PG:SL:=[af 44 9,aQ 45 44,aJ 46 45 false 0,aJ 47 45 false 1,⟨.l 48,some (.l 45,false),.call 119 [.pl (.l 46),.pl (.l 47)]⟩,bW 49 45 false .neq 48 93,iq 50 45 49]
def PU:SL:=[af 51 0,af 52 1,dM 53 119 51 52,aL 54 .eql 53 91,aQ 55 54,aJ 56 55 true 0,aJ 57 55 true 1,bW 58 55 true .add 57 1,⟨.l 59,some (.l 55,true),.call 119 [.pl (.l 56),.pl (.l 58)]⟩,bW 60 55 true .eql 59 58,iR 61 55 60]
def ziR:SL:=[af 62 1,aL 63 .add 62 2,ah 10 10 63]
def PT:SL:=[af 64 10,af 65 0,cO 66 true 65,eZ 67 .lss 64 66,aQ 68 67,aJ 69 68 true 0,aJ 70 68 true 10,⟨.l 71,some (.l 68,true),.call 119 [.pl (.l 69),.pl (.l 70)]⟩,bW 72 68 true .eql 71 58,gK 73 68 true 72,aJ 74 73 true 0,aJ 75 73 true 10,bW 76 73 true .add 75 1,⟨.l 77,some (.l 73,true),.call 119 [.pl (.l 74),.pl (.l 76)]⟩,bW 78 73 true .eql 77 93,ku 79 68 true 73 78,⟨.l 80,some (.l 68,true),.un .not (.l 79)⟩,iR 81 68 80]
def PS:SL:=[af 82 10,aL 83 .add 82 1,ah 10 10 83]
def a108l14:ACode:=(.seq (sR PT (cV 81 .skip (.exit 2))) (.block 3 (.region PS)))
def za9:SL:=[af 84 10,af 85 0,cO 86 true 85,fK 87 .geq 84 86]
def za8:SL:=[⟨.l 88,none,.build kC []⟩,bH 4 4 88,aC 5 5 0,aC 6 6 3]
def ziQ:SL:=[aC 11 11 0]
def PQ:SL:=[af 89 11,dI 90 .lss 89 256]
def PP:SL:=[af 94 0,af 95 1,aL 96 .add 95 2,af 97 10,⟨.l 98,none,.slice none (.l 94) (some (.l 96)) (some (.l 97))⟩,af 99 11,dM 100 120 98 99,aQ 93 100,df 101 0 93,df 102 1 93,ah 12 12 101,ah 13 13 102]
def PN:SL:=[af 103 13,⟨.v 104,none,.un .not (.l 103)⟩]
def PL:SL:=[⟨.l 105,none,.build kC []⟩,bH 4 4 105,aC 5 5 0,aC 6 6 40]
def PK:SL:=[af 106 11,af 107 11,jX 108 256 0 8 107,aA 109 108,aQ 110 109,aJ 111 110 false 12,fH 112 110 111,jX 113 256 0 8 106,eO 113 112]
def PI:SL:=[af 91 11,aL 92 .add 91 1,ah 11 11 92]
def a108l24:ACode:=(.seq (sR PQ (cV 90 .skip (.exit 4))) (.seq (.block 5 (sR PP (.seq (sR PN (cV 104 (sT PL) .skip)) (.region PK)))) (.region PI)))
def ziP:SL:=[af 114 10,aL 115 .add 114 2,ah 1 1 115]
def za6:SL:=[af 117 0,af 118 1,dM 119 121 117 118,aQ 116 119,df 120 0 116,df 121 1 116,ah 14 14 120,ah 15 15 121]
def za5:SL:=[af 122 14,dI 123 .lss 122 0]
def za4:SL:=[⟨.l 124,none,.build kC []⟩,bH 4 4 124,aC 5 5 0,aC 6 6 3]
def ziO:SL:=[af 125 14,ah 16 16 125]
def I8:SL:=[af 126 0,af 127 15,dM 128 119 126 127,aL 129 .eql 128 45,aQ 130 129,aJ 131 130 true 0,aJ 132 130 true 15,bW 133 130 true .add 132 1,⟨.l 134,some (.l 130,true),.call 119 [.pl (.l 131),.pl (.l 133)]⟩,bW 135 130 true .neq 134 93,gH 136 130 135,aQ 137 136,aJ 138 137 true 0,aJ 139 137 true 15,bW 140 137 true .add 139 1,⟨.l 141,some (.l 137,true),.call 119 [.pl (.l 138),.pl (.l 140)]⟩,bW 142 137 true .eql 141 91,gK 143 137 true 142,aJ 144 143 true 0,aJ 145 143 true 15,bW 146 143 true .add 145 2,⟨.l 147,some (.l 143,true),.call 119 [.pl (.l 144),.pl (.l 146)]⟩,bW 148 143 true .eql 147 58,ku 149 137 true 143 148,⟨.l 150,some (.l 137,true),.un .not (.l 149)⟩,iR 151 137 150]
def Vk:SL:=[af 153 0,af 154 15,aL 155 .add 154 1,dM 156 121 153 155,aQ 152 156,df 157 0 152,df 158 1 152,ah 16 16 157,ah 15 15 158]
def Vj:SL:=[af 159 16,dI 160 .lss 159 0]
def Vi:SL:=[⟨.l 161,none,.build kC []⟩,bH 4 4 161,aC 5 5 0,aC 6 6 3]
def za2:SL:=[af 162 16,af 163 14,fK 164 .lss 162 163]
def ziN:SL:=[⟨.l 165,none,.build kC []⟩,bH 4 4 165,aC 5 5 0,aC 6 6 4]
def za1:SL:=[af 166 14,ah 17 17 166]
def za0:SL:=[af 167 17,af 168 16,fK 169 .leq 167 168]
def zaZ:SL:=[af 172 17,jX 173 256 0 8 172,⟨.no,none,.store none (.l 173) (.c (.bool true))⟩]
def zaY:SL:=[af 170 17,aL 171 .add 170 1,ah 17 17 171]
def a108l40:ACode:=(.seq (sR za0 (cV 169 .skip (.exit 6))) (.seq (.block 7 (.region zaZ)) (.region zaY)))
def zaW:SL:=[af 174 15,ah 1 1 174]
def Vh:SL:=[dC 9 9 false]
def a108l43:ACode:=(.seq (sR PG (cV 50 .skip (.exit 0))) (.seq (.block 1 (.seq (sR PU (cV 61 (sR ziR (.seq (bL 2 a108l14) (.seq (sR za9 (cV 87 (sT za8) .skip)) (.seq (sR ziQ (bL 4 a108l24)) (sR ziP (.exit 1)))))) .skip)) (sR za6 (.seq (sR za5 (cV 123 (sT za4) .skip)) (sR ziO (.seq (sR I8 (cV 151 (sR Vk (.seq (sR Vj (cV 160 (sT Vi) .skip)) (sR za2 (cV 164 (sT ziN) .skip)))) .skip)) (.seq (sR za1 (bL 6 a108l40)) (.region zaW)))))))) (.region Vh)))
def Vg:SL:=[⟨.v 175,none,.asg 175 (.v 7)⟩]
def Vf:SL:=[aC 18 18 0]
def zaV:SL:=[af 176 18,dI 177 .lss 176 256]
def zaU:SL:=[af 180 18,af 181 18,jX 182 256 0 8 181,aA 183 182,⟨.l 184,none,.un .not (.l 183)⟩,jX 185 256 0 8 180,eO 185 184]
def zaT:SL:=[af 178 18,aL 179 .add 178 1,ah 18 18 179]
def a108l49:ACode:=(.seq (sR zaV (cV 177 .skip (.exit 8))) (.seq (.block 9 (.region zaU)) (.region zaT)))
def Ve:SL:=[eQ 186 256 8,dP 187 122 186,af 188 1,aL 189 .add 188 1,bH 4 4 187,ah 5 5 189,aC 6 6 0]
def a108:AFunc:=⟨2,[0,1,4,5,6,7,8,9,10,11,12,13,14,15,16,17,18,32,40,50,61,81,87,90,104,123,151,160,164,169,175,177],[.cell 4 (some 4),.tmp 5,.tmp 6],(sR zbb (.seq (sR zba (cV 32 (sT za7) .skip)) (sR za3 (sR zaX (.seq (sR zaS (cV 40 (.region zaR) .skip)) (sR zaQ (.seq (sR zaP (bL 0 a108l43)) (.seq (sR Vg (cV 175 (sR Vf (bL 8 a108l49)) .skip)) (sT Ve))))))))),true⟩
def ziM:SL:=[⟨.v 2,none,.allocL kA⟩]
def ziL:SL:=[⟨.l 4,none,.build (List.replicate 256 (.bool false)) []⟩,⟨.v 3,none,.allocL (List.replicate 256 (.bool false))⟩,bH 256 3 4]
def ziK:SL:=[af 5 0,jX 6 256 0 3 5,⟨.no,none,.store none (.l 6) (.c (.bool true))⟩]
def ziJ:SL:=[eQ 7 256 3,dP 8 122 7,⟨.l 9,none,.build kA [(0,1,(.c (.int .i64 1))),(1,4,(.l 8))]⟩,bH 8 2 9]
def a109:AFunc:=⟨1,[0,2,3],[.cell 2 (some 8)],(sR ziM (sR ziL (sR ziK (sT ziJ)))),true⟩
def ziH:SL:=[⟨.v 0,none,.allocL kC⟩]
def ziG:SL:=[⟨.l 1,none,.build kC [(0,1,(.c (.int .u64 18446744073709551615))),(1,1,(.c (.int .u64 18446744073709551615))),(2,1,(.c (.int .u64 18446744073709551615))),(3,1,(.c (.int .u64 18446744073709551615)))]⟩,bH 4 0 1]
def a110:AFunc:=⟨0,[0],[.cell 0 (some 4)],(sR ziH (sT ziG)),true⟩
def ziF:SL:=[aC 2 2 0]
def ziE:SL:=[aC 3 3 0,aC 4 4 0]
def Em:SL:=[af 5 4,aL 6 .lss 5 2,aQ 7 6,aJ 8 7 true 0,⟨.l 9,some (.l 7,true),.call 93 [.pl (.l 8)]⟩,bW 10 7 true .geq 9 48,gH 11 7 10,aQ 12 11,aJ 13 12 true 0,⟨.l 14,some (.l 12,true),.call 93 [.pl (.l 13)]⟩,bW 15 12 true .leq 14 57,iR 16 12 15]
def zaO:SL:=[af 17 3,aL 18 .mul 17 10,af 19 0,dP 20 93 19,eZ 21 .add 18 20,aL 22 .sub 21 48,af 23 4,aL 24 .add 23 1,ah 3 3 22,ah 4 4 24]
def zaN:SL:=[af 25 0,bI 26 25,bD 27 1 26,aA 28 27,aL 29 .add 28 1,bI 30 25,bD 31 1 30,eO 31 29]
def a111l5:ACode:=(.seq (sR Em (cV 16 .skip (.exit 0))) (.block 1 (sR zaO (.region zaN))))
def I7:SL:=[af 32 4,aL 33 .eql 32 0,aQ 34 33,aJ 35 34 false 3,bW 36 34 false .gtr 35 50,iq 37 34 36]
def I6:SL:=[aC 2 2 (-1)]
def I5:SL:=[af 38 3,ah 2 3 38]
def a111:AFunc:=⟨1,[0,2,3,4,16,37],[.tmp 2],(sR ziF (sR ziE (.seq (bL 0 a111l5) (.seq (sR I7 (cV 37 (sT I6) .skip)) (sT I5))))),false⟩
def pV:SL:=[⟨.v 4,none,.allocL kA⟩]
def pU:SL:=[af 12 0,bI 13 12,bD 14 1 13,aA 15 14,ah 5 5 15]
def pR:SL:=[af 17 0,dP 18 98 17,aQ 16 18,df 19 0 16,df 20 1 16,ah 6 6 19,ah 7 7 20]
def pQ:SL:=[⟨.v 21,none,.asg 21 (.v 6)⟩]
def pO:SL:=[lX 23 .eql 21 42,ah 22 22 23]
def pM:SL:=[lX 24 .eql 21 43,ah 22 22 24]
def pK:SL:=[lX 25 .eql 21 63,ah 22 22 25]
def pJ:SL:=[lX 26 .eql 21 123,ah 22 22 26]
def xB:SL:=[af 27 0,af 28 5,mJ 29 113 27 28 50]
def tT:SL:=[lX 31 .eql 21 41,ah 30 30 31]
def F3:SL:=[af 32 0,af 33 5,mJ 34 113 32 33 4]
def uV:SL:=[lX 36 .eql 21 91,ah 35 35 36]
def Jc:SL:=[af 38 0,bI 39 38,bD 40 0 39,aA 41 40,af 42 5,dM 43 114 41 42,aQ 37 43,df 44 0 37,df 45 1 37,df 46 2 37,⟨.v 8,none,.allocL kC⟩,bH 4 8 44,ah 9 9 45,ah 10 10 46]
def Jb:SL:=[af 47 10,dI 48 .neq 47 0]
def Ja:SL:=[af 49 0,af 50 5,af 51 10,gm 52 113 49 50 51]
def Lp:SL:=[af 53 0,af 54 9,bI 55 53,bD 56 1 55,eO 56 54]
def Lm:SL:=[eQ 57 4 8,⟨.l 58,none,.build kA [(0,1,(.c (.int .i64 1))),(1,4,(.l 57))]⟩,bH 8 4 58]
def zJ:SL:=[af 59 0,bI 60 59,bD 61 1 60,aA 62 61,aL 63 .add 62 1,bI 64 59,bD 65 1 64,eO 65 63]
def zI:SL:=[⟨.v 66,none,.asg 66 (.v 6)⟩]
def zH:SL:=[lX 68 .eql 66 40,ah 67 67 68]
def PY:SL:=[af 69 1,dI 70 .geq 69 20]
def PX:SL:=[af 71 0,af 72 5,mJ 73 113 71 72 2]
def Vn:SL:=[af 74 0,af 75 1,aL 76 .add 75 1,dM 77 86 74 76,⟨.v 11,none,.allocL kA⟩,bH 8 11 77]
def zbh:SL:=[af 78 0,⟨.l 79,none,.call 88 [.pl (.l 78),.pl (.c (.int .u8 41))]⟩,⟨.v 80,none,.un .not (.l 79)⟩]
def zbg:SL:=[af 81 0,af 82 0,bI 83 82,bD 84 1 83,aA 85 84,mJ 86 113 81 85 3]
def zbf:SL:=[eQ 87 8 11,bH 8 4 87]
def I9:SL:=[lX 89 .eql 66 46,ah 88 88 89]
def Ll:SL:=[⟨.l 90,none,.build kC []⟩,dP 91 115 90,⟨.l 92,none,.build kA [(0,1,(.c (.int .i64 1))),(1,4,(.l 91))]⟩,bH 8 4 92]
def Lj:SL:=[lX 94 .eql 66 94,ah 93 93 94]
def PW:SL:=[⟨.l 95,none,.build kA [(0,1,(.c (.int .i64 2)))]⟩,bH 8 4 95]
def PV:SL:=[lX 97 .eql 66 36,ah 96 96 97]
def Vm:SL:=[⟨.l 98,none,.build kA [(0,1,(.c (.int .i64 3)))]⟩,bH 8 4 98]
def Vl:SL:=[lX 100 .eql 66 92,ah 99 99 100]
def zbe:SL:=[af 101 0,dP 102 116 101,dP 103 117 102,bH 8 4 103]
def ziS:SL:=[af 104 6,dP 105 117 104,bH 8 4 105]
def a105:AFunc:=⟨2,[0,1,4,5,6,7,8,9,10,11,21,22,30,35,48,66,67,70,80,88,93,96,99],[.cell 4 (some 8)],(sR pV (sR pU (sR pR (.seq (sR pQ (.block 0 (.seq (sR pO (.cond false (.v 22) .skip (sR pM (.cond false (.v 22) .skip (sR pK (.cond false (.v 22) .skip (.region pJ))))))) (.cond false (.v 22) (.region xB) (sR tT (cV 30 (.region F3) (sR uV (cV 35 (sR Jc (.seq (sR Jb (cV 48 (.region Ja) .skip)) (sR Lp (sT Lm)))) .skip)))))))) (sR zJ (.seq (sR zI (.block 1 (sR zH (cV 67 (.seq (sR PY (cV 70 (.region PX) .skip)) (sR Vn (.seq (sR zbh (cV 80 (.region zbg) .skip)) (sT zbf)))) (sR I9 (cV 88 (sT Ll) (sR Lj (cV 93 (sT PW) (sR PV (cV 96 (sT Vm) (sR Vl (cV 99 (sT zbe) .skip)))))))))))) (sT ziS))))))),false⟩
def Ey:SL:=[aC 4 4 0,aC 5 5 0]
def Ex:SL:=[af 10 0,dP 11 118 10,aQ 9 11,df 12 0 9,df 13 1 9,ah 6 6 12,ah 7 7 13]
def Ew:SL:=[af 14 6,ah 8 8 14]
def Ev:SL:=[af 15 7,aQ 16 15,aJ 17 16 true 0,⟨.l 18,some (.l 16,true),.call 88 [.pl (.l 17),.pl (.c (.int .u8 44))]⟩,iR 19 16 18]
def Eu:SL:=[af 20 0,⟨.v 21,none,.call 88 [.pl (.l 20),.pl (.c (.int .u8 125))]⟩]
def Et:SL:=[af 22 6,ah 4 6 22,aC 5 5 (-1)]
def Es:SL:=[af 24 0,dP 25 118 24,aQ 23 25,df 26 0 23,df 27 1 23,ah 8 8 26,ah 7 7 27]
def Er:SL:=[af 28 7,⟨.l 29,none,.un .not (.l 28)⟩,aQ 30 29,aJ 31 30 false 8,aJ 32 30 false 6,iQ 33 30 false .lss 31 32,fH 34 30 33,aQ 35 34,aJ 36 35 false 0,⟨.l 37,some (.l 35,false),.call 88 [.pl (.l 36),.pl (.c (.int .u8 125))]⟩,⟨.l 38,some (.l 35,false),.un .not (.l 37)⟩,iq 39 35 38]
def Ep:SL:=[af 40 0,af 41 1,mJ 42 113 40 41 50]
def Eo:SL:=[af 43 6,af 44 8,ah 4 6 43,ah 5 8 44]
def a106:AFunc:=⟨2,[0,1,4,5,6,7,8,19,21,39],[.tmp 4,.tmp 5],(sR Ey (sR Ex (sR Ew (.seq (sR Ev (cV 19 (.seq (sR Eu (cV 21 (sT Et) .skip)) (.region Es)) .skip)) (.seq (sR Er (cV 39 (.region Ep) .skip)) (sT Eo)))))),false⟩
def y9:SL:=[⟨.v 8,none,.asg 8 (.c .nils)⟩]
def yZ:SL:=[af 11 2,⟨.l 12,none,.bslice true (.int .i64 0) 1 [(0,(.l 11))]⟩,ah 9 9 12]
def yY:SL:=[af 13 9,cO 14 false 13,dI 15 .gtr 14 0]
def AY:SL:=[af 16 9,af 17 9,cO 18 false 17,aL 19 .sub 18 1,fB 20 0 16 19,aA 21 20,ah 2 2 21]
def AX:SL:=[af 22 9,af 23 9,cO 24 false 23,aL 25 .sub 24 1,⟨.l 26,none,.slice (some 0) (.l 22) none (some (.l 25))⟩,ah 9 9 26]
def AZ:Plan:=(.seq 0 (af 27 0) (.seq 1 (bI 28 27) (.seq 2 (bD 29 2 28) (.seq 3 (aA 30 29) (.seq 4 (af 31 2) (.seq 5 (fB 32 0 30 31) (.seq 6 (aA 33 32) (.seq 7 (af 34 0) (.seq 8 (bI 35 34) (.seq 9 (bD 36 3 35) (.seq 10 (aA 37 36) (.seq 11 (fK 38 .eql 33 37) .fin))))))))))))
def CY:Plan:=(.seq 0 (af 39 0) (.seq 1 (bI 40 39) (.seq 2 (bD 41 2 40) (.seq 3 (aA 42 41) (.seq 4 (af 43 2) (.seq 5 (af 44 0) (.seq 6 (bI 45 44) (.seq 7 (bD 46 3 45) (.seq 8 (aA 47 46) (.seq 9 (fB 48 0 42 43) (.one 10 (eO 48 47) .fin)))))))))))
def CR:SL:=[af 49 0,bI 50 49,bD 51 0 50,aA 52 51,bI 53 52,bD 54 0 53,aA 55 54,af 56 2,fB 57 7 55 56,iY 58 7 57,⟨.v 10,none,.allocL kB⟩,bH 7 10 58]
def CQ:SL:=[bN 60 0 10,aA 61 60,aL 62 .eql 61 3,ah 59 59 62]
def CP:SL:=[af 63 9,bN 64 6 10,aA 65 64,bN 66 5 10,aA 67 66,⟨.l 68,none,.bslice false (.int .i64 0) 2 [(0,(.l 65)),(1,(.l 67))]⟩,iI 69 0 63 68,ah 9 9 69]
def CX:SL:=[bN 71 0 10,aA 72 71,aL 73 .eql 72 1,aQ 74 73,aJ 75 74 true 3,bW 76 74 true .eql 75 0,gH 77 74 76,ah 70 70 77]
def CW:SL:=[bN 78 0 10,aA 79 78,aL 80 .eql 79 2,aQ 81 80,aJ 82 81 true 3,aJ 83 81 true 0,rF 84 81 true 83,rU 85 81 true 1 84,fI 86 81 true 85,jc 87 81 true true 86,iQ 88 81 true .eql 82 87,gH 89 81 88,ah 70 70 89]
def CV:SL:=[af 90 9,bN 91 5 10,aA 92 91,⟨.l 93,none,.bslice false (.int .i64 0) 1 [(0,(.l 92))]⟩,iI 94 0 90 93,ah 9 9 94]
def CU:SL:=[bN 96 0 10,aA 97 96,aL 98 .eql 97 0,aQ 99 98,gQ 100 99 false 0 10,fI 101 99 false 100,bW 102 99 false .eql 101 4,fH 103 99 102,ah 95 95 103]
def CS:SL:=[af 104 1,af 105 2,⟨.l 106,none,.bslice false (.int .i64 0) 1 [(0,(.l 105))]⟩,iI 107 0 104 106,ah 1 1 107]
def a61l15:ACode:=(.seq (sR yY (cV 15 .skip (.exit 0))) (.block 1 (sR AY (sR AX (.seq (.seq (.draw AZ) (cV 38 (.exit 1) .skip)) (.seq (.draw CY) (sR CR (.block 2 (sR CQ (cV 59 (.region CP) (.seq (sR CX (.cond false (.v 70) .skip (.region CW))) (.cond false (.v 70) (.region CV) (sR CU (cV 95 (.region CS) .skip))))))))))))))
def uF:SL:=[af 108 1,ah 8 1 108]
def a61:AFunc:=⟨4,[0,1,2,3,8,9,10,15,38,59,70,95],[.tmp 8],(sR y9 (sR yZ (.seq (bL 0 a61l15) (sT uF)))),false⟩
def zgI:SL:=[iH 2 0,dC 4 4 false]
def zgH:SL:=[eQ 5 4 2,af 6 1,dM 7 84 5 6,ah 4 4 7]
def a62:AFunc:=⟨2,[0,1,2,4],[.tmp 4],(sR zgI (sT zgH)),true⟩
def zaA:SL:=[aC 4 4 0]
def zaz:SL:=[af 5 1,af 6 0,cO 7 true 6,fK 8 .lss 5 7]
def zay:SL:=[af 9 0,af 10 1,⟨.l 11,none,.sidx (.l 9) (.l 10)⟩,⟨.l 12,none,.conv .i64 (.l 11)⟩,ah 4 4 12]
def zax:SL:=[aC 4 4 (-1)]
def a119:AFunc:=⟨2,[0,1,4,8],[.tmp 4],(sR zaA (.seq (sR zaz (cV 8 (sT zay) .skip)) (sT zax))),true⟩
def El:SL:=[dC 4 4 false,dC 5 5 false]
def Ej:SL:=[af 9 1,aL 10 .geq 9 65,aQ 11 10,aJ 12 11 true 1,bW 13 11 true .leq 12 90,gH 14 11 13,af 15 1,aL 16 .geq 15 97,aQ 17 16,aJ 18 17 true 1,bW 19 17 true .leq 18 122,gH 20 17 19,af 21 1,aL 22 .geq 21 48,aQ 23 22,aJ 24 23 true 1,bW 25 23 true .leq 24 57,gH 26 23 25,ah 6 6 14,ah 7 7 20,ah 8 8 26]
def D8:SL:=[⟨.v 27,none,.asg 27 (.v 0)⟩]
def DU:SL:=[⟨.l 29,none,.bin .eql (.v 27) (.c (.str [97,108,112,104,97]))⟩,ah 28 28 29]
def DT:SL:=[af 30 6,aQ 31 30,aJ 32 31 false 7,fH 33 31 32,ah 4 4 33,dC 5 5 true]
def DR:SL:=[⟨.l 35,none,.bin .eql (.v 27) (.c (.str [100,105,103,105,116]))⟩,ah 34 34 35]
def DN:SL:=[af 36 8,ah 4 8 36,dC 5 5 true]
def DL:SL:=[⟨.l 38,none,.bin .eql (.v 27) (.c (.str [97,108,110,117,109]))⟩,ah 37 37 38]
def DK:SL:=[af 39 6,aQ 40 39,aJ 41 40 false 7,fH 42 40 41,aQ 43 42,aJ 44 43 false 8,fH 45 43 44,ah 4 4 45,dC 5 5 true]
def DJ:SL:=[⟨.l 47,none,.bin .eql (.v 27) (.c (.str [117,112,112,101,114]))⟩,ah 46 46 47]
def Ei:SL:=[af 48 6,ah 4 6 48,dC 5 5 true]
def Eh:SL:=[⟨.l 50,none,.bin .eql (.v 27) (.c (.str [108,111,119,101,114]))⟩,ah 49 49 50]
def Eg:SL:=[af 51 7,ah 4 7 51,dC 5 5 true]
def Ef:SL:=[⟨.l 53,none,.bin .eql (.v 27) (.c (.str [115,112,97,99,101]))⟩,ah 52 52 53]
def Ee:SL:=[af 54 1,aL 55 .eql 54 32,aQ 56 55,aJ 57 56 false 1,bW 58 56 false .geq 57 9,gK 59 56 false 58,aJ 60 59 true 1,bW 61 59 true .leq 60 13,ku 62 56 false 59 61,fH 63 56 62,ah 4 4 63,dC 5 5 true]
def Ed:SL:=[⟨.l 65,none,.bin .eql (.v 27) (.c (.str [98,108,97,110,107]))⟩,ah 64 64 65]
def Ec:SL:=[af 66 1,aL 67 .eql 66 32,aQ 68 67,aJ 69 68 false 1,bW 70 68 false .eql 69 9,fH 71 68 70,ah 4 4 71,dC 5 5 true]
def Eb:SL:=[⟨.l 73,none,.bin .eql (.v 27) (.c (.str [112,117,110,99,116]))⟩,ah 72 72 73]
def Ea:SL:=[af 74 1,aL 75 .gtr 74 32,aQ 76 75,aJ 77 76 true 1,bW 78 76 true .lss 77 127,gH 79 76 78,aQ 80 79,aJ 81 80 true 6,⟨.l 82,some (.l 80,true),.un .not (.l 81)⟩,gH 83 80 82,aQ 84 83,aJ 85 84 true 7,⟨.l 86,some (.l 84,true),.un .not (.l 85)⟩,gH 87 84 86,aQ 88 87,aJ 89 88 true 8,⟨.l 90,some (.l 88,true),.un .not (.l 89)⟩,gH 91 88 90,ah 4 4 91,dC 5 5 true]
def D9:SL:=[⟨.l 93,none,.bin .eql (.v 27) (.c (.str [112,114,105,110,116]))⟩,ah 92 92 93]
def D7:SL:=[af 94 1,aL 95 .geq 94 32,aQ 96 95,aJ 97 96 true 1,bW 98 96 true .lss 97 127,gH 99 96 98,ah 4 4 99,dC 5 5 true]
def D6:SL:=[⟨.l 101,none,.bin .eql (.v 27) (.c (.str [103,114,97,112,104]))⟩,ah 100 100 101]
def D5:SL:=[af 102 1,aL 103 .gtr 102 32,aQ 104 103,aJ 105 104 true 1,bW 106 104 true .lss 105 127,gH 107 104 106,ah 4 4 107,dC 5 5 true]
def DZ:SL:=[⟨.l 109,none,.bin .eql (.v 27) (.c (.str [99,110,116,114,108]))⟩,ah 108 108 109]
def DY:SL:=[af 110 1,aL 111 .lss 110 32,aQ 112 111,aJ 113 112 false 1,bW 114 112 false .eql 113 127,fH 115 112 114,ah 4 4 115,dC 5 5 true]
def DX:SL:=[⟨.l 117,none,.bin .eql (.v 27) (.c (.str [120,100,105,103,105,116]))⟩,ah 116 116 117]
def DW:SL:=[af 118 8,aQ 119 118,aJ 120 119 false 1,bW 121 119 false .geq 120 65,gK 122 119 false 121,aJ 123 122 true 1,bW 124 122 true .leq 123 70,ku 125 119 false 122 124,fH 126 119 125,aQ 127 126,aJ 128 127 false 1,bW 129 127 false .geq 128 97,gK 130 127 false 129,aJ 131 130 true 1,bW 132 130 true .leq 131 102,ku 133 127 false 130 132,fH 134 127 133,ah 4 4 134,dC 5 5 true]
def DV:SL:=[dC 4 4 false,dC 5 5 false]
def a120:AFunc:=⟨2,[0,1,4,5,6,7,8,27,28,34,37,46,49,52,64,72,92,100,108,116],[.tmp 4,.tmp 5],(sR El (sR Ej (.seq (sR D8 (.block 0 (sR DU (cV 28 (sT DT) (sR DR (cV 34 (sT DN) (sR DL (cV 37 (sT DK) (sR DJ (cV 46 (sT Ei) (sR Eh (cV 49 (sT Eg) (sR Ef (cV 52 (sT Ee) (sR Ed (cV 64 (sT Ec) (sR Eb (cV 72 (sT Ea) (sR D9 (cV 92 (sT D7) (sR D6 (cV 100 (sT D5) (sR DZ (cV 108 (sT DY) (sR DX (cV 116 (sT DW) .skip)))))))))))))))))))))))))) (sT DV)))),true⟩
def Pd:SL:=[aC 4 4 0,aC 5 5 0]
def Pb:SL:=[af 7 0,af 8 1,dM 9 119 7 8,dI 10 .neq 9 92]
def O9:SL:=[af 11 0,af 12 1,dM 13 119 11 12,af 14 1,aL 15 .add 14 1,ah 4 4 13,ah 5 5 15]
def O8:SL:=[af 16 0,af 17 1,aL 18 .add 17 1,dM 19 119 16 18,ah 6 6 19]
def O7:SL:=[af 20 6,dI 21 .eql 20 110]
def O6:SL:=[aC 6 6 10]
def O5:SL:=[af 22 6,dI 23 .eql 22 116]
def O4:SL:=[aC 6 6 9]
def O3:SL:=[af 24 6,af 25 1,aL 26 .add 25 2,ah 4 6 24,ah 5 5 26]
def a121:AFunc:=⟨2,[0,1,4,5,6,10,21,23],[.tmp 4,.tmp 5],(sR Pd (.seq (sR Pb (cV 10 (sT O9) .skip)) (sR O8 (.seq (sR O7 (cV 21 (.region O6) .skip)) (.seq (sR O5 (cV 23 (.region O4) .skip)) (sT O3)))))),true⟩
def ziw:SL:=[iH 1 0,⟨.v 2,none,.allocL kC⟩]
def ziv:SL:=[⟨.l 5,none,.build kC []⟩,⟨.v 3,none,.allocL kC⟩,bH 4 3 5]
def ziu:SL:=[aC 4 4 255]
def U9:SL:=[af 6 4,dI 7 .geq 6 0]
def zaw:SL:=[af 10 4,aL 11 .quo 10 64,af 12 4,aL 13 .quo 12 64,jX 14 4 0 3 13,aA 15 14,⟨.l 16,none,.bin .mul (.l 15) (.c (.int .u64 2))⟩,jX 17 4 0 3 11,eO 17 16]
def zav:SL:=[af 18 4,jX 19 256 0 1 18,⟨.v 20,none,.load none (.l 19)⟩]
def zau:SL:=[af 21 4,aL 22 .quo 21 64,jX 23 4 0 3 22,aA 24 23,⟨.l 25,none,.bin .add (.l 24) (.c (.int .u64 1))⟩,jX 26 4 0 3 22,eO 26 25]
def zat:SL:=[af 8 4,aL 9 .sub 8 1,ah 4 4 9]
def a122l8:ACode:=(.seq (sR U9 (cV 7 .skip (.exit 0))) (.seq (.block 1 (sR zaw (sR zav (cV 20 (.region zau) .skip)))) (.region zat)))
def zit:SL:=[eQ 27 4 3,bH 4 2 27]
def a122:AFunc:=⟨1,[0,1,2,3,4,7,20],[.cell 2 (some 4)],(sR ziw (sR ziv (.seq (sR ziu (bL 0 a122l8)) (sT zit)))),true⟩
def ziD:SL:=[af 6 1,af 7 2,⟨.l 8,none,.build [.int .i64 0,.int .i64 0] [(0,1,(.l 6)),(1,1,(.l 7))]⟩,⟨.l 9,none,.mkifc 1 (.l 8)⟩,⟨.no,none,.panic (.l 9)⟩]
def a113:AFunc:=⟨3,[0,1,2],[],(.region ziD),true⟩
def zaL:SL:=[⟨.v 4,none,.allocL kC⟩,aC 5 5 0,aC 6 6 0]
def zaK:SL:=[af 13 1,aL 14 .lss 13 0,aQ 15 14,aJ 16 15 false 1,aJ 17 15 false 0,jc 18 15 false true 17,iQ 19 15 false .geq 16 18,fH 20 15 19,aQ 21 20,aJ 22 21 false 0,aJ 23 21 false 1,⟨.l 24,some (.l 21,false),.sidx (.l 22) (.l 23)⟩,⟨.l 25,some (.l 21,false),.bin .neq (.l 24) (.c (.int .u8 91))⟩,iq 26 21 25]
def zaH:SL:=[⟨.l 27,none,.build kC []⟩,bH 4 4 27,aC 5 5 0,aC 6 6 1]
def zaG:SL:=[af 28 0,af 29 1,aL 30 .add 29 1,⟨.l 31,none,.build [.str [],.int .i64 0] [(0,1,(.l 28)),(1,1,(.l 30))]⟩,⟨.l 32,none,.boxH (.l 31)⟩,ah 7 7 32]
def zaF:SL:=[af 33 7,⟨.l 34,none,.call 124 [.pl (.l 33),.pl (.c (.str [94]))]⟩,ah 8 8 34]
def zaE:SL:=[⟨.v 35,none,.asg 35 (.v 8)⟩]
def zaD:SL:=[af 36 7,bI 37 36,bD 38 1 37,aA 39 38,aL 40 .add 39 1,bI 41 36,bD 42 1 41,eO 42 40]
def zaC:SL:=[⟨.v 9,none,.allocL kC⟩]
def zaB:SL:=[dC 10 10 true]
def Li:SL:=[af 43 10,aQ 44 43,aJ 45 44 false 7,⟨.l 46,some (.l 44,false),.call 124 [.pl (.l 45),.pl (.c (.str [93]))]⟩,⟨.l 47,some (.l 44,false),.un .not (.l 46)⟩,iq 48 44 47]
def Px:SL:=[af 50 7,dP 51 125 50,aQ 49 51,df 52 0 49,df 53 1 49,⟨.v 11,none,.allocL kC⟩,bH 4 11 52,ah 12 12 53]
def Pw:SL:=[af 54 12,dI 55 .neq 54 0]
def Pv:SL:=[⟨.l 56,none,.build kC []⟩,af 57 12,bH 4 4 56,aC 5 5 0,ah 6 12 57]
def Pt:SL:=[eQ 58 4 9,eQ 59 4 11,dM 60 126 58 59,bH 4 9 60]
def Ps:SL:=[dC 10 10 false]
def a114l15:ACode:=(.seq (sR Li (cV 48 .skip (.exit 0))) (.seq (.block 1 (sR Px (.seq (sR Pw (cV 55 (sT Pv) .skip)) (.region Pt)))) (.region Ps)))
def zaJ:SL:=[⟨.v 61,none,.asg 61 (.v 8)⟩]
def zaI:SL:=[eQ 62 4 9,dP 63 127 62,bH 4 9 63]
def zaM:Plan:=(.seq 0 (eQ 64 4 9) (.seq 1 (af 65 7) (.seq 2 (bI 66 65) (.seq 3 (bD 67 1 66) (.alt 4 (aA 68 67) (.seq 5 (aL 69 .add 68 1) (.one 6 (bH 4 4 64) (.seq 7 (ah 5 5 69) (.seq 8 (aC 6 6 0) .fin)))) (.one 6 (bH 4 4 64) (.seq 4 (aA 68 67) (.seq 5 (aL 69 .add 68 1) (.seq 7 (ah 5 5 69) (.seq 8 (aC 6 6 0) .fin))))))))))
def a114:AFunc:=⟨2,[0,1,4,5,6,7,8,9,10,11,12,26,35,48,55,61],[.cell 4 (some 4),.tmp 5,.tmp 6],(sR zaL (.seq (sR zaK (cV 26 (sT zaH) .skip)) (sR zaG (sR zaF (.seq (sR zaE (cV 35 (.region zaD) .skip)) (sR zaC (.seq (sR zaB (bL 0 a114l15)) (.seq (sR zaJ (cV 61 (.region zaI) .skip)) (.seq (.draw zaM) .ret))))))))),true⟩
def ziC:SL:=[iH 1 0,⟨.v 2,none,.allocL kC⟩]
def ziB:SL:=[eQ 3 4 1,dP 4 127 3,bH 4 2 4]
def a115:AFunc:=⟨1,[0,1,2],[.cell 2 (some 4)],(sR ziC (sT ziB)),true⟩
def ziA:SL:=[⟨.v 2,none,.allocL kA⟩]
def ziz:SL:=[⟨.l 3,none,.build kC []⟩,af 4 0,af 5 0,gm 6 128 3 4 5,⟨.l 7,none,.build kA [(0,1,(.c (.int .i64 1))),(1,4,(.l 6))]⟩,bH 8 2 7]
def a117:AFunc:=⟨1,[0,2],[.cell 2 (some 8)],(sR ziA (sT ziz)),true⟩
def Pq:SL:=[⟨.v 2,none,.asg 2 (.c (.int .u8 0))⟩]
def Pp:SL:=[af 6 0,dP 7 98 6,aQ 5 7,df 8 0 5,df 9 1 5,ah 3 3 8,ah 4 4 9]
def Pm:SL:=[af 10 4,⟨.v 11,none,.un .not (.l 10)⟩]
def Pk:SL:=[af 12 0,af 13 0,bI 14 13,bD 15 1 14,aA 16 15,mJ 17 113 12 16 3]
def Pj:SL:=[af 18 0,bI 19 18,bD 20 1 19,aA 21 20,aL 22 .add 21 1,bI 23 18,bD 24 1 23,eO 24 22]
def Pi:SL:=[⟨.v 25,none,.asg 25 (.v 3)⟩]
def Ph:SL:=[lX 27 .eql 25 110,ah 26 26 27]
def Pg:SL:=[⟨.v 2,none,.asg 2 (.c (.int .u8 10))⟩]
def Pf:SL:=[lX 29 .eql 25 116,ah 28 28 29]
def Pe:SL:=[⟨.v 2,none,.asg 2 (.c (.int .u8 9))⟩]
def Po:SL:=[af 30 3,ah 2 3 30]
def a116:AFunc:=⟨1,[0,2,3,4,11,25,26,28],[.tmp 2],(sR Pq (sR Pp (.seq (sR Pm (cV 11 (.region Pk) .skip)) (sR Pj (.seq (sR Pi (.block 0 (sR Ph (cV 26 (sT Pg) (sR Pf (cV 28 (sT Pe) .skip)))))) (sT Po)))))),false⟩
def ziy:SL:=[aC 2 2 0,dC 3 3 false]
def zix:SL:=[aC 4 4 0,aC 5 5 0]
def uU:SL:=[af 8 5,dI 9 .lss 8 2]
def xA:SL:=[af 11 0,dP 12 98 11,aQ 10 12,df 13 0 10,df 14 1 10,ah 6 6 13,ah 7 7 14]
def xz:SL:=[af 15 7,⟨.l 16,none,.un .not (.l 15)⟩,aQ 17 16,aJ 18 17 false 6,⟨.l 19,some (.l 17,false),.bin .lss (.l 18) (.c (.int .u8 48))⟩,fH 20 17 19,aQ 21 20,aJ 22 21 false 6,⟨.l 23,some (.l 21,false),.bin .gtr (.l 22) (.c (.int .u8 57))⟩,iq 24 21 23]
def xy:SL:=[af 25 4,⟨.l 26,none,.bin .mul (.c (.int .i64 10)) (.l 25)⟩,af 27 6,⟨.l 28,none,.bin .sub (.l 27) (.c (.int .u8 48))⟩,⟨.l 29,none,.conv .i64 (.l 28)⟩,eZ 30 .add 26 29,ah 4 4 30]
def xw:SL:=[af 31 0,bI 32 31,bD 33 1 32,aA 34 33,aL 35 .add 34 1,bI 36 31,bD 37 1 36,eO 37 35]
def xu:SL:=[af 38 5,aL 39 .add 38 1,ah 5 5 39]
def a118l8:ACode:=(.seq (sR uU (cV 9 .skip (.exit 0))) (.block 1 (sR xA (.seq (sR xz (cV 24 (.exit 0) .skip)) (sR xy (sR xw (.region xu)))))))
def FZ:SL:=[af 40 4,af 41 5,aL 42 .gtr 41 0,aQ 43 42,aJ 44 43 true 4,bW 45 43 true .leq 44 50,gH 46 43 45,ah 2 4 40,ah 3 3 46]
def a118:AFunc:=⟨1,[0,2,3,4,5,6,7,9,24],[.tmp 2,.tmp 3],(sR ziy (sR zix (.seq (bL 0 a118l8) (sT FZ)))),false⟩
def zfL:SL:=[iH 2 0,dC 4 4 false]
def zfK:SL:=[af 5 1,⟨.l 6,none,.bin .quo (.l 5) (.c (.int .u8 64))⟩,jX 7 4 0 2 6,aA 8 7,af 9 1,⟨.l 10,none,.bin .rem (.l 9) (.c (.int .u8 64))⟩,eZ 11 .shr 8 10,⟨.l 12,none,.bin .and (.l 11) (.c (.int .u64 1))⟩,⟨.l 13,none,.bin .eql (.l 12) (.c (.int .u64 1))⟩,ah 4 4 13]
def a84:AFunc:=⟨2,[0,1,2,4],[.tmp 4],(sR zfL (sT zfK)),true⟩
def zir:SL:=[dC 4 4 false]
def zis:Plan:=(.seq 0 (af 5 0) (.seq 1 (bI 6 5) (.seq 2 (bD 7 0 6) (.seq 3 (aA 8 7) (.seq 4 (af 9 0) (.seq 5 (bI 10 9) (.seq 6 (bD 11 1 10) (.seq 7 (aA 12 11) (.seq 8 ⟨.l 13,none,.slice none (.l 8) (some (.l 12)) none⟩ (.seq 9 (af 14 1) (.one 10 (dM 15 133 13 14) (.seq 11 (ah 4 4 15) .fin))))))))))))
def a124:AFunc:=⟨2,[0,1,4],[.tmp 4],(sR zir (.seq (.draw zis) .ret)),true⟩
def zF:SL:=[⟨.v 2,none,.allocL kC⟩,aC 3 3 0]
def zD:SL:=[af 11 0,⟨.v 12,none,.call 124 [.pl (.l 11),.pl (.c (.str [91,58]))]⟩]
def zG:Plan:=(.seq 0 (af 14 0) (.seq 1 (bI 15 14) (.seq 2 (bD 16 0 15) (.seq 3 (aA 17 16) (.seq 4 (af 18 0) (.seq 5 (bI 19 18) (.seq 6 (bD 20 1 19) (.seq 7 (aA 21 20) (.seq 8 (aL 22 .add 21 2) (.seq 9 ⟨.l 23,none,.slice none (.l 17) (some (.l 22)) none⟩ (.one 10 ⟨.l 24,none,.call 95 [.pl (.l 23),.pl (.c (.str [58,93]))]⟩ (.seq 11 (aQ 13 24) (.seq 12 (df 25 0 13) (.seq 13 (df 26 1 13) (.seq 14 (df 27 2 13) (.seq 15 (ah 4 4 25) (.seq 16 (ah 5 5 26) (.seq 17 (ah 6 6 27) .fin))))))))))))))))))
def zm:SL:=[af 28 6,⟨.v 29,none,.un .not (.l 28)⟩]
def zl:SL:=[⟨.l 30,none,.build kC []⟩,bH 4 2 30,aC 3 3 3]
def zk:SL:=[af 31 0,bI 32 31,bD 33 1 32,aA 34 33,af 35 4,cO 36 true 35,aL 37 .add 36 4,eZ 38 .add 34 37,bI 39 31,bD 40 1 39,eO 40 38]
def zi:SL:=[af 42 4,dP 43 134 42,aQ 41 43,df 44 0 41,df 45 1 41,⟨.v 7,none,.allocL kC⟩,bH 4 7 44,ah 6 6 45]
def zh:SL:=[af 46 6,⟨.v 47,none,.un .not (.l 46)⟩]
def zg:SL:=[⟨.l 48,none,.build kC []⟩,bH 4 2 48,aC 3 3 40]
def zf:SL:=[eQ 49 4 7,bH 4 2 49,aC 3 3 0]
def zC:SL:=[af 51 0,dP 52 135 51,aQ 50 52,df 53 0 50,df 54 1 50,ah 8 8 53,ah 9 9 54]
def zB:SL:=[af 55 9,⟨.v 56,none,.un .not (.l 55)⟩]
def zA:SL:=[⟨.l 57,none,.build kC []⟩,bH 4 2 57,aC 3 3 3]
def zz:SL:=[af 58 8,ah 10 10 58]
def zy:SL:=[af 59 0,⟨.l 60,none,.call 124 [.pl (.l 59),.pl (.c (.str [45]))]⟩,aQ 61 60,aJ 62 61 true 0,⟨.l 63,some (.l 61,true),.call 124 [.pl (.l 62),.pl (.c (.str [45,93]))]⟩,⟨.l 64,some (.l 61,true),.un .not (.l 63)⟩,gH 65 61 64,aQ 66 65,aJ 67 66 true 0,⟨.l 68,some (.l 66,true),.call 124 [.pl (.l 67),.pl (.c (.str [45,91,58]))]⟩,⟨.l 69,some (.l 66,true),.un .not (.l 68)⟩,iR 70 66 69]
def zx:SL:=[af 71 0,bI 72 71,bD 73 1 72,aA 74 73,aL 75 .add 74 1,bI 76 71,bD 77 1 76,eO 77 75]
def zw:SL:=[af 79 0,dP 80 135 79,aQ 78 80,df 81 0 78,df 82 1 78,ah 10 10 81,ah 9 9 82]
def zu:SL:=[af 83 9,⟨.v 84,none,.un .not (.l 83)⟩]
def zt:SL:=[⟨.l 85,none,.build kC []⟩,bH 4 2 85,aC 3 3 3]
def zq:SL:=[af 86 10,af 87 8,fK 88 .lss 86 87]
def zo:SL:=[⟨.l 89,none,.build kC []⟩,bH 4 2 89,aC 3 3 4]
def zn:SL:=[⟨.l 90,none,.build kC []⟩,af 91 8,af 92 10,gm 93 136 90 91 92,bH 4 2 93,aC 3 3 0]
def a125:AFunc:=⟨1,[0,2,3,4,5,6,7,8,9,10,12,29,47,56,70,84,88],[.cell 2 (some 4),.tmp 3],(sR zF (.seq (sR zD (cV 12 (.seq (.draw zG) (.seq (sR zm (cV 29 (sT zl) .skip)) (sR zk (sR zi (.seq (sR zh (cV 47 (sT zg) .skip)) (sT zf)))))) .skip)) (sR zC (.seq (sR zB (cV 56 (sT zA) .skip)) (sR zz (.seq (sR zy (cV 70 (sR zx (.seq (sR zw (sR zu (cV 84 (sT zt) .skip))) (sR zq (cV 88 (sT zo) .skip)))) .skip)) (sT zn))))))),false⟩
def ziq:SL:=[iH 2 0,iH 3 1,⟨.v 4,none,.allocL kC⟩]
def zio:SL:=[aC 6 6 0]
def Lg:SL:=[⟨.v 7,none,.bin .lss (.v 6) (.c (.int .i64 4))⟩]
def Lf:SL:=[af 8 6,ah 5 5 8]
def Lh:Plan:=(.seq 0 (af 9 5) (.seq 1 (jX 10 4 0 2 9) (.seq 2 (aA 11 10) (.seq 3 (af 12 5) (.seq 4 (jX 13 4 0 3 12) (.seq 5 (aA 14 13) (.seq 6 (eZ 15 .or 11 14) (.seq 7 (jX 16 4 0 2 9) (.one 8 (eO 16 15) .fin)))))))))
def Le:SL:=[gp 17 .add 6 1,ah 6 6 17]
def a126l6:ACode:=(sR Lg (.seq (cV 7 .skip (.exit 0)) (.seq (.block 1 (sR Lf (.draw Lh))) (.region Le))))
def zin:SL:=[eQ 18 4 2,bH 4 4 18]
def a126:AFunc:=⟨2,[0,1,2,3,4,5,6,7],[.cell 4 (some 4)],(sR ziq (.seq (sR zio (bL 0 a126l6)) (sT zin))),true⟩
def zim:SL:=[iH 1 0,⟨.v 2,none,.allocL kC⟩]
def zil:SL:=[aC 4 4 0]
def Ld:SL:=[⟨.v 5,none,.bin .lss (.v 4) (.c (.int .i64 4))⟩]
def Lc:SL:=[af 6 4,ah 3 3 6]
def Lb:SL:=[af 7 3,af 8 3,jX 9 4 0 1 8,aA 10 9,⟨.l 11,none,.un .xor (.l 10)⟩,jX 12 4 0 1 7,eO 12 11]
def La:SL:=[gp 13 .add 4 1,ah 4 4 13]
def a127l6:ACode:=(sR Ld (.seq (cV 5 .skip (.exit 0)) (.seq (.block 1 (sR Lc (.region Lb))) (.region La))))
def zik:SL:=[eQ 14 4 1,bH 4 2 14]
def a127:AFunc:=⟨1,[0,1,2,3,4,5],[.cell 2 (some 4)],(sR zim (.seq (sR zil (bL 0 a127l6)) (sT zik))),true⟩
def zij:SL:=[iH 3 0,⟨.v 6,none,.allocL kC⟩]
def zii:SL:=[eQ 7 4 3,af 8 1,af 9 2,gm 10 136 7 8 9,bH 4 6 10]
def a128:AFunc:=⟨3,[0,1,2,3,6],[.cell 6 (some 4)],(sR zij (sT zii)),true⟩
def zih:SL:=[dC 4 4 false]
def zif:SL:=[af 5 0,af 6 1,dM 7 137 5 6,ah 4 4 7]
def a133:AFunc:=⟨2,[0,1,4],[.tmp 4],(sR zih (sT zif)),true⟩
def zid:SL:=[⟨.v 2,none,.allocL kC⟩,dC 3 3 false]
def zic:SL:=[⟨.v 4,none,.allocL kC⟩]
def zib:SL:=[af 7 0,dP 8 138 7,ah 5 5 8]
def zia:SL:=[aC 6 6 0]
def zas:SL:=[af 9 6,af 10 5,cO 11 true 10,fK 12 .lss 9 11]
def zie:Plan:=(.seq 0 (eQ 15 4 4) (.seq 1 (af 16 5) (.seq 2 (af 17 6) (.seq 3 ⟨.l 18,none,.sidx (.l 16) (.l 17)⟩ (.seq 4 (af 19 5) (.seq 5 (af 20 6) (.seq 6 (aL 21 .add 20 1) (.seq 7 ⟨.l 22,none,.sidx (.l 19) (.l 21)⟩ (.one 8 (gm 23 136 15 18 22) (.one 9 (bH 4 4 23) .fin))))))))))
def zh9:SL:=[af 13 6,aL 14 .add 13 2,ah 6 6 14]
def a134l7:ACode:=(.seq (sR zas (cV 12 .skip (.exit 0))) (.seq (.block 1 (.draw zie)) (.region zh9)))
def zh8:SL:=[eQ 24 4 4,af 25 5,⟨.l 26,none,.bin .neq (.l 25) (.c (.str []))⟩,bH 4 2 24,ah 3 3 26]
def a134:AFunc:=⟨1,[0,2,3,4,5,6,12],[.cell 2 (some 4),.tmp 3],(sR zid (sR zic (sR zib (.seq (sR zia (bL 0 a134l7)) (sT zh8))))),true⟩
def IX:SL:=[⟨.v 2,none,.asg 2 (.c (.int .u8 0))⟩,dC 3 3 false]
def IW:SL:=[af 5 0,⟨.v 6,none,.call 124 [.pl (.l 5),.pl (.c (.str [92]))]⟩]
def IM:SL:=[af 7 0,bI 8 7,bD 9 1 8,aA 10 9,aL 11 .add 10 1,bI 12 7,bD 13 1 12,eO 13 11]
def IZ:Plan:=(.seq 0 (af 14 0) (.seq 1 (bI 15 14) (.seq 2 (bD 16 1 15) (.seq 3 (aA 17 16) (.seq 4 (af 18 0) (.seq 5 (bI 19 18) (.seq 6 (bD 20 0 19) (.seq 7 (aA 21 20) (.seq 8 (cO 22 true 21) (.seq 9 (fK 23 .eql 17 22) .fin))))))))))
def IL:SL:=[⟨.v 2,none,.asg 2 (.c (.int .u8 0))⟩,dC 3 3 false]
def IK:SL:=[af 24 0,bI 25 24,bD 26 1 25,aA 27 26,aL 28 .add 27 1,bI 29 24,bD 30 1 29,eO 30 28]
def IY:Plan:=(.seq 0 (af 31 0) (.seq 1 (bI 32 31) (.seq 2 (bD 33 0 32) (.seq 3 (aA 34 33) (.seq 4 (af 35 0) (.seq 5 (bI 36 35) (.seq 6 (bD 37 1 36) (.seq 7 (aA 38 37) (.seq 8 (aL 39 .sub 38 1) (.seq 9 ⟨.l 40,none,.sidx (.l 34) (.l 39)⟩ (.seq 10 (ah 4 4 40) .fin)))))))))))
def IJ:SL:=[⟨.v 41,none,.asg 41 (.v 4)⟩]
def II:SL:=[lX 44 .eql 41 110,ah 43 43 44]
def IG:SL:=[⟨.v 2,none,.asg 2 (.c (.int .u8 10))⟩,dC 3 3 true]
def IV:SL:=[lX 46 .eql 41 116,ah 45 45 46]
def IU:SL:=[⟨.v 2,none,.asg 2 (.c (.int .u8 9))⟩,dC 3 3 true]
def IR:SL:=[af 42 4,ah 2 4 42,dC 3 3 true]
def I4:Plan:=(.seq 0 (af 47 0) (.seq 1 (bI 48 47) (.seq 2 (bD 49 1 48) (.seq 3 (aA 50 49) (.seq 4 (af 51 0) (.seq 5 (bI 52 51) (.seq 6 (bD 53 0 52) (.seq 7 (aA 54 53) (.seq 8 (cO 55 true 54) (.seq 9 (fK 56 .eql 50 55) .fin))))))))))
def IQ:SL:=[⟨.v 2,none,.asg 2 (.c (.int .u8 0))⟩,dC 3 3 false]
def IP:SL:=[af 57 0,bI 58 57,bD 59 1 58,aA 60 59,aL 61 .add 60 1,bI 62 57,bD 63 1 62,eO 63 61]
def I1:Plan:=(.seq 0 (af 64 0) (.seq 1 (bI 65 64) (.seq 2 (bD 66 0 65) (.seq 3 (aA 67 66) (.seq 4 (af 68 0) (.seq 5 (bI 69 68) (.seq 6 (bD 70 1 69) (.seq 7 (aA 71 70) (.seq 8 (aL 72 .sub 71 1) (.seq 9 ⟨.l 73,none,.sidx (.l 67) (.l 72)⟩ (.seq 10 (ah 2 2 73) (.seq 11 (dC 3 3 true) .fin))))))))))))
def a135:AFunc:=⟨1,[0,2,3,4,6,23,41,43,45,56],[.tmp 2,.tmp 3],(sR IX (.seq (sR IW (cV 6 (sR IM (.seq (.seq (.draw IZ) (cV 23 (sT IL) .skip)) (sR IK (.seq (.draw IY) (sR IJ (.block 0 (sR II (cV 43 (sT IG) (sR IV (cV 45 (sT IU) (sT IR))))))))))) .skip)) (.seq (.seq (.draw I4) (cV 56 (sT IQ) .skip)) (sR IP (.seq (.draw I1) .ret))))),false⟩
def zh6:SL:=[iH 3 0,⟨.v 6,none,.allocL kC⟩]
def zh5:SL:=[af 8 1,⟨.l 9,none,.conv .i64 (.l 8)⟩,ah 7 7 9]
def U8:SL:=[af 10 7,af 11 2,⟨.l 12,none,.conv .i64 (.l 11)⟩,fK 13 .leq 10 12]
def zh7:Plan:=(.seq 0 (af 16 7) (.seq 1 (aL 17 .quo 16 64) (.seq 2 (jX 18 4 0 3 17) (.seq 3 (aA 19 18) (.seq 4 (af 20 7) (.seq 5 (aL 21 .rem 20 64) (.seq 6 ⟨.l 22,none,.bin .shl (.c (.int .u64 1)) (.l 21)⟩ (.seq 7 (eZ 23 .or 19 22) (.seq 8 (jX 24 4 0 3 17) (.one 9 (eO 24 23) .fin))))))))))
def zh4:SL:=[af 14 7,aL 15 .add 14 1,ah 7 7 15]
def a136l5:ACode:=(.seq (sR U8 (cV 13 .skip (.exit 0))) (.seq (.block 1 (.draw zh7)) (.region zh4)))
def zar:SL:=[eQ 25 4 3,bH 4 6 25]
def a136:AFunc:=⟨3,[0,1,2,3,6,7,13],[.cell 6 (some 4)],(sR zh6 (.seq (sR zh5 (bL 0 a136l5)) (sT zar))),true⟩
def zaq:SL:=[dC 4 4 false]
def zao:SL:=[af 5 0,cO 6 true 5,af 7 1,cO 8 true 7,eZ 9 .geq 6 8,aQ 10 9,aJ 11 10 true 0,aJ 12 10 true 1,jc 13 10 true true 12,⟨.l 14,some (.l 10,true),.slice none (.l 11) none (some (.l 13))⟩,aJ 15 10 true 1,iQ 16 10 true .eql 14 15,gH 17 10 16,ah 4 4 17]
def a137:AFunc:=⟨2,[0,1,4],[.tmp 4],(sR zaq (sT zao)),true⟩
def tQ:SL:=[⟨.v 2,none,.asg 2 (.c (.str []))⟩]
def tO:SL:=[⟨.v 3,none,.asg 3 (.v 0)⟩]
def tL:SL:=[⟨.l 5,none,.bin .eql (.v 3) (.c (.str [97,108,112,104,97]))⟩,ah 4 4 5]
def tK:SL:=[⟨.v 2,none,.asg 2 (.c (.str [65,90,97,122]))⟩]
def uT:SL:=[⟨.l 7,none,.bin .eql (.v 3) (.c (.str [100,105,103,105,116]))⟩,ah 6 6 7]
def uS:SL:=[⟨.v 2,none,.asg 2 (.c (.str [48,57]))⟩]
def xq:SL:=[⟨.l 9,none,.bin .eql (.v 3) (.c (.str [97,108,110,117,109]))⟩,ah 8 8 9]
def xn:SL:=[⟨.v 2,none,.asg 2 (.c (.str [48,57,65,90,97,122]))⟩]
def ze:SL:=[⟨.l 11,none,.bin .eql (.v 3) (.c (.str [117,112,112,101,114]))⟩,ah 10 10 11]
def zb:SL:=[⟨.v 2,none,.asg 2 (.c (.str [65,90]))⟩]
def Bd:SL:=[⟨.l 13,none,.bin .eql (.v 3) (.c (.str [108,111,119,101,114]))⟩,ah 12 12 13]
def Bc:SL:=[⟨.v 2,none,.asg 2 (.c (.str [97,122]))⟩]
def DI:SL:=[⟨.l 15,none,.bin .eql (.v 3) (.c (.str [115,112,97,99,101]))⟩,ah 14 14 15]
def DF:SL:=[⟨.v 2,none,.asg 2 (.c (.str [9,13,32,32]))⟩]
def FY:SL:=[⟨.l 17,none,.bin .eql (.v 3) (.c (.str [98,108,97,110,107]))⟩,ah 16 16 17]
def FX:SL:=[⟨.v 2,none,.asg 2 (.c (.str [9,9,32,32]))⟩]
def IE:SL:=[⟨.l 19,none,.bin .eql (.v 3) (.c (.str [112,117,110,99,116]))⟩,ah 18 18 19]
def IC:SL:=[⟨.v 2,none,.asg 2 (.c (.str [33,47,58,64,91,96,123,126]))⟩]
def K9:SL:=[⟨.l 21,none,.bin .eql (.v 3) (.c (.str [112,114,105,110,116]))⟩,ah 20 20 21]
def K8:SL:=[⟨.v 2,none,.asg 2 (.c (.str [32,126]))⟩]
def O1:SL:=[⟨.l 23,none,.bin .eql (.v 3) (.c (.str [103,114,97,112,104]))⟩,ah 22 22 23]
def O0:SL:=[⟨.v 2,none,.asg 2 (.c (.str [33,126]))⟩]
def U7:SL:=[⟨.l 25,none,.bin .eql (.v 3) (.c (.str [99,110,116,114,108]))⟩,ah 24 24 25]
def U6:SL:=[⟨.v 2,none,.asg 2 (.c (.str [0,31,127,127]))⟩]
def zan:SL:=[⟨.l 27,none,.bin .eql (.v 3) (.c (.str [120,100,105,103,105,116]))⟩,ah 26 26 27]
def zam:SL:=[⟨.v 2,none,.asg 2 (.c (.str [48,57,65,70,97,102]))⟩]
def zh3:SL:=[⟨.v 2,none,.asg 2 (.c (.str []))⟩]
def a138:AFunc:=⟨1,[0,2,3,4,6,8,10,12,14,16,18,20,22,24,26],[.tmp 2],(sR tQ (.seq (sR tO (.block 0 (sR tL (cV 4 (sT tK) (sR uT (cV 6 (sT uS) (sR xq (cV 8 (sT xn) (sR ze (cV 10 (sT zb) (sR Bd (cV 12 (sT Bc) (sR DI (cV 14 (sT DF) (sR FY (cV 16 (sT FX) (sR IE (cV 18 (sT IC) (sR K9 (cV 20 (sT K8) (sR O1 (cV 22 (sT O0) (sR U7 (cV 24 (sT U6) (sR zan (cV 26 (sT zam) .skip)))))))))))))))))))))))))) (sT zh3))),true⟩
def ak:Nat->Option AFunc
 |173=>some a173
 |8=>some a8
 |157=>some a157
 |158=>some a158
 |160=>some a160
 |161=>some a161
 |165=>some a165
 |166=>some a166
 |167=>some a167
 |168=>some a168
 |169=>some a169
 |170=>some a170
 |172=>some a172
 |171=>some a171
 |174=>some a174
 |175=>some a175
 |177=>some a177
 |176=>some a176
 |178=>some a178
 |179=>some a179
 |14=>some a14
 |38=>some a38
 |10=>some a10
 |180=>some a180
 |153=>some a153
 |183=>some a183
 |148=>some a148
 |95=>some a95
 |143=>some a143
 |188=>some a188
 |185=>some a185
 |186=>some a186
 |189=>some a189
 |44=>some a44
 |45=>some a45
 |63=>some a63
 |34=>some a34
 |42=>some a42
 |190=>some a190
 |198=>some a198
 |193=>some a193
 |104=>some a104
 |46=>some a46
 |152=>some a152
 |194=>some a194
 |195=>some a195
 |196=>some a196
 |197=>some a197
 |69=>some a69
 |70=>some a70
 |71=>some a71
 |85=>some a85
 |86=>some a86
 |57=>some a57
 |59=>some a59
 |58=>some a58
 |65=>some a65
 |66=>some a66
 |123=>some a123
 |43=>some a43
 |72=>some a72
 |73=>some a73
 |74=>some a74
 |75=>some a75
 |155=>some a155
 |203=>some a203
 |204=>some a204
 |205=>some a205
 |206=>some a206
 |207=>some a207
 |92=>some a92
 |93=>some a93
 |3=>some a3
 |87=>some a87
 |88=>some a88
 |89=>some a89
 |81=>some a81
 |82=>some a82
 |83=>some a83
 |91=>some a91
 |90=>some a90
 |35=>some a35
 |213=>some a213
 |216=>some a216
 |227=>some a227
 |101=>some a101
 |102=>some a102
 |98=>some a98
 |99=>some a99
 |100=>some a100
 |37=>some a37
 |60=>some a60
 |228=>some a228
 |107=>some a107
 |108=>some a108
 |109=>some a109
 |110=>some a110
 |111=>some a111
 |105=>some a105
 |106=>some a106
 |61=>some a61
 |62=>some a62
 |119=>some a119
 |120=>some a120
 |121=>some a121
 |122=>some a122
 |113=>some a113
 |114=>some a114
 |115=>some a115
 |117=>some a117
 |116=>some a116
 |118=>some a118
 |84=>some a84
 |124=>some a124
 |125=>some a125
 |126=>some a126
 |127=>some a127
 |128=>some a128
 |133=>some a133
 |134=>some a134
 |135=>some a135
 |136=>some a136
 |137=>some a137
 |138=>some a138
 |_=>none
end Go.Ak
namespace Go.Ak
section limit
variable {α β:Type}
open Classical in
noncomputable def limit(f:Nat->Option α):Option α:=if h:∃a n,f n=some a then some h.choose else none
def Mono(f:Nat->Option α):Prop:=∀n m a,n<=m->f n=some a->f m=some a
theorem Mono.uniq{f:Nat->Option α}(hf:Mono f){n m:Nat}{a b:α}(h:f n=some a)(k:f m=some b):a=b:=by
 rcases Nat.le_total n m with l|l
 ·rw[hf n m a l h]at k;exact Bl k
 ·rw[hf m n b l k]at h;exact(Bl h).symm
theorem JH{f:Nat->Option α}(hf:Mono f){a:α}:limit f=some a↔ ∃n,f n=some a:=by
 unfold limit;split
 ·rename_i h;obtain⟨n,hn⟩:=h.choose_spec;constructor
  ·intro e;rw[←Bl e];exact⟨n,hn⟩
  ·intro⟨m,hm⟩;rw[hf.uniq hn hm]
 ·rename_i h;constructor
  ·intro e;cases e
  ·intro⟨m,hm⟩;exact absurd ⟨a,m,hm⟩ h
theorem znN{f:Nat->Option α}(h:∀n,f n=none):limit f=none:=by
 unfold limit;split
 ·rename_i k;obtain⟨a,n,hn⟩:=k;rw[h n]at hn;cases hn
 ·rfl
theorem sK(x:Option α):limit (fun _=>x)=x:=by
 have hm:Mono (fun _:Nat=>x):=fun _ _ _ _ h=>h;cases x with
 |none=>exact znN fun _=>rfl
 |some a=>exact(JH hm).2 ⟨0,rfl⟩
end limit
def CallF.le(c d:CallF):Prop:=∀f as H r,c f as H=some r->d f as H=some r
section mono
variable {c d:CallF} {ae:Nat}
theorem zem(h:c.le d)(op:AOp)(σ:St)(r:OpR)(e:cB c ae op σ=some r):cB d ae op σ=some r:=by
 cases op
 case call f xs=>
  simp only[cB]at e ⊢;split at e
  ·rename_i as σ' ha;split at e
   ·rename_i v H hc;rw[h _ _ _ _ hc];exact e
   ·rename_i v H hc;rw[h _ _ _ _ hc];exact e
   ·cases e
  ·cases e
 case callv x xs=>
  simp only[cB]at e ⊢;split at e
  ·rename_i f cap hx;split at e
   ·rename_i as σ' ha;split at e
    ·rename_i v H hc;rw[h _ _ _ _ hc];exact e
    ·rename_i v H hc;rw[h _ _ _ _ hc];exact e
    ·cases e
   ·cases e
  ·cases e
 all_goals exact e
theorem Jo(h:c.le d)(s:AStep)(σ:St)(r)(e:kr c ae s σ=some r):kr d ae s σ=some r:=by
 simp only[kr]at e ⊢;split at e
 ·split at e
  ·rename_i a τ ho;rw[zem h _ _ _ ho];exact e
  ·rename_i a τ ho;rw[zem h _ _ _ ho];exact e
  ·cases e
 ·exact e
 ·cases e
theorem Rm(h:c.le d):∀(l:List AStep)(σ:St)(r),jP c ae l σ=some r->jP d ae l σ=some r
 | [],_,_,e=>e
 |s::l, σ,r,e=>by
  simp only[jP]at e ⊢;split at e
  ·rename_i τ hs;rw[Jo h _ _ _ hs];exact Rm h l τ r e
  ·rename_i hs;have:=Jo (ae:=ae) h s σ r e;rw[this];split
   ·rename_i τ hq;cases hq;exact absurd e (hs τ)
   ·rfl
theorem lV(c:CallF)(ae i:Nat)(s:AStep)(p q:Plan)(σ:St):gT c ae (.alt i s p q) σ=(match gT c ae (.seq i s p) σ,gT c ae q σ with
  |some a,some b=>bif qF a b then some a else none
  |_,_=>none):=rfl
theorem Xc(h:c.le d){i:Nat}{s:AStep}{p:Plan}(ih:∀(σ:St)(r),gT c ae p σ=some r->gT d ae p σ=some r)(σ:St)(r)(e:gT c ae (.seq i s p) σ=some r):gT d ae (.seq i s p) σ=some r:=by
 simp only[gT]at e ⊢;split at e
 ·rename_i τ hs;rw[Jo h _ _ _ hs];exact ih τ r e
 ·rename_i hs;have:=Jo (ae:=ae) h s σ r e;rw[this];split
  ·rename_i τ hq;cases hq;exact absurd e (hs τ)
  ·rfl
theorem M3(h:c.le d)(p:Plan):∀(σ:St)(r),gT c ae p σ=some r->gT d ae p σ=some r:=by
 induction p with
 |fin=>exact fun _ _ e=>e
 |seq i s p ih=>exact Xc h ih
 |one i s p ih=>exact fun σ r e=>Xc (i:=i) (s:=s) h ih σ r e
 |alt i s p q ih ih2=>
  intro σ r e;rw[lV]at e ⊢;split at e
  ·rename_i a b h1 h2;rw[Xc h ih σ _ h1,ih2 σ _ h2];exact e
  ·cases e
theorem Q0{b1 b2:EH->Option (AExit×EH)}(h:∀s r,b1 s=some r->b2 s=some r):∀(n m:Nat)(s:EH)(r),n<=m->um b1 n s=some r->um b2 m s=some r
 |0,_,_,_,_,e=>by cases e
 |n+1,0,_,_,l,_=>by omega
 |n+1,m+1,s,r,l,e=>by
  simp only[um]at e ⊢;split at e
  ·rename_i τ hs;rw[h _ _ hs];exact Q0 h n m τ r (by omega) e
  ·rename_i hs;have:=h s r e;rw[this];split
   ·rename_i τ hq;cases hq;exact absurd e (hs τ)
   ·rfl
theorem uq(h:c.le d){n m:Nat}(l:n<=m):∀(a:ACode)(s:EH)(r),ev c ae n a s=some r->ev d ae m a s=some r
 | .skip,_,_,e=>e
 | .region ops,s,r,e=>by
  simp only[ev]at e ⊢;split at e
  ·rename_i x σ hs;rw[Rm h _ _ _ hs];exact e
  ·cases e
 | .draw p,s,r,e=>by
  simp only[ev]at e ⊢;split at e
  ·rename_i x σ hs;rw[M3 h _ _ _ hs];exact e
  ·cases e
 | .seq a b,s,r,e=>by
  simp only[ev]at e ⊢;split at e
  ·rename_i τ hs;rw[uq h l a _ _ hs];exact uq h l b τ r e
  ·rename_i hs;have:=uq h l a s r e;rw[this];split
   ·rename_i τ hq;cases hq;exact absurd e (hs τ)
   ·rfl
 | .cond clr x a b,s,r,e=>by
  simp only[ev]at e ⊢;split at e
  ·exact uq h l a _ _ e
  ·exact uq h l b _ _ e
  ·cases e
 | .block id a,s,r,e=>by
  simp only[ev]at e ⊢;split at e
  ·rename_i i τ hs;rw[uq h l a _ _ hs];exact e
  ·rename_i hs;have:=uq h l a s r e;rw[this];split
   ·rename_i i τ hq;cases hq;exact absurd e (hs i τ)
   ·rfl
 | .loop a,s,r,e=>Q0 (fun s r=>uq h l a s r) n m s r l e
 | .exit _,_,_,e=>e
 | .ret,_,_,e=>e
theorem V6(h:c.le d){n m:Nat}(l:n<=m)(F:AFunc)(as:List AV)(H:aj)(r)(e:wo c n ae F as H=some r):wo d m ae F as H=some r:=by
 simp only[wo]at e ⊢;cases hb:Nat.beq as.length F.np<;>rw[hb]at e<;>simp only[bA,fq]at e ⊢
 ·cases e
 ·split at e
  ·rename_i s hs;rw[uq h l _ _ _ hs];exact e
  ·rename_i s hs;rw[uq h l _ _ _ hs];exact e
  ·rename_i v s hs;rw[uq h l _ _ _ hs];exact e
  ·cases e
theorem zc7{n0:Nat}{H:aj}{x y:Option (Out×aj)}(h:∀r,x=some r->y=some r)(r)(e:lC n0 H x=some r):lC n0 H y=some r:=by
 cases x with
 |none=>simp[lC]at e
 |some a=>rw[h a rfl];exact e
end mono
def jR(sp:Nat->(Nat->CallF)->Nat->CallF):Prop:=∀n m (c d:Nat->CallF) ae,n<=m->(∀b,CallF.le (c b) (d b))->CallF.le (sp n c ae) (sp m d ae)
section
variable {fs:Nat->Option AFunc} {sp:Nat->(Nat->CallF)->Nat->CallF}
theorem qG(hs:jR sp):∀(n m:Nat)(ae:Nat),n<=m->CallF.le (run fs sp n ae) (run fs sp m ae)
 |0,_,_,_,_,_,_,_,e=>by cases e
 |n+1,0,_,l,_,_,_,_,_=>by omega
 |n+1,m+1,ae,l,f,as,H,r,e=>by
  have ih:=fun b=>qG hs n m b (by omega);simp only[run]at e ⊢;split at e
  ·rename_i hf;exact hs n m _ _ ae (by omega) ih f as H r e
  ·rename_i F hf;cases hp:F.pure<;>rw[hp]at e<;>simp only[bA,fq]at e ⊢
   ·exact V6 (ih ae) (by omega) F as H r e
   ·cases hc:dG as<;>rw[hc]at e<;>simp only[bA,fq]at e ⊢
    ·exact zc7 (fun r e=>V6 (ih _) (by omega) F as H r e) r e
    ·exact zc7 (fun r e=>V6 (ih _) (by omega) F as [] r e) r e
theorem zcu(hs:jR sp)(ae f:Nat)(as:List AV)(H:aj):Mono (fun n=>run fs sp n ae f as H):=
 fun n m a l e=>qG hs n m ae l f as H a e
variable (fs sp) in
noncomputable def Rn(ae:Nat):CallF:=fun f as H=>limit fun n=>run fs sp n ae f as H
variable (fs sp) in
noncomputable def aP(ae:Nat)(a:ACode)(s:EH):Option (AExit×EH):=limit fun n=>ev (run fs sp n ae) ae n a s
variable (fs sp) in
noncomputable def EU(ae:Nat)(F:AFunc)(as:List AV)(H:aj):Option (Out×aj):=
 bif Nat.beq as.length F.np then
  match aP fs sp ae F.body (bC F.vars as,H)with
  |some (.norm,s)=>match nJ s F.res with
   |some v=>some (.ret v,s.2)
   |none=>none
  |some (.ret,s)=>match nJ s F.res with
   |some v=>some (.ret v,s.2)
   |none=>none
  |some (.pan v,s)=>some (.pan v,s.2)
  |_=>none
 else none
theorem zek(hs:jR sp)(ae:Nat)(a:ACode)(s:EH):Mono (fun n=>ev (run fs sp n ae) ae n a s):=
 fun n m r l e=>uq (qG hs n m ae l) l a s r e
theorem Rl(hs:jR sp)(ae:Nat)(a:ACode)(s:EH)(n m:Nat)(r)(l:n<=m)(e:ev (run fs sp n ae) ae n a s=some r):ev (run fs sp m ae) ae m a s=some r:=zek hs ae a s n m r l e
theorem vR(hs:jR sp){ae f as H r}:Rn fs sp ae f as H=some r↔ ∃n,run fs sp n ae f as H=some r:=JH (zcu hs ae f as H)
theorem jW(hs:jR sp){ae a s r}:aP fs sp ae a s=some r↔ ∃n,ev (run fs sp n ae) ae n a s=some r:=JH (zek hs ae a s)
theorem zcy(hs:jR sp)(n ae:Nat):CallF.le (run fs sp n ae) (Rn fs sp ae):=fun _ _ _ _ e=>(vR hs).2 ⟨n,e⟩
theorem zen(hs:jR sp)(ae:Nat)(op:AOp)(σ:St)(r)(e:cB (Rn fs sp ae) ae op σ=some r):∃n,cB (run fs sp n ae) ae op σ=some r:=by
 cases op
 case call f xs=>
  simp only[cB]at e ⊢;split at e
  ·rename_i as σ' ha;split at e
   ·rename_i v H hc;obtain⟨n,hn⟩:=(vR hs).1 hc;exact⟨n,by rw[hn];exact e⟩
   ·rename_i v H hc;obtain⟨n,hn⟩:=(vR hs).1 hc;exact⟨n,by rw[hn];exact e⟩
   ·cases e
  ·cases e
 case callv x xs=>
  simp only[cB]at e ⊢;split at e
  ·rename_i f cap hx;split at e
   ·rename_i as σ' ha;split at e
    ·rename_i v H hc;obtain⟨n,hn⟩:=(vR hs).1 hc;exact⟨n,by rw[hn];exact e⟩
    ·rename_i v H hc;obtain⟨n,hn⟩:=(vR hs).1 hc;exact⟨n,by rw[hn];exact e⟩
    ·cases e
   ·cases e
  ·cases e
 all_goals exact⟨0,e⟩
theorem Qx(hs:jR sp)(ae:Nat)(s:AStep)(σ:St)(r)(e:kr (Rn fs sp ae) ae s σ=some r):∃n,kr (run fs sp n ae) ae s σ=some r:=by
 simp only[kr]at e ⊢;split at e
 ·split at e
  ·rename_i a τ ho;obtain⟨n,hn⟩:=zen hs _ _ _ _ ho;exact⟨n,by rw[hn];exact e⟩
  ·rename_i a τ ho;obtain⟨n,hn⟩:=zen hs _ _ _ _ ho;exact⟨n,by rw[hn];exact e⟩
  ·cases e
 ·exact⟨0,e⟩
 ·cases e
theorem zel(hs:jR sp)(ae:Nat):∀(l:List AStep)(σ:St)(r),jP (Rn fs sp ae) ae l σ=some r->∃n,jP (run fs sp n ae) ae l σ=some r
 | [],_,_,e=>⟨0,e⟩
 |s::l, σ,r,e=>by
  simp only[jP]at e ⊢;split at e
  ·rename_i τ h1;obtain⟨n,hn⟩:=Qx hs ae s σ _ h1;obtain⟨m,hm⟩:=zel hs ae l τ r e;refine⟨max n m,?_⟩;rw[Jo (qG hs n (max n m) ae (Qc ..)) _ _ _ hn];exact Rm (qG hs m (max n m) ae (Nat.le_max_right ..)) _ _ _ hm
  ·rename_i h1;obtain⟨n,hn⟩:=Qx hs ae s σ r e;refine⟨n,?_⟩;rw[hn];split
   ·rename_i τ hq;cases hq;exact absurd e (h1 τ)
   ·rfl
theorem Xd(hs:jR sp)(ae:Nat){i:Nat}{s:AStep}{p:Plan}(ih:∀(σ:St)(r),gT (Rn fs sp ae) ae p σ=some r->∃n,gT (run fs sp n ae) ae p σ=some r)(σ:St)(r)
  (e:gT (Rn fs sp ae) ae (.seq i s p) σ=some r):∃n,gT (run fs sp n ae) ae (.seq i s p) σ=some r:=by
 simp only[gT]at e ⊢;split at e
 ·rename_i τ h1;obtain⟨n,hn⟩:=Qx hs ae s σ _ h1;obtain⟨m,hm⟩:=ih τ r e;refine⟨max n m,?_⟩;rw[Jo (qG hs n (max n m) ae (Qc ..)) _ _ _ hn];exact M3 (qG hs m (max n m) ae (Nat.le_max_right ..)) _ _ _ hm
 ·rename_i h1;obtain⟨n,hn⟩:=Qx hs ae s σ r e;refine⟨n,?_⟩;rw[hn];split
  ·rename_i τ hq;cases hq;exact absurd e (h1 τ)
  ·rfl
theorem zoV(hs:jR sp)(ae:Nat)(p:Plan):∀(σ:St)(r),gT (Rn fs sp ae) ae p σ=some r->∃n,gT (run fs sp n ae) ae p σ=some r:=by
 induction p with
 |fin=>exact fun _ _ e=>⟨0,e⟩
 |seq i s p ih=>exact Xd hs ae ih
 |one i s p ih=>exact fun σ r e=>Xd (i:=i) (s:=s) hs ae ih σ r e
 |alt i s p q ih ih2=>
  intro σ r e;simp only[lV]at e ⊢;split at e
  ·rename_i a b h1 h2;obtain⟨n,hn⟩:=Xd hs ae ih σ _ h1;obtain⟨m,hm⟩:=ih2 σ _ h2;refine⟨max n m,?_⟩;rw[M3 (qG hs n (max n m) ae (Qc ..)) _ _ _ hn,M3 (qG hs m (max n m) ae (Nat.le_max_right ..)) _ _ _ hm];exact e
  ·cases e
-- the equations
theorem Av(ae:Nat)(s:EH):aP fs sp ae .skip s=some (.norm,s):=sK _
theorem zo0(ae id:Nat)(s:EH):aP fs sp ae (.exit id) s=some (.exit id,s):=sK _
theorem zoX(ae:Nat)(s:EH):aP fs sp ae .ret s=some (.ret,s):=sK _
theorem zoY(hs:jR sp)(ae:Nat)(ops:List AStep)(s:EH):aP fs sp ae (.region ops) s=(match jP (Rn fs sp ae) ae ops ⟨s.1,[],[],s.2⟩with
  |some (e, σ)=>some (e,(σ.env, σ.H))
  |none=>none):=by
 apply F8;intro r;rw[jW hs];constructor
 ·intro⟨n,hn⟩;simp only[ev]at hn;split at hn
  ·rename_i e σ h1;rw[Rm (zcy hs n ae) _ _ _ h1];exact hn
  ·cases hn
 ·intro h;split at h
  ·rename_i e σ h1;obtain⟨n,hn⟩:=zel hs ae _ _ _ h1;exact⟨n,by simp only[ev];rw[hn];exact h⟩
  ·cases h
theorem zo1(hs:jR sp)(ae:Nat)(p:Plan)(s:EH):aP fs sp ae (.draw p) s=(match gT (Rn fs sp ae) ae p ⟨s.1,[],[],s.2⟩with
  |some (e, σ)=>some (e,(σ.env, σ.H))
  |none=>none):=by
 apply F8;intro r;rw[jW hs];constructor
 ·intro⟨n,hn⟩;simp only[ev]at hn;split at hn
  ·rename_i e σ h1;rw[M3 (zcy hs n ae) _ _ _ h1];exact hn
  ·cases hn
 ·intro h;split at h
  ·rename_i e σ h1;obtain⟨n,hn⟩:=zoV hs ae _ _ _ h1;exact⟨n,by simp only[ev];rw[hn];exact h⟩
  ·cases h
theorem zoW(hs:jR sp)(ae:Nat)(a b:ACode)(s:EH):aP fs sp ae (.seq a b) s=(match aP fs sp ae a s with
  |some (.norm,s)=>aP fs sp ae b s
  |r=>r):=by
 apply F8;intro r;rw[jW hs];constructor
 ·intro⟨n,hn⟩;simp only[ev]at hn;split at hn
  ·rename_i τ h1;rw[(jW hs).2 ⟨n,h1⟩];exact(jW hs).2 ⟨n,hn⟩
  ·rename_i h1;rw[(jW hs).2 ⟨n,hn⟩];split
   ·rename_i τ hq;cases hq;exact absurd hn (h1 τ)
   ·rfl
 ·intro h;split at h
  ·rename_i τ h1;obtain⟨n,hn⟩:=(jW hs).1 h1;obtain⟨m,hm⟩:=(jW hs).1 h;refine⟨max n m,?_⟩;simp only[ev];rw[Rl hs ae a s n (max n m) _ (Qc ..) hn];exact Rl hs ae b τ m (max n m) _ (Nat.le_max_right ..) hm
  ·rename_i h1;obtain⟨n,hn⟩:=(jW hs).1 h;refine⟨n,?_⟩;simp only[ev];rw[hn];split
   ·rename_i τ hq;cases hq;exact absurd h (h1 τ)
   ·rfl
theorem zeo(hs:jR sp)(ae:Nat)(clr:Bool)(c:Opd)(x y:ACode)(s:EH):aP fs sp ae (.cond clr c x y) s=(match GJ s clr c with
  |some (true,s)=>aP fs sp ae x s
  |some (false,s)=>aP fs sp ae y s
  |none=>none):=by
 apply F8;intro r;rw[jW hs];simp only[ev];cases hc:GJ s clr c with
 |none=>simp
 |some q=>
  obtain⟨b,s'⟩:=q;cases b
  ·exact(jW hs).symm
  ·exact(jW hs).symm
theorem zo2(hs:jR sp)(ae id:Nat)(c:ACode)(s:EH):aP fs sp ae (.block id c) s=(match aP fs sp ae c s with
  |some (.exit i,s)=>bif Nat.beq i id then some (.norm,s)else some (.exit i,s)
  |r=>r):=by
 apply F8;intro r;rw[jW hs];constructor
 ·intro⟨n,hn⟩;simp only[ev]at hn;split at hn
  ·rename_i i τ h1;rw[(jW hs).2 ⟨n,h1⟩];exact hn
  ·rename_i h1;rw[(jW hs).2 ⟨n,hn⟩];split
   ·rename_i i τ hq;cases hq;exact absurd hn (h1 i τ)
   ·rfl
 ·intro h;split at h
  ·rename_i i τ h1;obtain⟨n,hn⟩:=(jW hs).1 h1;refine⟨n,?_⟩;simp only[ev];rw[hn];exact h
  ·rename_i h1;obtain⟨n,hn⟩:=(jW hs).1 h;refine⟨n,?_⟩;simp only[ev];rw[hn];split
   ·rename_i i τ hq;cases hq;exact absurd h (h1 i τ)
   ·rfl
theorem zoZ(hs:jR sp)(ae:Nat)(c:ACode)(s:EH):aP fs sp ae (.loop c) s=(match aP fs sp ae c s with
  |some (.norm,s)=>aP fs sp ae (.loop c) s
  |r=>r):=by
 apply F8;intro r;rw[jW hs];constructor
 ·intro⟨n,hn⟩;cases n with
  |zero=>simp[ev,um]at hn
  |succ n=>
   simp only[ev,um]at hn;split at hn
   ·rename_i τ h1;rw[(jW hs).2 ⟨n+1,h1⟩];refine(jW hs).2 ⟨n+1,?_⟩;simp only[ev];exact Q0 (fun _ _ h=>h) n (n+1) τ r (by omega) hn
   ·rename_i h1;rw[(jW hs).2 ⟨n+1,hn⟩];split
    ·rename_i τ hq;cases hq;exact absurd hn (h1 τ)
    ·rfl
 ·intro h;split at h
  ·rename_i τ h1;obtain⟨n,hn⟩:=(jW hs).1 h1;obtain⟨m,hm⟩:=(jW hs).1 h;refine⟨max n m+1,?_⟩;simp only[ev,um];rw[Rl hs ae c s n (max n m+1) _ (by omega) hn];simp only[ev]at hm;exact Q0 (fun s r=>uq (qG hs m (max n m+1) ae (by omega)) (by omega) c s r) m (max n m) τ r (by omega) hm
  ·rename_i h1;obtain⟨n,hn⟩:=(jW hs).1 h;refine⟨n+1,?_⟩;simp only[ev,um];rw[Rl hs ae c s n (n+1) _ (by omega) hn];split
   ·rename_i τ hq;cases hq;exact absurd h (h1 τ)
   ·rfl
theorem Mv(hs:jR sp){ae F as H r}:EU fs sp ae F as H=some r↔ ∃n,wo (run fs sp n ae) n ae F as H=some r:=by
 simp only[EU,wo];cases hb:Nat.beq as.length F.np<;>simp only[bA,fq]
 ·simp
 ·constructor
  ·intro h;split at h
   ·rename_i s h1;obtain⟨n,hn⟩:=(jW hs).1 h1;exact⟨n,by rw[hn];exact h⟩
   ·rename_i s h1;obtain⟨n,hn⟩:=(jW hs).1 h1;exact⟨n,by rw[hn];exact h⟩
   ·rename_i v s h1;obtain⟨n,hn⟩:=(jW hs).1 h1;exact⟨n,by rw[hn];exact h⟩
   ·cases h
  ·intro⟨n,h⟩;split at h
   ·rename_i s h1;rw[(jW hs).2 ⟨n,h1⟩];exact h
   ·rename_i s h1;rw[(jW hs).2 ⟨n,h1⟩];exact h
   ·rename_i v s h1;rw[(jW hs).2 ⟨n,h1⟩];exact h
   ·cases h
theorem QO{n0:Nat}{H:aj}{x:Option (Out×aj)}{r}:lC n0 H x=some r↔ ∃q,x=some q∧lC n0 H (some q)=some r:=by
 cases x with
 |none=>simp[lC]
 |some q=>simp
theorem Ls(hs:jR sp){f:Nat}{F:AFunc}(hf:fs f=some F)(ae:Nat)(as:List AV)(H:aj):Rn fs sp ae f as H=
  bif F.pure then(bif dG as then lC 0 H (EU fs sp 0 F as [])else lC H.length H (EU fs sp H.length F as H))else EU fs sp ae F as H:=by
 apply F8;intro r;rw[vR hs];have dw:(∃n,run fs sp n ae f as H=some r)↔ ∃n,run fs sp (n+1) ae f as H=some r:=by
  constructor
  ·intro⟨n,hn⟩;exact⟨n,zcu hs ae f as H n (n+1) r (by omega) hn⟩
  ·intro⟨n,hn⟩;exact⟨_,hn⟩
 rw[dw];simp only[run,hf];cases F.pure<;>simp only[bA,fq]
 ·rw[Mv hs]
 ·cases dG as<;>simp only[bA,fq]
  ·rw[QO];constructor
   ·intro⟨n,hn⟩;obtain⟨q,h1,h2⟩:=QO.1 hn;exact⟨q,(Mv hs).2 ⟨n,h1⟩,h2⟩
   ·intro⟨q,h1,h2⟩;obtain⟨n,hn⟩:=(Mv hs).1 h1;exact⟨n,by rw[hn];exact h2⟩
  ·rw[QO];constructor
   ·intro⟨n,hn⟩;obtain⟨q,h1,h2⟩:=QO.1 hn;exact⟨q,(Mv hs).2 ⟨n,h1⟩,h2⟩
   ·intro⟨q,h1,h2⟩;obtain⟨n,hn⟩:=(Mv hs).1 h1;exact⟨n,by rw[hn];exact h2⟩
theorem vQ(hs:jR sp){f:Nat}(hf:fs f=none)(ae:Nat)(as:List AV)(H:aj):Rn fs sp ae f as H=limit fun n=>sp n (run fs sp n) ae f as H:=by
 have hm:Mono fun n=>sp n (run fs sp n) ae f as H:=fun n m a l e=>hs n m _ _ ae l (fun b=>qG hs n m b l) f as H a e;apply F8;intro r;rw[vR hs,JH hm];constructor
 ·intro⟨n,hn⟩;cases n with
  |zero=>cases hn
  |succ n=>simp only[run,hf]at hn;exact⟨n,hn⟩
 ·intro⟨n,hn⟩;exact⟨n+1,by simp only[run,hf];exact hn⟩
end
end Go.Ak
namespace Go.Ak
def wG:Nat->Nat->Nat->List Nat
 |0,_,_=>[]
 |n+1,t,m=>bif Nat.beq m 0 then[]else bif Nat.beq (m%2) 1 then t::wG n (t+1) (m/2)else wG n (t+1) (m/2)
def az(m:Nat)(v:Nat->AV):List (Nat×AV):=(wG m 0 m).map fun t=>(t,v t)
def st(v:Nat->AV)(t:Nat)(a:AV):Nat->AV:=fun u=>if u=t then a else v u
def bK:Nat->AV:=fun _=>.undef
theorem xN(v:Nat->AV)(t:Nat)(a:AV)(u:Nat):st v t a u=if u=t then a else v u:=rfl
theorem jv(a b:Nat):Nat.beq a b=decide (a=b):=by
 cases h:Nat.beq a b
 ·exact(decide_eq_false (LC h)).symm
 ·exact(LB (LG h)).symm
theorem xV(a b:Nat):Nat.ble a b=decide (a<=b):=by
 cases h:Nat.ble a b
 ·exact(decide_eq_false (fun k=>by rw[xC k]at h;cases h)).symm
 ·exact(LB (iy h)).symm
theorem xU(a b:Nat):Nat.blt a b=decide (a<b):=by
 unfold Nat.blt;rw[xV];rfl
theorem Aj(k:Nat)(a:AV)(r:List (Nat×AV))(t:Nat):bB ((k,a)::r) t=if k=t then a else bB r t:=by
 simp only[bB,jv];by_cases h:k=t<;>simp[h]
theorem Bw(k:Nat)(r:List Nat)(t:Nat):fO (k::r) t=if k=t then fO r t+1 else fO r t:=by
 simp only[fO,jv];by_cases h:k=t<;>simp[h]
theorem XO:∀(n t m u:Nat),u∈wG n t m->t<=u
 |0,_,_,_,h=>by simp[wG]at h
 |n+1,t,m,u,h=>by
  simp only[wG]at h;cases h0:Nat.beq m 0<;>rw[h0]at h<;>simp only[bA,fq]at h
  ·cases h1:Nat.beq (m%2) 1<;>rw[h1]at h<;>simp only[bA,fq]at h
   ·have:=XO n _ _ u h;omega
   ·rcases il.1 h with e|h
    ·omega
    ·have:=XO n _ _ u h;omega
  ·cases h
theorem zdA(v:Nat->AV):∀(l:List Nat)(t:Nat),bB (l.map fun t=>(t,v t)) t=if t∈l then v t else .undef
 | [],_=>by simp[bB]
 |k::l,t=>by
  rw[mE,Aj,zdA v l t];by_cases h:k=t
  ·subst h;simp
  ·have:¬t=k:=fun e=>h e.symm;simp[h,this]
theorem zfo:∀(n t m u:Nat),m<2^n->(u∈wG n t m↔t<=u∧(m >>> (u-t))%2=1)
 |0,t,m,u,h=>by
  have:m=0:=by simpa using h
  subst this;simp[wG]
 |n+1,t,m,u,h=>by
  simp only[wG,jv];by_cases h0:m=0
  ·subst h0;simp
  ·have hd:m/2<2^n:=by rw[EF]at h;omega
   have ih:=zfo n (t+1) (m/2) u hd;have hsh:∀k,(m/2) >>> k=m >>> (k+1):=fun k=>by
    rw[Vx,Vx,Nat.div_div_eq_div_mul,EF,Ga]
   rw[hsh]at ih;by_cases hu:u=t
   ·subst hu;have:¬u+1<=u:=by omega
    simp only[this,false_and,iff_false]at ih;by_cases h1:m%2=1<;>simp[h0,h1,ih]
   ·by_cases hl:t<=u
    ·have e:u-(t+1)+1=u-t:=by omega
     rw[e]at ih;have jN:t+1<=u:=by omega
     simp only[jN,Bj]at ih;by_cases h1:m%2=1<;>simp[h0,h1,ih,hu,hl]
    ·have jN:¬t+1<=u:=by omega
     simp only[jN,false_and,iff_false]at ih;by_cases h1:m%2=1<;>simp[h0,h1,ih,hu,hl]
theorem BR(m:Nat)(v:Nat->AV)(t:Nat):bB (az m v) t=if(m >>> t)%2=1 then v t else .undef:=by
 unfold az;rw[zdA];have:=zfo m 0 m t Nat.lt_two_pow_self;simp only[jK,Bj,Nat.sub_zero]at this;simp only[this]
theorem XN:∀(n t m:Nat),(wG n t m).Nodup
 |0,_,_=>by simp[wG]
 |n+1,t,m=>by
  simp only[wG];cases h0:Nat.beq m 0<;>simp only[bA,fq]
  ·cases h1:Nat.beq (m%2) 1<;>simp only[bA,fq]
   ·exact XN n _ _
   ·exact List.nodup_cons.2 ⟨fun h=>by have:=XO _ _ _ _ h;omega,XN n _ _⟩
  ·simp
theorem zbO(v:Nat->AV)(t:Nat)(a:AV):∀(l:List Nat),l.Nodup->upd (l.map fun t=>(t,v t)) t a=l.map fun u=>(u,st v t a u)
 | [],_=>rfl
 |k::l,h=>by
  obtain⟨h1,h2⟩:=List.nodup_cons.1 h;simp only[mE,upd,jv];by_cases e:k=t
  ·subst e;have:(l.map fun u=>(u,st v k a u))=l.map fun u=>(u,v u):=Bp fun u hu=>by
    have:u≠k:=fun e=>h1 (e▸hu);simp[st,this]
   rw[this];simp[st]
  ·simp[e,st,zbO v t a l h2]
theorem zU(m:Nat)(v:Nat->AV)(t:Nat)(a:AV):upd (az m v) t a=az m (st v t a):=zbO v t a _ (XN _ _ _)
section
variable {fs:Nat->Option AFunc} {sp:Nat->(Nat->CallF)->Nat->CallF} {hs:jR sp} {ae:Nat}
def Wp(x:Option (AExit×EH))(Q:AExit->EH->Prop):Prop:=∃e s,x=some (e,s)∧Q e s
theorem Wp.mono{x:Option (AExit×EH)}{Q R:AExit->EH->Prop}(h:Wp x Q)(k:∀e s,Q e s->R e s):Wp x R:=by
 obtain⟨e,s,h1,h2⟩:=h;exact⟨e,s,h1,k e s h2⟩
theorem mM{e:AExit}{s:EH}{Q:AExit->EH->Prop}:Wp (some (e,s)) Q↔Q e s:=by
 constructor
 ·intro⟨e',s',h1,h2⟩;cases h1;exact h2
 ·intro h;exact⟨e,s,rfl,h⟩
theorem F4{Q:AExit->EH->Prop}:Wp none Q↔False:=by
 constructor
 ·intro⟨_,_,h,_⟩;cases h
 ·exact False.elim
def andThen(f:EH->Option (AExit×EH))(Q:AExit->EH->Prop)(e:AExit)(s:EH):Prop:=
 match e with
 | .norm=>Wp (f s) Q
 |e=>Q e s
def ul(id:Nat)(Q:AExit->EH->Prop)(e:AExit)(s:EH):Prop:=
 match e with
 | .exit i=>if i=id then Q .norm s else Q (.exit i) s
 |e=>Q e s
variable (hs)
theorem EA{s:EH}{Q}:Wp (aP fs sp ae .skip s) Q↔Q .norm s:=by rw[Av,mM]
theorem EC{id:Nat}{s:EH}{Q}:Wp (aP fs sp ae (.exit id) s) Q↔Q (.exit id) s:=by rw[zo0,mM]
theorem EB{s:EH}{Q}:Wp (aP fs sp ae .ret s) Q↔Q .ret s:=by rw[zoX,mM]
include hs in
theorem bG{a b:ACode}{s:EH}{Q}:Wp (aP fs sp ae (.seq a b) s) Q↔Wp (aP fs sp ae a s) (andThen (aP fs sp ae b) Q):=by
 rw[zoW hs];cases h:aP fs sp ae a s with
 |none=>rw[F4,F4]
 |some q=>
  obtain⟨e,s'⟩:=q;rw[mM];cases e<;>simp only[andThen];all_goals rw[mM]
include hs in
theorem dn{id:Nat}{c:ACode}{s:EH}{Q}:Wp (aP fs sp ae (.block id c) s) Q↔Wp (aP fs sp ae c s) (ul id Q):=by
 rw[zo2 hs];cases h:aP fs sp ae c s with
 |none=>rw[F4,F4]
 |some q=>
  obtain⟨e,s'⟩:=q;rw[mM];cases e<;>simp only[ul]
  case exit i=>
   simp only[jv];by_cases h:i=id<;>simp[h,mM]
  all_goals rw[mM]
include hs in
theorem zrP{c:ACode}{s:EH}{Q}:Wp (aP fs sp ae (.loop c) s) Q↔Wp (aP fs sp ae c s) (andThen (aP fs sp ae (.loop c)) Q):=by
 rw[zoZ hs];cases h:aP fs sp ae c s with
 |none=>rw[F4,F4]
 |some q=>
  obtain⟨e,s'⟩:=q;rw[mM];cases e<;>simp only[andThen];all_goals rw[mM]
include hs in
theorem lZ{c b:ACode}(h:c=b){s:EH}{Q}:Wp (aP fs sp ae (.loop c) s) Q↔Wp (aP fs sp ae b s) (andThen (aP fs sp ae (.loop c)) Q):=by
 subst h;exact zrP hs
include hs in
theorem dm{clr:Bool}{t:Nat}{x y:ACode}{m:Nat}{v:Nat->AV}{H:aj}{Q}{b:Bool}(hb:bB (az m v) t=.bool b):Wp (aP fs sp ae (.cond clr (.v t) x y) (az m v,H)) Q↔
  Wp (aP fs sp ae (bif b then x else y) (az m (bif clr then st v t .undef else v),H)) Q:=by
 rw[zeo hs];simp only[GJ,hb];cases clr<;>cases b<;>simp[zU]
include hs in
theorem Wp_condc{clr b:Bool}{x y:ACode}{s:EH}{Q}:Wp (aP fs sp ae (.cond clr (.c (.bool b)) x y) s) Q↔Wp (aP fs sp ae (bif b then x else y) s) Q:=by
 rw[zeo hs];simp only[GJ];cases b<;>simp
def Ws(x:Option (AExit×St))(Q:AExit->EH->Prop):Prop:=∃e σ,x=some (e, σ)∧Q e (σ.env, σ.H)
theorem zK{e:AExit}{σ:St}{Q:AExit->EH->Prop}:Ws (some (e, σ)) Q↔Q e (σ.env, σ.H):=by
 constructor
 ·intro⟨e',s',h1,h2⟩;cases h1;exact h2
 ·intro h;exact⟨e, σ,rfl,h⟩
theorem ziW{Q:AExit->EH->Prop}:Ws none Q↔False:=by
 constructor
 ·intro⟨_,_,h,_⟩;cases h
 ·exact False.elim
include hs in
theorem bJ{ops:List AStep}{E:List (Nat×AV)}{H:aj}{Q}:Wp (aP fs sp ae (.region ops) (E,H)) Q↔Ws (jP (Rn fs sp ae) ae ops ⟨E,[],[],H⟩) Q:=by
 rw[zoY hs];cases h:jP (Rn fs sp ae) ae ops ⟨E,[],[],H⟩with
 |none=>rw[F4,ziW]
 |some q=>obtain⟨e, σ⟩:=q;rw[mM,zK]
include hs in
theorem lm{p:Plan}{E:List (Nat×AV)}{H:aj}{Q}:Wp (aP fs sp ae (.draw p) (E,H)) Q↔Ws (gT (Rn fs sp ae) ae p ⟨E,[],[],H⟩) Q:=by
 rw[zo1 hs];cases h:gT (Rn fs sp ae) ae p ⟨E,[],[],H⟩with
 |none=>rw[F4,ziW]
 |some q=>obtain⟨e, σ⟩:=q;rw[mM,zK]
theorem wH{f:EH->Option (AExit×EH)}{Q}{s:EH}:andThen f Q .norm s↔Wp (f s) Q:=vV
theorem Cy{f:EH->Option (AExit×EH)}{Q}{s:EH}:andThen f Q .ret s↔Q .ret s:=vV
theorem CB{f:EH->Option (AExit×EH)}{Q}{i:Nat}{s:EH}:andThen f Q (.exit i) s↔Q (.exit i) s:=vV
theorem Cz{f:EH->Option (AExit×EH)}{Q}{a:AV}{s:EH}:andThen f Q (.pan a) s↔Q (.pan a) s:=vV
theorem BP{id:Nat}{Q:AExit->EH->Prop}{s:EH}:ul id Q .norm s↔Q .norm s:=vV
theorem BM{id:Nat}{Q:AExit->EH->Prop}{s:EH}:ul id Q .ret s↔Q .ret s:=vV
theorem BN{id:Nat}{Q:AExit->EH->Prop}{a:AV}{s:EH}:ul id Q (.pan a) s↔Q (.pan a) s:=vV
theorem Ac{id:Nat}{Q:AExit->EH->Prop}{i:Nat}{s:EH}:ul id Q (.exit i) s↔if i=id then Q .norm s else Q (.exit i) s:=vV
def fin(res:List ARes)(Q:Out->aj->Prop)(e:AExit)(s:EH):Prop:=
 match e with
 | .norm|.ret=> ∃v,nJ s res=some v∧Q (.ret v) s.2
 | .pan v=>Q (.pan v) s.2
 | .exit _=>False
theorem Cs{res:List ARes}{Q}{s:EH}:fin res Q .norm s↔ ∃v,nJ s res=some v∧Q (.ret v) s.2:=vV
theorem Cq{res:List ARes}{Q}{s:EH}:fin res Q .ret s↔ ∃v,nJ s res=some v∧Q (.ret v) s.2:=vV
theorem Cr{res:List ARes}{Q}{s:EH}{v:AV}:fin res Q (.pan v) s↔Q (.pan v) s.2:=vV
def Wc(x:Option (Out×aj))(Q:Out->aj->Prop):Prop:=∃o H,x=some (o,H)∧Q o H
theorem Wc.mono{x:Option (Out×aj)}{Q R:Out->aj->Prop}(h:Wc x Q)(k:∀e s,Q e s->R e s):Wc x R:=by
 obtain⟨e,s,h1,h2⟩:=h;exact⟨e,s,h1,k e s h2⟩
theorem l5{x:Option (Out×aj)}{o:Out}{H:aj}:Wc x (fun p K=>p=o∧K=H)↔x=some (o,H):=by
 constructor
 ·intro⟨p,K,h,h1,h2⟩;subst h1 h2;exact h
 ·intro h;exact⟨o,H,h,rfl,rfl⟩
theorem QG{F:AFunc}{as:List AV}{H:aj}{Q}(hn:Nat.beq as.length F.np=true)(h:Wp (aP fs sp ae F.body (bC F.vars as,H)) (fin F.res Q)):Wc (EU fs sp ae F as H) Q:=by
 obtain⟨e,s,h1,h2⟩:=h;simp only[EU,hn,bA,h1];cases e with
 |norm=>obtain⟨v,h3,h4⟩:=h2;simp only[h3];exact⟨_,_,rfl,h4⟩
 |ret=>obtain⟨v,h3,h4⟩:=h2;simp only[h3];exact⟨_,_,rfl,h4⟩
 |pan v=>exact⟨_,_,rfl,h2⟩
 |exit i=>exact h2.elim
include hs in
theorem zL{f:Nat}{F:AFunc}(hf:fs f=some F){as:List AV}{H:aj}{Q}(hp:F.pure=false)(hn:Nat.beq as.length F.np=true)(h:Wp (aP fs sp ae F.body (bC F.vars as,H)) (fin F.res Q)):Wc (Rn fs sp ae f as H) Q:=by
 rw[Ls hs hf,hp];exact QG hn h
def thaw(n0:Nat)(Q:Out->Prop)(o:Out)(H:aj):Prop:=
 match o with
 | .ret v=> ∃u,aN n0 H v=some u∧Q (.ret u)
 | .pan v=> ∃u,aN n0 H v=some u∧Q (.pan u)
theorem Bz{n0:Nat}{Q:Out->Prop}{v:AV}{H:aj}:thaw n0 Q (.ret v) H↔ ∃u,aN n0 H v=some u∧Q (.ret u):=vV
theorem BA{n0:Nat}{Q:Out->Prop}{v:AV}{H:aj}:thaw n0 Q (.pan v) H↔ ∃u,aN n0 H v=some u∧Q (.pan u):=vV
theorem zc6{n0:Nat}{H:aj}{x:Option (Out×aj)}{Q:Out->Prop}(h:Wc x (thaw n0 Q)):Wc (lC n0 H x) (fun o K=>Q o∧K=H):=by
 obtain⟨o,K,h1,h2⟩:=h;subst h1;cases o with
 |ret v=>obtain⟨u,h3,h4⟩:=h2;exact⟨.ret u,H,by simp only[lC,h3],h4,rfl⟩
 |pan v=>obtain⟨u,h3,h4⟩:=h2;exact⟨.pan u,H,by simp only[lC,h3],h4,rfl⟩
include hs in
theorem ziY{f:Nat}{F:AFunc}(hf:fs f=some F){as:List AV}{H:aj}{Q}(hp:F.pure=true)(hc:dG as=true)(hn:Nat.beq as.length F.np=true)(h:Wp (aP fs sp 0 F.body (bC F.vars as,[])) (fin F.res (thaw 0 Q))):
  Wc (Rn fs sp ae f as H) (fun o K=>Q o∧K=H):=by
 rw[Ls hs hf,hp,hc];exact zc6 (QG hn h)
include hs in
theorem ziX{f:Nat}{F:AFunc}(hf:fs f=some F){as:List AV}{H:aj}{Q}(hp:F.pure=true)(hc:dG as=false)(hn:Nat.beq as.length F.np=true)(h:Wp (aP fs sp H.length F.body (bC F.vars as,H)) (fin F.res (thaw H.length Q))):
  Wc (Rn fs sp ae f as H) (fun o K=>Q o∧K=H):=by
 rw[Ls hs hf,hp,hc];exact zc6 (QG hn h)
include hs in
theorem BJ{f:Nat}{F:AFunc}(hf:fs f=some F){as:List AV}{H:aj}{r:AV}(hp:F.pure=true)(hc:dG as=true)(hn:Nat.beq as.length F.np=true)(h:Wp (aP fs sp 0 F.body (bC F.vars as,[])) (fin F.res (thaw 0 (· =.ret r)))):
  Rn fs sp ae f as H=some (.ret r,H):=l5.1 (ziY hs hf hp hc hn h)
include hs in
theorem QP{f:Nat}{F:AFunc}(hf:fs f=some F){as:List AV}{H:aj}{r:AV}(hp:F.pure=true)(hc:dG as=false)(hn:Nat.beq as.length F.np=true)(h:Wp (aP fs sp H.length F.body (bC F.vars as,H)) (fin F.res (thaw H.length (· =.ret r)))):
  Rn fs sp ae f as H=some (.ret r,H):=l5.1 (ziX hs hf hp hc hn h)
end
theorem aM(n:Int)(h: -9223372036854775808<=n∧n<=9223372036854775807):IntKind.i64.wrap n=n:=by
 have h1:(2:Int)^64=18446744073709551616:=by decide
 have h2:(2:Int)^63=9223372036854775808:=by decide
 simp only[IntKind.wrap,IntKind.bits,IntKind.signed,h1,h2,Gi,ik,Nat.reduceSub];split<;>omega
theorem Ce(sz:Nat):jF sz []=true:=rfl
theorem Cf(sz:Nat)(e:AV)(l:List AV):jF sz (e::l)=Nat.beq e.cells.length (step sz):=rfl
theorem Cm(n:Nat)(H:aj)(b:Bool):aN n H (.bool b)=some (.bool b):=by simp[aN]
theorem Ck(n:Nat)(H:aj)(k:IntKind)(i:Int):aN n H (.int k i)=some (.int k i):=by simp[aN]
theorem Ch(n:Nat)(H:aj)(s:List UInt8):aN n H (.str s)=some (.str s):=by simp[aN]
theorem Ci(n:Nat)(H:aj):aN n H .nils=some .nils:=by simp[aN]
theorem Cj(n:Nat)(H:aj):aN n H .nilp=some .nilp:=by simp[aN]
def eB(H:aj)(i:Nat):Option (Option (List AV)):=H[i]?
theorem Ap(H:aj)(i:Nat):H[i]?=eB H i:=rfl
theorem fA{H:aj}{i:Nat}{x:Option (List AV)}(h:eB H i=some x):i<H.length:=(eD.1 h).1
theorem l9{H:aj}{i:Nat}(l:aj)(h:i<H.length):eB (H++l) i=eB H i:=zP h
theorem rR(H:aj)(x:Option (List AV)):eB (H ++[x]) H.length=some x:=by simp[eB]
theorem Rb(H:aj)(x:Option (List AV))(n:Nat)(h:n=H.length):eB (H ++[x]) n=some x:=by subst h;exact rR H x
theorem kU{H:aj}{i k:Nat}(x:Option (List AV))(h:i≠k):eB (H.set i x) k=eB H k:=tZ h
theorem dB{H:aj}{i:Nat}(x:Option (List AV))(h:i<H.length):eB (H.set i x) i=some x:=zO h
theorem BZ(a:Option (List AV))(l:aj):eB (a::l) 0=some a:=rfl
theorem Ca(a:Option (List AV))(l:aj)(n:Nat):eB (a::l) (n+1)=eB l n:=rfl
theorem BX(n:Nat):eB [] n=none:=by simp[eB]
abbrev ag(n:Nat):AV:=.int .i64 n
end Go.Ak
namespace Go.Ak
theorem zpp(x0 x1:AV):bC a173.vars [x0,x1]=az 383126819637728418043102215099561678941415497451700211 (st (st bK 0 x0) 1 x1):=rfl
theorem env8(x0:AV):bC a8.vars [x0]=az 61 (st bK 0 x0):=rfl
theorem Fq(x0 x1:AV):bC a157.vars [x0,x1]=az 2233384077299 (st (st bK 0 x0) 1 x1):=rfl
theorem JQ(x0 x1:AV):bC a158.vars [x0,x1]=az 9223935021302439923 (st (st bK 0 x0) 1 x1):=rfl
theorem zeD(x0:AV):bC a160.vars [x0]=az 5 (st bK 0 x0):=rfl
theorem env161:bC a161.vars []=az 3 bK:=rfl
theorem zpv:bC a165.vars []=az 1 bK:=rfl
theorem Xf(x0:AV):bC a166.vars [x0]=az 7 (st bK 0 x0):=rfl
theorem zpu(x0 x1 x2:AV):bC a167.vars [x0,x1,x2]=az 2229191 (st (st (st bK 0 x0) 1 x1) 2 x2):=rfl
theorem zeC(x0 x1 x2 x3:AV):bC a168.vars [x0,x1,x2,x3]=az 33551 (st (st (st (st bK 0 x0) 1 x1) 2 x2) 3 x3):=rfl
theorem zpt(x0:AV):bC a169.vars [x0]=az 5 (st bK 0 x0):=rfl
theorem zps(x0 x1:AV):bC a170.vars [x0,x1]=az 4210803 (st (st bK 0 x0) 1 x1):=rfl
theorem zpq(x0:AV):bC a172.vars [x0]=az 5 (st bK 0 x0):=rfl
theorem zpr(x0 x1:AV):bC a171.vars [x0,x1]=az 17523 (st (st bK 0 x0) 1 x1):=rfl
theorem zpo(x0 x1 x2:AV):bC a174.vars [x0,x1,x2]=az 4457415 (st (st (st bK 0 x0) 1 x1) 2 x2):=rfl
theorem zeB(x0 x1 x2 x3:AV):bC a175.vars [x0,x1,x2,x3]=az 33587983 (st (st (st (st bK 0 x0) 1 x1) 2 x2) 3 x3):=rfl
theorem zez(x0 x1 x2:AV):bC a177.vars [x0,x1,x2]=az 4167 (st (st (st bK 0 x0) 1 x1) 2 x2):=rfl
theorem zeA(x0 x1 x2:AV):bC a176.vars [x0,x1,x2]=az 134496711 (st (st (st bK 0 x0) 1 x1) 2 x2):=rfl
theorem zey(x0:AV):bC a178.vars [x0]=az 2061 (st bK 0 x0):=rfl
theorem zpn(x0 x1:AV):bC a179.vars [x0,x1]=az 67127347 (st (st bK 0 x0) 1 x1):=rfl
theorem env14(x0:AV):bC a14.vars [x0]=az 269484285 (st bK 0 x0):=rfl
theorem env38(x0:AV):bC a38.vars [x0]=az 7 (st bK 0 x0):=rfl
theorem env10(x0:AV):bC a10.vars [x0]=az 33620477 (st bK 0 x0):=rfl
theorem zpm(x0:AV):bC a180.vars [x0]=az 5 (st bK 0 x0):=rfl
theorem zpx(x0 x1:AV):bC a153.vars [x0,x1]=az 34051443 (st (st bK 0 x0) 1 x1):=rfl
theorem zpl(x0:AV):bC a183.vars [x0]=az 8610907197 (st bK 0 x0):=rfl
theorem zpz(x0 x1:AV):bC a148.vars [x0,x1]=az 4295494135 (st (st bK 0 x0) 1 x1):=rfl
theorem zeu(x0 x1:AV):bC a95.vars [x0,x1]=az 115 (st (st bK 0 x0) 1 x1):=rfl
theorem zpA(x0 x1:AV):bC a143.vars [x0,x1]=az 140737622837239 (st (st bK 0 x0) 1 x1):=rfl
theorem zpi(x0 x1 x2:AV):bC a188.vars [x0,x1,x2]=az 8391 (st (st (st bK 0 x0) 1 x1) 2 x2):=rfl
theorem zpk(x0:AV):bC a185.vars [x0]=az 5 (st bK 0 x0):=rfl
theorem zpj(x0 x1 x2:AV):bC a186.vars [x0,x1,x2]=az 536940999 (st (st (st bK 0 x0) 1 x1) 2 x2):=rfl
theorem zph(x0:AV):bC a189.vars [x0]=az 134217853 (st bK 0 x0):=rfl
theorem env44(x0:AV):bC a44.vars [x0]=az 1049213 (st bK 0 x0):=rfl
theorem env45(x0:AV):bC a45.vars [x0]=az 1103 (st bK 0 x0):=rfl
theorem env63(x0:AV):bC a63.vars [x0]=az 7 (st bK 0 x0):=rfl
theorem env34(x0:AV):bC a34.vars [x0]=az 2367 (st bK 0 x0):=rfl
theorem env42(x0:AV):bC a42.vars [x0]=az 39 (st bK 0 x0):=rfl
theorem env190(x0:AV):bC a190.vars [x0]=az 5 (st bK 0 x0):=rfl
theorem env198(x0 x1:AV):bC a198.vars [x0,x1]=az 19 (st (st bK 0 x0) 1 x1):=rfl
theorem zpg(x0:AV):bC a193.vars [x0]=az 5 (st bK 0 x0):=rfl
theorem zeF(x0 x1:AV):bC a104.vars [x0,x1]=az 4339 (st (st bK 0 x0) 1 x1):=rfl
theorem env46(x0 x1:AV):bC a46.vars [x0,x1]=az 22847157054575562436918159888043788588013600759 (st (st bK 0 x0) 1 x1):=rfl
theorem zpy(x0 x1:AV):bC a152.vars [x0,x1]=az 4202995 (st (st bK 0 x0) 1 x1):=rfl
theorem zpf(x0 x1:AV):bC a194.vars [x0,x1]=az 19 (st (st bK 0 x0) 1 x1):=rfl
theorem zpe(x0:AV):bC a195.vars [x0]=az 67108989 (st bK 0 x0):=rfl
theorem zpd(x0:AV):bC a196.vars [x0]=az 8389637 (st bK 0 x0):=rfl
theorem zpc(x0:AV):bC a197.vars [x0]=az 353616228353796860312178525197301714941 (st bK 0 x0):=rfl
theorem env69(x0 x1:AV):bC a69.vars [x0,x1]=az 8307 (st (st bK 0 x0) 1 x1):=rfl
theorem env70(x0 x1 x2:AV):bC a70.vars [x0,x1,x2]=az 2722944318552834909416890706682699579855 (st (st (st bK 0 x0) 1 x1) 2 x2):=rfl
theorem env71(x0:AV):bC a71.vars [x0]=az 2361255369402436685855 (st bK 0 x0):=rfl
theorem env85(x0 x1 x2:AV):bC a85.vars [x0,x1,x2]=az 549760008655 (st (st (st bK 0 x0) 1 x1) 2 x2):=rfl
theorem env86(x0 x1:AV):bC a86.vars [x0,x1]=az 2099 (st (st bK 0 x0) 1 x1):=rfl
theorem env57(x0:AV):bC a57.vars [x0]=az 39 (st bK 0 x0):=rfl
theorem env59(x0 x1 x2:AV):bC a59.vars [x0,x1,x2]=az 19343108262865700173913047 (st (st (st bK 0 x0) 1 x1) 2 x2):=rfl
theorem zex(x0 x1:AV):bC a58.vars [x0,x1]=az 27 (st (st bK 0 x0) 1 x1):=rfl
theorem env65(x0 x1 x2:AV):bC a65.vars [x0,x1,x2]=az 1267650600670987429023578062959 (st (st (st bK 0 x0) 1 x1) 2 x2):=rfl
theorem env66(x0:AV):bC a66.vars [x0]=az 263952017659567 (st bK 0 x0):=rfl
theorem env123(x0 x1:AV):bC a123.vars [x0,x1]=az 19 (st (st bK 0 x0) 1 x1):=rfl
theorem env43(x0 x1 x2:AV):bC a43.vars [x0,x1,x2]=az 2148535239 (st (st (st bK 0 x0) 1 x1) 2 x2):=rfl
theorem env72(x0:AV):bC a72.vars [x0]=az 159 (st bK 0 x0):=rfl
theorem env73(x0 x1:AV):bC a73.vars [x0,x1]=az 73022850035 (st (st bK 0 x0) 1 x1):=rfl
theorem env74(x0 x1:AV):bC a74.vars [x0,x1]=az 4202995 (st (st bK 0 x0) 1 x1):=rfl
theorem env75(x0:AV):bC a75.vars [x0]=az 4785353776964093 (st bK 0 x0):=rfl
theorem zpw(x0:AV):bC a155.vars [x0]=az 16669 (st bK 0 x0):=rfl
theorem zpb(x0:AV):bC a203.vars [x0]=az 5 (st bK 0 x0):=rfl
theorem zpa(x0:AV):bC a204.vars [x0]=az 349129794133781029338228097773851226701821 (st bK 0 x0):=rfl
theorem zo9(x0:AV):bC a205.vars [x0]=az 5 (st bK 0 x0):=rfl
theorem zo8(x0:AV):bC a206.vars [x0]=az 16389 (st bK 0 x0):=rfl
theorem zo7(x0:AV):bC a207.vars [x0]=az 18270388351 (st bK 0 x0):=rfl
theorem env92(x0 x1:AV):bC a92.vars [x0,x1]=az 33554547 (st (st bK 0 x0) 1 x1):=rfl
theorem zev(x0:AV):bC a93.vars [x0]=az 524293 (st bK 0 x0):=rfl
theorem env3(x0 x1:AV):bC a3.vars [x0,x1]=az 2392674742044787 (st (st bK 0 x0) 1 x1):=rfl
theorem env87(x0 x1:AV):bC a87.vars [x0,x1]=az 67109107 (st (st bK 0 x0) 1 x1):=rfl
theorem zew(x0 x1:AV):bC a88.vars [x0,x1]=az 262259 (st (st bK 0 x0) 1 x1):=rfl
theorem Xe(x0 x1:AV):bC a89.vars [x0,x1]=az 70643760244403 (st (st bK 0 x0) 1 x1):=rfl
theorem env81(x0:AV):bC a81.vars [x0]=az 7 (st bK 0 x0):=rfl
theorem env82(x0:AV):bC a82.vars [x0]=az 584262617007 (st bK 0 x0):=rfl
theorem env83(x0 x1 x2:AV):bC a83.vars [x0,x1,x2]=az 126102713711727575 (st (st (st bK 0 x0) 1 x1) 2 x2):=rfl
theorem env91(x0 x1:AV):bC a91.vars [x0,x1]=az 19 (st (st bK 0 x0) 1 x1):=rfl
theorem env90(x0 x1 x2:AV):bC a90.vars [x0,x1,x2]=az 31 (st (st (st bK 0 x0) 1 x1) 2 x2):=rfl
theorem env35(x0 x1 x2:AV):bC a35.vars [x0,x1,x2]=az 199 (st (st (st bK 0 x0) 1 x1) 2 x2):=rfl
theorem zo6(x0 x1:AV):bC a213.vars [x0,x1]=az 19 (st (st bK 0 x0) 1 x1):=rfl
theorem zo5(x0 x1:AV):bC a216.vars [x0,x1]=az 131187 (st (st bK 0 x0) 1 x1):=rfl
theorem zo4(x0 x1:AV):bC a227.vars [x0,x1]=az 2101299 (st (st bK 0 x0) 1 x1):=rfl
theorem zp1(x0 x1:AV):bC a101.vars [x0,x1]=az 98735055699304187507286263408835596128243 (st (st bK 0 x0) 1 x1):=rfl
theorem zeG(x0 x1:AV):bC a102.vars [x0,x1]=az 4874663954868102531948795 (st (st bK 0 x0) 1 x1):=rfl
theorem zet(x0:AV):bC a98.vars [x0]=az 8205 (st bK 0 x0):=rfl
theorem env99(x0 x1:AV):bC a99.vars [x0,x1]=az 76677619 (st (st bK 0 x0) 1 x1):=rfl
theorem zp2(x0 x1:AV):bC a100.vars [x0,x1]=az 66483 (st (st bK 0 x0) 1 x1):=rfl
theorem env37(x0 x1 x2 x3:AV):bC a37.vars [x0,x1,x2,x3]=az 2379663764704762803983 (st (st (st (st bK 0 x0) 1 x1) 2 x2) 3 x3):=rfl
theorem env60(x0 x1:AV):bC a60.vars [x0,x1]=az 3 (st (st bK 0 x0) 1 x1):=rfl
theorem zo3(x0 x1:AV):bC a228.vars [x0,x1]=az 275 (st (st bK 0 x0) 1 x1):=rfl
theorem zeE(x0 x1 x2:AV):bC a107.vars [x0,x1,x2]=az 1031 (st (st (st bK 0 x0) 1 x1) 2 x2):=rfl
theorem zpY(x0 x1:AV):bC a108.vars [x0,x1]=az 240225565480938577807985484469345695599948758954541043 (st (st bK 0 x0) 1 x1):=rfl
theorem zpX(x0:AV):bC a109.vars [x0]=az 13 (st bK 0 x0):=rfl
theorem zpW:bC a110.vars []=az 1 bK:=rfl
theorem zpV(x0:AV):bC a111.vars [x0]=az 137439019037 (st bK 0 x0):=rfl
theorem zp0(x0 x1:AV):bC a105.vars [x0,x1]=az 723267678280255871351330443251 (st (st bK 0 x0) 1 x1):=rfl
theorem zpZ(x0 x1:AV):bC a106.vars [x0,x1]=az 549758435827 (st (st bK 0 x0) 1 x1):=rfl
theorem env61(x0 x1 x2 x3:AV):bC a61.vars [x0,x1,x2,x3]=az 39614082438300250541364643599 (st (st (st (st bK 0 x0) 1 x1) 2 x2) 3 x3):=rfl
theorem env62(x0 x1:AV):bC a62.vars [x0,x1]=az 23 (st (st bK 0 x0) 1 x1):=rfl
theorem zpO(x0 x1:AV):bC a119.vars [x0,x1]=az 275 (st (st bK 0 x0) 1 x1):=rfl
theorem uw(x0 x1:AV):bC a120.vars [x0,x1]=az 83402540892580794972557710289011187 (st (st bK 0 x0) 1 x1):=rfl
theorem zpN(x0 x1:AV):bC a121.vars [x0,x1]=az 10486899 (st (st bK 0 x0) 1 x1):=rfl
theorem zpM(x0:AV):bC a122.vars [x0]=az 1048735 (st bK 0 x0):=rfl
theorem zpU(x0 x1 x2:AV):bC a113.vars [x0,x1,x2]=az 7 (st (st (st bK 0 x0) 1 x1) 2 x2):=rfl
theorem zpT(x0 x1:AV):bC a114.vars [x0,x1]=az 2342153315636223987 (st (st bK 0 x0) 1 x1):=rfl
theorem zpS(x0:AV):bC a115.vars [x0]=az 7 (st bK 0 x0):=rfl
theorem zpQ(x0:AV):bC a117.vars [x0]=az 5 (st bK 0 x0):=rfl
theorem zpR(x0:AV):bC a116.vars [x0]=az 369100829 (st bK 0 x0):=rfl
theorem zpP(x0:AV):bC a118.vars [x0]=az 16777981 (st bK 0 x0):=rfl
theorem env84(x0 x1:AV):bC a84.vars [x0,x1]=az 23 (st (st bK 0 x0) 1 x1):=rfl
theorem zpL(x0 x1:AV):bC a124.vars [x0,x1]=az 19 (st (st bK 0 x0) 1 x1):=rfl
theorem zpK(x0:AV):bC a125.vars [x0]=az 328829003598998184994543613 (st bK 0 x0):=rfl
theorem zpJ(x0 x1:AV):bC a126.vars [x0,x1]=az 255 (st (st bK 0 x0) 1 x1):=rfl
theorem zpI(x0:AV):bC a127.vars [x0]=az 63 (st bK 0 x0):=rfl
theorem zpH(x0 x1 x2:AV):bC a128.vars [x0,x1,x2]=az 79 (st (st (st bK 0 x0) 1 x1) 2 x2):=rfl
theorem zpG(x0 x1:AV):bC a133.vars [x0,x1]=az 19 (st (st bK 0 x0) 1 x1):=rfl
theorem zpF(x0:AV):bC a134.vars [x0]=az 4221 (st bK 0 x0):=rfl
theorem zpE(x0:AV):bC a135.vars [x0]=az 72103773534683229 (st bK 0 x0):=rfl
theorem zpD(x0 x1 x2:AV):bC a136.vars [x0,x1,x2]=az 8399 (st (st (st bK 0 x0) 1 x1) 2 x2):=rfl
theorem zpC(x0 x1:AV):bC a137.vars [x0,x1]=az 19 (st (st bK 0 x0) 1 x1):=rfl
theorem zpB(x0:AV):bC a138.vars [x0]=az 89478493 (st bK 0 x0):=rfl
end Go.Ak
