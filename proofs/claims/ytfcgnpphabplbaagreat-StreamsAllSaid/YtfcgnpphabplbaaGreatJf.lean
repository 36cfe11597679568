/- The functions checked against the loaded program. -/
import Derived.Test.YtfcgnpphabplbaaGreatJc
import Derived.Test.YtfcgnpphabplbaaGreatJe
import Derived.Test.YtfcgnpphabplbaaGreatProg
set_option linter.unusedVariables false
set_option linter.unusedSimpArgs false

set_option maxRecDepth 100000

namespace Go.Proofs.YtfcgnpphabplbaaGreat
open Go.Ak

def fmTryz : Nat → Nat
  | 3 => 78
  | 8 => 21
  | 10 => 8
  | 11 => 29
  | 14 => 9
  | 15 => 27
  | 18 => 6
  | 19 => 7
  | 20 => 11
  | 23 => 32
  | 26 => 18
  | 29 => 34
  | 31 => 153
  | 32 => 36
  | 33 => 17
  | 34 => 23
  | 35 => 79
  | 37 => 93
  | 38 => 40
  | 40 => 151
  | 41 => 22
  | 42 => 24
  | 43 => 51
  | 44 => 25
  | 45 => 26
  | 46 => 30
  | 47 => 28
  | 48 => 53
  | 49 => 37
  | 50 => 63
  | 51 => 52
  | 52 => 62
  | 53 => 61
  | 54 => 38
  | 55 => 54
  | 56 => 35
  | 57 => 43
  | 58 => 45
  | 59 => 44
  | 60 => 94
  | 61 => 105
  | 62 => 106
  | 63 => 67
  | 64 => 41
  | 65 => 46
  | 66 => 47
  | 67 => 55
  | 68 => 82
  | 69 => 48
  | 70 => 49
  | 71 => 50
  | 72 => 56
  | 73 => 57
  | 74 => 58
  | 75 => 59
  | 76 => 81
  | 77 => 65
  | 78 => 64
  | 79 => 80
  | 80 => 66
  | 81 => 71
  | 82 => 72
  | 83 => 73
  | 84 => 118
  | 85 => 87
  | 86 => 42
  | 87 => 68
  | 88 => 69
  | 89 => 70
  | 90 => 75
  | 91 => 74
  | 92 => 76
  | 93 => 77
  | 94 => 83
  | 95 => 84
  | 96 => 86
  | 97 => 85
  | 98 => 88
  | 99 => 89
  | 100 => 90
  | 101 => 91
  | 102 => 92
  | 103 => 96
  | 104 => 97
  | 105 => 98
  | 106 => 99
  | 107 => 100
  | 108 => 101
  | 109 => 102
  | 110 => 103
  | 111 => 104
  | 112 => 107
  | 113 => 108
  | 114 => 109
  | 115 => 110
  | 116 => 112
  | 117 => 111
  | 118 => 113
  | 119 => 114
  | 120 => 115
  | 121 => 116
  | 122 => 117
  | 123 => 119
  | 124 => 123
  | 125 => 124
  | 126 => 125
  | 127 => 126
  | 128 => 127
  | 129 => 128
  | 130 => 121
  | 131 => 122
  | 132 => 129
  | 133 => 130
  | 134 => 131
  | 135 => 132
  | 136 => 133
  | 137 => 134
  | 138 => 135
  | 139 => 2
  | 140 => 1
  | 141 => 3
  | 142 => 10
  | 143 => 12
  | 144 => 13
  | 145 => 4
  | 146 => 14
  | 147 => 15
  | 148 => 16
  | 149 => 5
  | 150 => 19
  | 151 => 20
  | 152 => 31
  | 153 => 33
  | 154 => 39
  | 155 => 60
  | _ => 0

def tmTryz : Nat → Nat
  | 1 => 92
  | 2 => 87
  | 3 => 84
  | 4 => 82
  | 5 => 5
  | _ => 0

noncomputable def trTryz (G : Nat → Option Obj) : Tr := ⟨Tryz.prog, fmTryz, tmTryz, G⟩

/-- auklet/aukletlaw17.StreamsAll -/
theorem chk149 (G : Nat → Option Obj) : chkFunc (trTryz G) a149 Tryz.f5 = true := by kernel_rfl
/-- auklet/aukletlaw17.lives -/
theorem chk33 (G : Nat → Option Obj) : chkFunc (trTryz G) a33 Tryz.f17 = true := by kernel_rfl
/-- auklet/streams.New -/
theorem chk26 (G : Nat → Option Obj) : chkFunc (trTryz G) a26 Tryz.f18 = true := by kernel_rfl
/-- (*auklet/streams.Streams).Main -/
theorem chk150 (G : Nat → Option Obj) : chkFunc (trTryz G) a150 Tryz.f19 = true := by kernel_rfl
/-- auklet/aukletref09.Next -/
theorem chk151 (G : Nat → Option Obj) : chkFunc (trTryz G) a151 Tryz.f20 = true := by kernel_rfl
/-- (*auklet/streams.Streams).Write -/
theorem chk29 (G : Nat → Option Obj) : chkFunc (trTryz G) a29 Tryz.f34 = true := by kernel_rfl
/-- auklet/aukletref17.Same -/
theorem chk56 (G : Nat → Option Obj) : chkFunc (trTryz G) a56 Tryz.f35 = true := by kernel_rfl
/-- (*auklet/streams.Streams).Files -/
theorem chk32 (G : Nat → Option Obj) : chkFunc (trTryz G) a32 Tryz.f36 = true := by kernel_rfl
/-- (*auklet/streams.Streams).file -/
theorem chk49 (G : Nat → Option Obj) : chkFunc (trTryz G) a49 Tryz.f37 = true := by kernel_rfl
/-- (*auklet/streams.source).next -/
theorem chk54 (G : Nat → Option Obj) : chkFunc (trTryz G) a54 Tryz.f38 = true := by kernel_rfl
/-- (*strings.Builder).WriteString -/
theorem chk51 (G : Nat → Option Obj) : chkFunc (trTryz G) a51 Tryz.f52 = true := by kernel_rfl
/-- slices.IndexFunc[[]*auklet/streams.sink,*auklet/streams.sink] -/
theorem chk53 (G : Nat → Option Obj) : chkFunc (trTryz G) a53 Tryz.f61 = true := by kernel_rfl
/-- (*auklet/streams.Streams).Write$1 -/
theorem chk52 (G : Nat → Option Obj) : chkFunc (trTryz G) a52 Tryz.f62 = true := by kernel_rfl
/-- (*auklet/streams.Streams).room -/
theorem chk50 (G : Nat → Option Obj) : chkFunc (trTryz G) a50 Tryz.f63 = true := by kernel_rfl
/-- slices.IndexFunc[[]*auklet/streams.source,*auklet/streams.source] -/
theorem chk78 (G : Nat → Option Obj) : chkFunc (trTryz G) a78 Tryz.f64 = true := by kernel_rfl
/-- (*auklet/streams.Streams).file$1 -/
theorem chk77 (G : Nat → Option Obj) : chkFunc (trTryz G) a77 Tryz.f65 = true := by kernel_rfl
/-- auklet/fields.Next -/
theorem chk80 (G : Nat → Option Obj) : chkFunc (trTryz G) a80 Tryz.f66 = true := by kernel_rfl
/-- strings.Cut -/
theorem chk95 (G : Nat → Option Obj) : chkFunc (trTryz G) a95 Tryz.f84 = true := by kernel_rfl
/-- internal/stringslite.Cut -/
theorem chk104 (G : Nat → Option Obj) : chkFunc (trTryz G) a104 Tryz.f97 = true := by kernel_rfl

theorem fsOKTryz (G : Nat → Option Obj) : FsOK (trTryz G) fsT := by
  intro f F h
  unfold fsT at h
  split at h
  · cases h; exact ⟨Tryz.f5, Tryz.func5, chk149 G, by kernel_rfl⟩
  · cases h; exact ⟨Tryz.f17, Tryz.func17, chk33 G, by kernel_rfl⟩
  · cases h; exact ⟨Tryz.f18, Tryz.func18, chk26 G, by kernel_rfl⟩
  · cases h; exact ⟨Tryz.f19, Tryz.func19, chk150 G, by kernel_rfl⟩
  · cases h; exact ⟨Tryz.f20, Tryz.func20, chk151 G, by kernel_rfl⟩
  · cases h; exact ⟨Tryz.f34, Tryz.func34, chk29 G, by kernel_rfl⟩
  · cases h; exact ⟨Tryz.f35, Tryz.func35, chk56 G, by kernel_rfl⟩
  · cases h; exact ⟨Tryz.f36, Tryz.func36, chk32 G, by kernel_rfl⟩
  · cases h; exact ⟨Tryz.f37, Tryz.func37, chk49 G, by kernel_rfl⟩
  · cases h; exact ⟨Tryz.f38, Tryz.func38, chk54 G, by kernel_rfl⟩
  · cases h; exact ⟨Tryz.f52, Tryz.func52, chk51 G, by kernel_rfl⟩
  · cases h; exact ⟨Tryz.f61, Tryz.func61, chk53 G, by kernel_rfl⟩
  · cases h; exact ⟨Tryz.f62, Tryz.func62, chk52 G, by kernel_rfl⟩
  · cases h; exact ⟨Tryz.f63, Tryz.func63, chk50 G, by kernel_rfl⟩
  · cases h; exact ⟨Tryz.f64, Tryz.func64, chk78 G, by kernel_rfl⟩
  · cases h; exact ⟨Tryz.f65, Tryz.func65, chk77 G, by kernel_rfl⟩
  · cases h; exact ⟨Tryz.f66, Tryz.func66, chk80 G, by kernel_rfl⟩
  · cases h; exact ⟨Tryz.f84, Tryz.func84, chk95 G, by kernel_rfl⟩
  · cases h; exact ⟨Tryz.f97, Tryz.func97, chk104 G, by kernel_rfl⟩
  · cases h

end Go.Proofs.YtfcgnpphabplbaaGreat

