/- The functions checked against the loaded program. -/
import Derived.Test.YtfcgnpphabplbaaJc
import Derived.Test.YtfcgnpphabplbaaJe
import Derived.Test.YtfcgnpphabplbaaProg
set_option linter.unusedVariables false
set_option linter.unusedSimpArgs false

set_option maxRecDepth 100000

namespace Go.Proofs.Ytfcgnpphabplbaa
open Go.Ak

def fmTry : Nat → Nat
  | 1 => 3
  | 2 => 9
  | 3 => 11
  | 4 => 10
  | 5 => 13
  | 6 => 12
  | 7 => 4
  | 8 => 14
  | 9 => 15
  | 10 => 16
  | 11 => 17
  | 12 => 18
  | 13 => 5
  | 14 => 19
  | 15 => 20
  | 16 => 21
  | 17 => 6
  | 18 => 22
  | 19 => 23
  | 20 => 24
  | 21 => 7
  | 22 => 25
  | 23 => 26
  | 24 => 8
  | 25 => 27
  | 26 => 28
  | 27 => 30
  | 28 => 29
  | 29 => 31
  | 30 => 32
  | 31 => 33
  | 32 => 34
  | 33 => 35
  | 34 => 36
  | 35 => 37
  | 36 => 39
  | 37 => 38
  | 38 => 40
  | 39 => 41
  | 40 => 42
  | 41 => 43
  | 42 => 44
  | 43 => 46
  | 44 => 47
  | 45 => 48
  | 46 => 49
  | 47 => 50
  | 48 => 51
  | 49 => 52
  | 50 => 53
  | 51 => 54
  | 52 => 56
  | 53 => 55
  | 54 => 57
  | 55 => 58
  | 56 => 59
  | 57 => 60
  | 58 => 62
  | 59 => 61
  | 60 => 63
  | 61 => 64
  | 62 => 65
  | 63 => 66
  | 64 => 67
  | 65 => 69
  | 66 => 70
  | 67 => 45
  | 68 => 71
  | 69 => 72
  | 70 => 73
  | 71 => 74
  | 72 => 75
  | 73 => 76
  | 74 => 77
  | 75 => 78
  | 76 => 79
  | 77 => 81
  | 78 => 80
  | 79 => 82
  | 80 => 83
  | 81 => 84
  | 82 => 85
  | 83 => 86
  | 84 => 87
  | 85 => 88
  | 86 => 68
  | 87 => 89
  | 88 => 90
  | 89 => 91
  | 90 => 93
  | 91 => 92
  | 92 => 94
  | 93 => 95
  | 94 => 97
  | 95 => 98
  | 96 => 100
  | 97 => 99
  | 98 => 101
  | 99 => 102
  | 100 => 103
  | 101 => 104
  | 102 => 105
  | 103 => 106
  | 104 => 107
  | 105 => 108
  | 106 => 109
  | 107 => 110
  | 108 => 111
  | 109 => 112
  | 110 => 113
  | 111 => 114
  | 112 => 115
  | 113 => 116
  | 114 => 117
  | 115 => 118
  | 116 => 120
  | 117 => 119
  | 118 => 121
  | 119 => 122
  | 120 => 123
  | 121 => 124
  | 122 => 125
  | 123 => 126
  | 124 => 130
  | 125 => 131
  | 126 => 132
  | 127 => 133
  | 128 => 134
  | 129 => 135
  | 130 => 128
  | 131 => 129
  | 132 => 136
  | 133 => 137
  | 134 => 138
  | 135 => 139
  | 136 => 140
  | 137 => 141
  | 138 => 142
  | 139 => 2
  | 140 => 1
  | _ => 0

def tmTry : Nat → Nat
  | 1 => 125
  | 2 => 99
  | 3 => 96
  | 4 => 94
  | 5 => 5
  | _ => 0

noncomputable def trTry (G : Nat → Option Obj) : Tr := ⟨Try.prog, fmTry, tmTry, G⟩

/-- auklet/aukletlaw17.StreamsApart -/
theorem chk24 (G : Nat → Option Obj) : chkFunc (trTry G) a24 Try.f8 = true := by kernel_rfl
/-- auklet/aukletlaw17.short -/
theorem chk25 (G : Nat → Option Obj) : chkFunc (trTry G) a25 Try.f27 = true := by kernel_rfl
/-- auklet/streams.New -/
theorem chk26 (G : Nat → Option Obj) : chkFunc (trTry G) a26 Try.f28 = true := by kernel_rfl
/-- (*auklet/streams.Streams).Print -/
theorem chk28 (G : Nat → Option Obj) : chkFunc (trTry G) a28 Try.f29 = true := by kernel_rfl
/-- (auklet/aukletlaw17.Act).text -/
theorem chk27 (G : Nat → Option Obj) : chkFunc (trTry G) a27 Try.f30 = true := by kernel_rfl
/-- (*auklet/streams.Streams).Write -/
theorem chk29 (G : Nat → Option Obj) : chkFunc (trTry G) a29 Try.f31 = true := by kernel_rfl
/-- (*auklet/streams.Streams).Read -/
theorem chk30 (G : Nat → Option Obj) : chkFunc (trTry G) a30 Try.f32 = true := by kernel_rfl
/-- (*auklet/streams.Streams).Out -/
theorem chk31 (G : Nat → Option Obj) : chkFunc (trTry G) a31 Try.f33 = true := by kernel_rfl
/-- (*auklet/streams.Streams).Files -/
theorem chk32 (G : Nat → Option Obj) : chkFunc (trTry G) a32 Try.f34 = true := by kernel_rfl
/-- auklet/aukletlaw17.lives -/
theorem chk33 (G : Nat → Option Obj) : chkFunc (trTry G) a33 Try.f35 = true := by kernel_rfl
/-- (*auklet/streams.Streams).file -/
theorem chk49 (G : Nat → Option Obj) : chkFunc (trTry G) a49 Try.f52 = true := by kernel_rfl
/-- (*auklet/streams.Streams).room -/
theorem chk50 (G : Nat → Option Obj) : chkFunc (trTry G) a50 Try.f53 = true := by kernel_rfl
/-- (*strings.Builder).WriteString -/
theorem chk51 (G : Nat → Option Obj) : chkFunc (trTry G) a51 Try.f54 = true := by kernel_rfl
/-- slices.IndexFunc[[]*auklet/streams.sink,*auklet/streams.sink] -/
theorem chk53 (G : Nat → Option Obj) : chkFunc (trTry G) a53 Try.f55 = true := by kernel_rfl
/-- (*auklet/streams.Streams).Write$1 -/
theorem chk52 (G : Nat → Option Obj) : chkFunc (trTry G) a52 Try.f56 = true := by kernel_rfl
/-- (*auklet/streams.source).next -/
theorem chk54 (G : Nat → Option Obj) : chkFunc (trTry G) a54 Try.f57 = true := by kernel_rfl
/-- auklet/aukletref17.Same -/
theorem chk56 (G : Nat → Option Obj) : chkFunc (trTry G) a56 Try.f59 = true := by kernel_rfl
/-- slices.IndexFunc[[]*auklet/streams.source,*auklet/streams.source] -/
theorem chk78 (G : Nat → Option Obj) : chkFunc (trTry G) a78 Try.f80 = true := by kernel_rfl
/-- (*auklet/streams.Streams).file$1 -/
theorem chk77 (G : Nat → Option Obj) : chkFunc (trTry G) a77 Try.f81 = true := by kernel_rfl
/-- auklet/fields.Next -/
theorem chk80 (G : Nat → Option Obj) : chkFunc (trTry G) a80 Try.f83 = true := by kernel_rfl
/-- strings.Cut -/
theorem chk95 (G : Nat → Option Obj) : chkFunc (trTry G) a95 Try.f98 = true := by kernel_rfl
/-- internal/stringslite.Cut -/
theorem chk104 (G : Nat → Option Obj) : chkFunc (trTry G) a104 Try.f107 = true := by kernel_rfl

theorem fsOKTry (G : Nat → Option Obj) : FsOK (trTry G) fsT := by
  intro f F h
  unfold fsT at h
  split at h
  · cases h; exact ⟨Try.f8, Try.func8, chk24 G, by kernel_rfl⟩
  · cases h; exact ⟨Try.f27, Try.func27, chk25 G, by kernel_rfl⟩
  · cases h; exact ⟨Try.f28, Try.func28, chk26 G, by kernel_rfl⟩
  · cases h; exact ⟨Try.f29, Try.func29, chk28 G, by kernel_rfl⟩
  · cases h; exact ⟨Try.f30, Try.func30, chk27 G, by kernel_rfl⟩
  · cases h; exact ⟨Try.f31, Try.func31, chk29 G, by kernel_rfl⟩
  · cases h; exact ⟨Try.f32, Try.func32, chk30 G, by kernel_rfl⟩
  · cases h; exact ⟨Try.f33, Try.func33, chk31 G, by kernel_rfl⟩
  · cases h; exact ⟨Try.f34, Try.func34, chk32 G, by kernel_rfl⟩
  · cases h; exact ⟨Try.f35, Try.func35, chk33 G, by kernel_rfl⟩
  · cases h; exact ⟨Try.f52, Try.func52, chk49 G, by kernel_rfl⟩
  · cases h; exact ⟨Try.f53, Try.func53, chk50 G, by kernel_rfl⟩
  · cases h; exact ⟨Try.f54, Try.func54, chk51 G, by kernel_rfl⟩
  · cases h; exact ⟨Try.f55, Try.func55, chk53 G, by kernel_rfl⟩
  · cases h; exact ⟨Try.f56, Try.func56, chk52 G, by kernel_rfl⟩
  · cases h; exact ⟨Try.f57, Try.func57, chk54 G, by kernel_rfl⟩
  · cases h; exact ⟨Try.f59, Try.func59, chk56 G, by kernel_rfl⟩
  · cases h; exact ⟨Try.f80, Try.func80, chk78 G, by kernel_rfl⟩
  · cases h; exact ⟨Try.f81, Try.func81, chk77 G, by kernel_rfl⟩
  · cases h; exact ⟨Try.f83, Try.func83, chk80 G, by kernel_rfl⟩
  · cases h; exact ⟨Try.f98, Try.func98, chk95 G, by kernel_rfl⟩
  · cases h; exact ⟨Try.f107, Try.func107, chk104 G, by kernel_rfl⟩
  · cases h

end Go.Proofs.Ytfcgnpphabplbaa

