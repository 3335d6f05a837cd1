/- Part 11 of the proofs. -/
import Derived.Test.YtpcoahkgkgmmlaaGreatDoorProg
import Derived.KernelRfl
import Derived.Test.YtpcoahkgkgmmlaaGreatDoorR08
set_option linter.all false
set_option linter.deprecated false
set_option maxHeartbeats 100000000
namespace Go.Proofs
open Go Go.Ab Tryz
abbrev yA (n:Nat) (a:Nat) (b:Bool) (c:Option Nat) (d:Option (Nat×Nat)) (e:Option IntKind) (f:Bool) (g:Nat) (z:List Value):Prop:=X1 prog n=some a∧jX prog n=some b∧Q7 prog n=c∧rH prog n=d∧oS prog n=e∧kD prog n=f∧R9 prog n=some g∧D6 prog n=some z
abbrev yB (n i o a b:Nat) (c:Bool):Prop:=wx prog n i=some o∧oV prog n i=some (a,b,c)
abbrev yC (n:Nat):Prop:=I9 prog n
theorem yk {p:Prop} (h:p:=by (repeat' refine And.intro ?_ ?_)<;>kernel_rfl):p:=h
@[simp] theorem Tryz.y3:yA 3 1 false none none (some .i64) false 8 [.int .i64 0]∧yA 4 1 false none none none true 1 [.bool false]∧yA 5 1 false none none (some .u8) false 1 [.int .u8 0]∧yA 22 1 false (some 47) none none false 24 [.slice none 0 0]:=yk
@[simp] theorem Tryz.y24:yA 24 1 true none none none false 24 [.slice none 0 0]∧yB 24 0 0 0 1 false∧p5 prog 24=some [(0,1)]∧yA 25 1 false (some 3) none none false 24 [.slice none 0 0]∧yA 26 1 false (some 78) none none false 24 [.slice none 0 0]∧yA 28 4 true none none none false 80 [.slice none 0 0,.slice none 0 0,.int .i64 0,.slice none 0 0]∧yB 28 0 0 0 1 true∧yB 28 1 1 1 1 false∧yB 28 2 2 2 1 false∧yB 28 3 3 3 1 false∧p5 prog 28=some [(0,1),(1,1),(2,1),(3,1)]:=yk
@[simp] theorem Tryz.y29:yA 29 1 false none none (some .u16) false 2 [.int .u16 0]∧yA 30 1 false (some 119) none none false 24 [.slice none 0 0]∧yA 33 1 false (some 38) none none false 24 [.slice none 0 0]∧yA 38 2 true none none none false 16 [.int .i64 0,.int .i64 0]∧yB 38 0 0 0 1 false∧yB 38 1 1 1 1 false∧B3 prog 38=some [.int .i64,.int .i64]∧p5 prog 38=some [(0,1),(1,1)]:=yk
@[simp] theorem Tryz.y44:yA 44 1 false (some 62) none none false 24 [.slice none 0 0]∧yA 45 1 false (some 57) none none false 24 [.slice none 0 0]∧yA 47 5 true none none none false 72 [.int .i64 0,.int .i64 0,.int .u8 0,.slice none 0 0,.slice none 0 0]∧yB 47 0 0 0 1 false∧yB 47 1 1 1 1 false∧yB 47 2 2 2 1 false∧yB 47 3 3 3 1 false∧yB 47 4 4 4 1 false∧p5 prog 47=some [(0,1),(1,1),(2,1),(3,1),(4,1)]∧yA 51 2 true none none none false 16 [.int .i64 0,.int .i64 0]∧yB 51 0 0 0 1 false∧yB 51 1 1 1 1 false∧B3 prog 51=some [.int .i64,.int .i64]∧p5 prog 51=some [(0,1),(1,1)]:=yk
@[simp] theorem Tryz.y57:yA 57 3 true none none none false 24 [.int .i64 0,.int .i64 0,.int .i64 0]∧yB 57 0 0 0 1 false∧yB 57 1 1 1 1 false∧yB 57 2 2 2 1 false∧B3 prog 57=some [.int .i64,.int .i64,.int .i64]∧p5 prog 57=some [(0,1),(1,1),(2,1)]∧yA 60 1 false none none none false 8 [.map none]∧bA prog 60=some (3,4)∧yA 62 2 true none none none false 16 [.int .i64 0,.int .i64 0]∧yB 62 0 0 0 1 false∧yB 62 1 1 1 1 false∧B3 prog 62=some [.int .i64,.int .i64]∧p5 prog 62=some [(0,1),(1,1)]∧yA 66 2 true none none none false 16 [.int .i64 0,.int .i64 0]∧yB 66 0 0 0 1 false∧yB 66 1 1 1 1 false∧B3 prog 66=some [.int .i64,.int .i64]∧p5 prog 66=some [(0,1),(1,1)]:=yk
@[simp] theorem Tryz.y76:yA 76 1 false (some 80) none none false 24 [.slice none 0 0]∧yA 78 3 true none none none false 40 [.slice none 0 0,.int .i64 0,.int .i64 0]∧yB 78 0 0 0 1 false∧yB 78 1 1 1 2 true∧p5 prog 78=some [(0,1),(1,2)]∧yA 80 3 true none none none false 24 [.int .i64 0,.int .i64 0,.bool false]∧yB 80 0 0 0 1 false∧yB 80 1 1 1 1 false∧yB 80 2 2 2 1 false∧B3 prog 80=some [.int .i64,.int .i64,.bool]∧p5 prog 80=some [(0,1),(1,1),(2,1)]∧yA 96 1 false none none none false 8 [.pointer none]:=yk
@[simp] theorem Tryz.y109:yA 109 1 false none none none false 8 [.pointer none]∧yA 119 1 false none none (some .u32) false 4 [.int .u32 0]∧yA 130 1 false none none none false 8 [.map none]∧bA prog 130=some (3,3)∧yA 131 1 false none none none false 8 [.map none]∧bA prog 131=some (3,47):=yk
@[simp] theorem Tryz.y133:yA 133 6 true none none none false 96 [.slice none 0 0,.slice none 0 0,.int .i64 0,.slice none 0 0,.map none,.map none]∧yB 133 0 0 0 4 true∧yB 133 1 4 4 1 false∧yB 133 2 5 5 1 false∧p5 prog 133=some [(0,4),(4,1),(5,1)]∧yA 153 1 false none none none false 8 [.nilFunc]∧yA 154 1 true none none none false 8 [.nilFunc]∧yB 154 0 0 0 1 false∧p5 prog 154=some [(0,1)]∧yA 155 3 true none (some (3,154)) none false 24 [.nilFunc,.nilFunc,.nilFunc]∧p5 prog 155=some [(0,1),(1,1),(2,1)]∧eqArrOk.tarr' prog 155=some (3,154)∧B3 prog 155=none:=yk
@[simp] theorem Tryz.y157:yA 157 1 false none none none false 8 [.map none]∧bA prog 157=some (38,4)∧yA 170 2 true none none none false 48 [.slice none 0 0,.slice none 0 0]∧yB 170 0 0 0 1 true∧yB 170 1 1 1 1 false∧p5 prog 170=some [(0,1),(1,1)]∧yA 171 1 false none none none false 8 [.nilFunc]∧yA 172 1 true none none none false 8 [.nilFunc]∧yB 172 0 0 0 1 false∧p5 prog 172=some [(0,1)]:=yk
@[simp] theorem Tryz.y173:yA 173 4 true none (some (4,172)) none false 32 [.nilFunc,.nilFunc,.nilFunc,.nilFunc]∧p5 prog 173=some [(0,1),(1,1),(2,1),(3,1)]∧eqArrOk.tarr' prog 173=some (4,172)∧B3 prog 173=none∧yA 185 1 false (some 5) none none false 24 [.slice none 0 0]∧yA 196 1 false none none none false 8 [.nilFunc]∧yA 199 1 false none none (some .u64) false 8 [.int .u64 0]:=yk
@[simp] theorem Tryz.y214:yA 214 1 false none none none false 8 [.nilFunc]∧X1 prog 216=some 4∧jX prog 216=some true∧Q7 prog 216=none∧rH prog 216=none∧oS prog 216=none∧kD prog 216=false∧R9 prog 216=some 40∧yB 216 0 0 0 1 false∧yB 216 1 1 1 1 false∧yB 216 2 2 2 1 false∧yB 216 3 3 3 1 false∧p5 prog 216=some [(0,1),(1,1),(2,1),(3,1)]∧yA 220 3 true none none none false 24 [.int .i64 0,.int .i64 0,.int .i64 0]∧yB 220 0 0 0 3 true∧B3 prog 220=none∧mB prog 220=some [.int .i64,.int .i64,.int .i64]∧p5 prog 220=some [(0,3)]∧X1 prog 240=some 12∧jX prog 240=some true∧Q7 prog 240=none∧rH prog 240=some (3,216)∧oS prog 240=none∧kD prog 240=false∧R9 prog 240=some 120∧p5 prog 240=some [(0,4),(4,4),(8,4)]∧eqArrOk.tarr' prog 240=some (3,216)∧B3 prog 240=none:=yk
@[simp] theorem Cm:yC 5∧yC 6∧yC 7∧yC 8∧yC 9∧yC 10∧yC 11∧yC 12:=⟨call5,call6,call7,call8,call9,call10,call11,call12⟩
@[simp] theorem Cl:yC 13∧yC 14∧yC 15∧yC 16∧yC 17∧yC 18∧yC 19∧yC 20:=⟨call13,call14,call15,call16,call17,call18,call19,call20⟩
@[simp] theorem Ck:yC 21∧yC 22∧yC 24∧yC 27∧yC 28∧yC 29∧yC 30∧yC 31:=⟨call21,call22,call24,call27,call28,call29,call30,call31⟩
@[simp] theorem Cj:yC 32∧yC 33∧yC 34∧yC 35∧yC 36∧yC 37∧yC 38∧yC 39:=⟨call32,call33,call34,call35,call36,call37,call38,call39⟩
@[simp] theorem Ci:yC 40∧yC 41∧yC 42∧yC 43∧yC 44∧yC 45∧yC 46∧yC 47:=⟨call40,call41,call42,call43,call44,call45,call46,call47⟩
@[simp] theorem Ch:yC 48∧yC 49∧yC 50∧yC 51∧yC 52∧yC 53∧yC 54∧yC 55:=⟨call48,call49,call50,call51,call52,call53,call54,call55⟩
@[simp] theorem Cg:yC 56∧yC 57∧yC 58∧yC 59∧yC 63∧yC 67∧yC 68∧yC 69:=⟨call56,call57,call58,call59,call63,call67,call68,call69⟩
@[simp] theorem Cf:yC 72∧yC 73∧yC 74∧yC 75∧yC 76∧yC 77∧yC 78∧yC 79:=⟨call72,call73,call74,call75,call76,call77,call78,call79⟩
@[simp] theorem Ce:yC 80∧yC 81∧yC 82∧yC 83∧yC 84∧yC 85∧yC 87∧yC 88:=⟨call80,call81,call82,call83,call84,call85,call87,call88⟩
@[simp] theorem Cd:yC 89∧yC 90∧yC 91∧yC 92∧yC 93∧yC 94∧yC 95∧yC 96:=⟨call89,call90,call91,call92,call93,call94,call95,call96⟩
@[simp] theorem BW:yC 97∧yC 99∧yC 100∧yC 101∧yC 102∧yC 103∧yC 104∧yC 105:=⟨call97,call99,call100,call101,call102,call103,call104,call105⟩
@[simp] theorem BV:yC 106∧yC 107∧yC 108∧yC 109∧yC 113∧yC 114∧yC 115∧yC 118:=⟨call106,call107,call108,call109,call113,call114,call115,call118⟩
@[simp] theorem BU:yC 119∧yC 120∧yC 121∧yC 122∧yC 123∧yC 124∧yC 125∧yC 128:=⟨call119,call120,call121,call122,call123,call124,call125,call128⟩
@[simp] theorem BT:yC 129∧yC 130∧yC 131∧yC 132∧yC 133∧yC 134∧yC 135∧yC 137:=⟨call129,call130,call131,call132,call133,call134,call135,call137⟩
@[simp] theorem BS:yC 138∧yC 139∧yC 141∧yC 142∧yC 143∧yC 144∧yC 145∧yC 146:=⟨call138,call139,call141,call142,call143,call144,call145,call146⟩
@[simp] theorem BR:yC 148∧yC 149∧yC 168∧yC 169∧yC 170∧yC 172∧yC 181∧yC 202:=⟨call148,call149,call168,call169,call170,call172,call181,call202⟩
@[simp] theorem BQ:yC 203∧yC 204∧yC 205∧yC 206∧yC 207∧yC 208∧yC 209∧yC 210:=⟨call203,call204,call205,call206,call207,call208,call209,call210⟩
@[simp] theorem BP:yC 211∧yC 212:=⟨call211,call212⟩
@[simp] theorem Tryz.yx3:x5 prog 3=some [.int .i64]:=by kernel_rfl
@[simp] theorem Tryz.yx38:x5 prog 38=some [.int .i64,.int .i64]:=by kernel_rfl
@[simp] theorem Tryz.yxx3:yp prog 3=some [.int .i64 0]:=by kernel_rfl
@[simp] theorem Tryz.yx4:yp prog 4=some [.bool false]:=by kernel_rfl
@[simp] theorem Tryz.yx47:yp prog 47=some [.int .i64 0,.int .i64 0,.int .u8 0,.slice none 0 0,.slice none 0 0]:=by kernel_rfl
end Go.Proofs
