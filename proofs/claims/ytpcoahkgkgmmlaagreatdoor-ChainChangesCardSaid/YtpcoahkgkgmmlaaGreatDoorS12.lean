/- Part 12 of the proofs. -/
import Derived.Test.YtpcoahkgkgmmlaaGreatDoorProg
import Derived.KernelRfl
import Derived.Test.YtpcoahkgkgmmlaaGreatDoorS09
set_option linter.all false
set_option linter.deprecated false
set_option maxHeartbeats 100000000
namespace Go.Proofs
open Go Go.Ab Tryz
abbrev yA (n:Nat) (a:Nat) (b:Bool) (c:Option Nat) (d:Option (Nat×Nat)) (e:Option IntKind) (f:Bool) (g:Nat) (z:List Value):Prop:=aB prog n=some a∧lk prog n=some b∧U4 prog n=c∧sS prog n=d∧pS prog n=e∧lL prog n=f∧W1 prog n=some g∧F6 prog n=some z
abbrev yB (n i o a b:Nat) (c:Bool):Prop:=xF prog n i=some o∧pX prog n i=some (a,b,c)
abbrev yC (n:Nat):Prop:=L4 prog n
theorem yk {p:Prop} (h:p:=by (repeat' refine And.intro ?_ ?_)<;>kernel_rfl):p:=h
@[simp] theorem Tryz.y3:yA 3 1 false none none (some .i64) false 8 [.int .i64 0]∧yA 4 1 false none none none true 1 [.bool false]∧yA 5 1 false none none (some .u8) false 1 [.int .u8 0]∧yA 22 1 false (some 47) none none false 24 [.slice none 0 0]:=yk
@[simp] theorem Tryz.y24:yA 24 1 true none none none false 24 [.slice none 0 0]∧yB 24 0 0 0 1 false∧u5 prog 24=some [(0,1)]∧yA 25 1 false (some 3) none none false 24 [.slice none 0 0]∧yA 26 1 false (some 78) none none false 24 [.slice none 0 0]∧yA 28 4 true none none none false 80 [.slice none 0 0,.slice none 0 0,.int .i64 0,.slice none 0 0]∧yB 28 0 0 0 1 true∧yB 28 1 1 1 1 false∧yB 28 2 2 2 1 false∧yB 28 3 3 3 1 false∧u5 prog 28=some [(0,1),(1,1),(2,1),(3,1)]:=yk
@[simp] theorem Tryz.y33:yA 33 1 false (some 38) none none false 24 [.slice none 0 0]∧yA 38 2 true none none none false 16 [.int .i64 0,.int .i64 0]∧yB 38 0 0 0 1 false∧yB 38 1 1 1 1 false∧E6 prog 38=some [.int .i64,.int .i64]∧u5 prog 38=some [(0,1),(1,1)]∧yA 44 1 false (some 62) none none false 24 [.slice none 0 0]∧yA 45 1 false (some 57) none none false 24 [.slice none 0 0]:=yk
@[simp] theorem Tryz.y47:yA 47 5 true none none none false 72 [.int .i64 0,.int .i64 0,.int .u8 0,.slice none 0 0,.slice none 0 0]∧yB 47 0 0 0 1 false∧yB 47 1 1 1 1 false∧yB 47 2 2 2 1 false∧yB 47 3 3 3 1 false∧yB 47 4 4 4 1 false∧u5 prog 47=some [(0,1),(1,1),(2,1),(3,1),(4,1)]∧yA 51 2 true none none none false 16 [.int .i64 0,.int .i64 0]∧yB 51 0 0 0 1 false∧yB 51 1 1 1 1 false∧E6 prog 51=some [.int .i64,.int .i64]∧u5 prog 51=some [(0,1),(1,1)]∧yA 57 3 true none none none false 24 [.int .i64 0,.int .i64 0,.int .i64 0]∧yB 57 0 0 0 1 false∧yB 57 1 1 1 1 false∧yB 57 2 2 2 1 false∧E6 prog 57=some [.int .i64,.int .i64,.int .i64]∧u5 prog 57=some [(0,1),(1,1),(2,1)]∧yA 60 1 false none none none false 8 [.map none]∧cD prog 60=some (3,4):=yk
@[simp] theorem Tryz.y62:yA 62 2 true none none none false 16 [.int .i64 0,.int .i64 0]∧yB 62 0 0 0 1 false∧yB 62 1 1 1 1 false∧E6 prog 62=some [.int .i64,.int .i64]∧u5 prog 62=some [(0,1),(1,1)]∧yA 66 2 true none none none false 16 [.int .i64 0,.int .i64 0]∧yB 66 0 0 0 1 false∧yB 66 1 1 1 1 false∧E6 prog 66=some [.int .i64,.int .i64]∧u5 prog 66=some [(0,1),(1,1)]∧yA 75 1 false (some 28) none none false 24 [.slice none 0 0]∧yA 76 1 false (some 80) none none false 24 [.slice none 0 0]:=yk
@[simp] theorem Tryz.y78:yA 78 3 true none none none false 40 [.slice none 0 0,.int .i64 0,.int .i64 0]∧yB 78 0 0 0 1 false∧yB 78 1 1 1 2 true∧u5 prog 78=some [(0,1),(1,2)]∧yA 80 3 true none none none false 24 [.int .i64 0,.int .i64 0,.bool false]∧yB 80 0 0 0 1 false∧yB 80 1 1 1 1 false∧yB 80 2 2 2 1 false∧E6 prog 80=some [.int .i64,.int .i64,.bool]∧u5 prog 80=some [(0,1),(1,1),(2,1)]∧yA 96 1 false none none none false 8 [.pointer none]∧yA 109 1 false none none none false 8 [.pointer none]:=yk
@[simp] theorem Tryz.y130:yA 130 1 false none none none false 8 [.map none]∧cD prog 130=some (3,3)∧yA 131 1 false none none none false 8 [.map none]∧cD prog 131=some (3,47)∧yA 133 6 true none none none false 96 [.slice none 0 0,.slice none 0 0,.int .i64 0,.slice none 0 0,.map none,.map none]∧yB 133 0 0 0 4 true∧yB 133 1 4 4 1 false∧yB 133 2 5 5 1 false∧u5 prog 133=some [(0,4),(4,1),(5,1)]∧yA 153 1 false none none none false 8 [.nilFunc]:=yk
@[simp] theorem Tryz.y154:yA 154 1 true none none none false 8 [.nilFunc]∧yB 154 0 0 0 1 false∧u5 prog 154=some [(0,1)]∧yA 155 3 true none (some (3,154)) none false 24 [.nilFunc,.nilFunc,.nilFunc]∧u5 prog 155=some [(0,1),(1,1),(2,1)]∧eqArrOk.tarr' prog 155=some (3,154)∧E6 prog 155=none∧yA 157 1 false none none none false 8 [.map none]∧cD prog 157=some (38,4)∧yA 170 2 true none none none false 48 [.slice none 0 0,.slice none 0 0]∧yB 170 0 0 0 1 true∧yB 170 1 1 1 1 false∧u5 prog 170=some [(0,1),(1,1)]:=yk
@[simp] theorem Tryz.y171:yA 171 1 false none none none false 8 [.nilFunc]∧yA 172 1 true none none none false 8 [.nilFunc]∧yB 172 0 0 0 1 false∧u5 prog 172=some [(0,1)]∧yA 173 4 true none (some (4,172)) none false 32 [.nilFunc,.nilFunc,.nilFunc,.nilFunc]∧u5 prog 173=some [(0,1),(1,1),(2,1),(3,1)]∧eqArrOk.tarr' prog 173=some (4,172)∧E6 prog 173=none∧yA 185 1 false (some 5) none none false 24 [.slice none 0 0]:=yk
@[simp] theorem Tryz.y196:yA 196 1 false none none none false 8 [.nilFunc]∧yA 199 1 false none none (some .u64) false 8 [.int .u64 0]∧yA 214 1 false none none none false 8 [.nilFunc]∧aB prog 216=some 4∧lk prog 216=some true∧U4 prog 216=none∧sS prog 216=none∧pS prog 216=none∧lL prog 216=false∧W1 prog 216=some 40∧yB 216 0 0 0 1 false∧yB 216 1 1 1 1 false∧yB 216 2 2 2 1 false∧yB 216 3 3 3 1 false∧u5 prog 216=some [(0,1),(1,1),(2,1),(3,1)]:=yk
@[simp] theorem Tryz.y220:yA 220 3 true none none none false 24 [.int .i64 0,.int .i64 0,.int .i64 0]∧yB 220 0 0 0 3 true∧E6 prog 220=none∧nm prog 220=some [.int .i64,.int .i64,.int .i64]∧u5 prog 220=some [(0,3)]∧aB prog 240=some 12∧lk prog 240=some true∧U4 prog 240=none∧sS prog 240=some (3,216)∧pS prog 240=none∧lL prog 240=false∧W1 prog 240=some 120∧u5 prog 240=some [(0,4),(4,4),(8,4)]∧eqArrOk.tarr' prog 240=some (3,216)∧E6 prog 240=none:=yk
@[simp] theorem Em:yC 8∧yC 10∧yC 11∧yC 12∧yC 13∧yC 14∧yC 15∧yC 16:=⟨call8,call10,call11,call12,call13,call14,call15,call16⟩
@[simp] theorem El:yC 17∧yC 18∧yC 19∧yC 22∧yC 23∧yC 24∧yC 25∧yC 26:=⟨call17,call18,call19,call22,call23,call24,call25,call26⟩
@[simp] theorem Ek:yC 27∧yC 37∧yC 38∧yC 39∧yC 40∧yC 41∧yC 42∧yC 43:=⟨call27,call37,call38,call39,call40,call41,call42,call43⟩
@[simp] theorem Ej:yC 44∧yC 45∧yC 46∧yC 47∧yC 48∧yC 49∧yC 50∧yC 51:=⟨call44,call45,call46,call47,call48,call49,call50,call51⟩
@[simp] theorem Ei:yC 52∧yC 53∧yC 54∧yC 59∧yC 60∧yC 61∧yC 62∧yC 63:=⟨call52,call53,call54,call59,call60,call61,call62,call63⟩
@[simp] theorem Eh:yC 64∧yC 65∧yC 66∧yC 67∧yC 68∧yC 69∧yC 70∧yC 71:=⟨call64,call65,call66,call67,call68,call69,call70,call71⟩
@[simp] theorem Eg:yC 80∧yC 81∧yC 82∧yC 83∧yC 84∧yC 85∧yC 87∧yC 88:=⟨call80,call81,call82,call83,call84,call85,call87,call88⟩
@[simp] theorem Ef:yC 89∧yC 90∧yC 91∧yC 92∧yC 93∧yC 94∧yC 95∧yC 96:=⟨call89,call90,call91,call92,call93,call94,call95,call96⟩
@[simp] theorem Ee:yC 97∧yC 99∧yC 100∧yC 101∧yC 102∧yC 103∧yC 104∧yC 105:=⟨call97,call99,call100,call101,call102,call103,call104,call105⟩
@[simp] theorem Ed:yC 106∧yC 107∧yC 108∧yC 109∧yC 110∧yC 111∧yC 112∧yC 113:=⟨call106,call107,call108,call109,call110,call111,call112,call113⟩
@[simp] theorem DJ:yC 114∧yC 115∧yC 116∧yC 117∧yC 120∧yC 121∧yC 122∧yC 123:=⟨call114,call115,call116,call117,call120,call121,call122,call123⟩
@[simp] theorem DI:yC 124∧yC 125∧yC 128∧yC 129∧yC 130∧yC 131∧yC 132∧yC 133:=⟨call124,call125,call128,call129,call130,call131,call132,call133⟩
@[simp] theorem DH:yC 134∧yC 135∧yC 137∧yC 138∧yC 139∧yC 141∧yC 142∧yC 143:=⟨call134,call135,call137,call138,call139,call141,call142,call143⟩
@[simp] theorem DG:yC 144∧yC 145∧yC 146∧yC 147∧yC 148∧yC 149∧yC 168∧yC 169:=⟨call144,call145,call146,call147,call148,call149,call168,call169⟩
@[simp] theorem DF:yC 170∧yC 172∧yC 181∧yC 202∧yC 203∧yC 204∧yC 205∧yC 206:=⟨call170,call172,call181,call202,call203,call204,call205,call206⟩
@[simp] theorem DE:yC 207∧yC 208∧yC 209∧yC 210∧yC 211∧yC 212:=⟨call207,call208,call209,call210,call211,call212⟩
@[simp] theorem Tryz.yx3:B9 prog 3=some [.int .i64]:=by kernel_rfl
@[simp] theorem Tryz.yx38:B9 prog 38=some [.int .i64,.int .i64]:=by kernel_rfl
@[simp] theorem Tryz.yxx3:zX prog 3=some [.int .i64 0]:=by kernel_rfl
@[simp] theorem Tryz.yx4:zX prog 4=some [.bool false]:=by kernel_rfl
@[simp] theorem Tryz.yx47:zX prog 47=some [.int .i64 0,.int .i64 0,.int .u8 0,.slice none 0 0,.slice none 0 0]:=by kernel_rfl
end Go.Proofs
