/- Part 13 of the proofs: laws and walks that hold without conditions beyond those that each theorem names. -/
import Derived.Test.YtciiddejfhbncaaGreatDoorProg
import Derived.KernelRfl
import Derived.Test.YtciiddejfhbncaaGreatDoorP11
set_option linter.all false
set_option linter.deprecated false
namespace Go.Proofs
open Go Go.Ab
@[simp] theorem Tryz.y3:tsz Tryz.prog 3=some 1∧tag Tryz.prog 3=some false∧telem Tryz.prog 3=none∧tarr Tryz.prog 3=none∧tint Tryz.prog 3=some .i64∧tbool Tryz.prog 3=false∧tbytes Tryz.prog 3=some 8∧tzero Tryz.prog 3=some [.int .i64 0]:=by (repeat' refine And.intro ?_ ?_)<;>kernel_rfl
@[simp] theorem Tryz.y4:tsz Tryz.prog 4=some 1∧tag Tryz.prog 4=some false∧telem Tryz.prog 4=none∧tarr Tryz.prog 4=none∧tint Tryz.prog 4=none∧tbool Tryz.prog 4=true∧tbytes Tryz.prog 4=some 1∧tzero Tryz.prog 4=some [.bool false]:=by (repeat' refine And.intro ?_ ?_)<;>kernel_rfl
@[simp] theorem Tryz.y5:tsz Tryz.prog 5=some 1∧tag Tryz.prog 5=some false∧telem Tryz.prog 5=none∧tarr Tryz.prog 5=none∧tint Tryz.prog 5=some .u8∧tbool Tryz.prog 5=false∧tbytes Tryz.prog 5=some 1∧tzero Tryz.prog 5=some [.int .u8 0]:=by (repeat' refine And.intro ?_ ?_)<;>kernel_rfl
@[simp] theorem Tryz.y22:tsz Tryz.prog 22=some 1∧tag Tryz.prog 22=some false∧telem Tryz.prog 22=some 51∧tarr Tryz.prog 22=none∧tint Tryz.prog 22=none∧tbool Tryz.prog 22=false∧tbytes Tryz.prog 22=some 24∧tzero Tryz.prog 22=some [.slice none 0 0]:=by (repeat' refine And.intro ?_ ?_)<;>kernel_rfl
@[simp] theorem Tryz.y24:tsz Tryz.prog 24=some 1∧tag Tryz.prog 24=some true∧telem Tryz.prog 24=none∧tarr Tryz.prog 24=none∧tint Tryz.prog 24=none∧tbool Tryz.prog 24=false∧tbytes Tryz.prog 24=some 24∧tzero Tryz.prog 24=some [.slice none 0 0]∧toff Tryz.prog 24 0=some 0∧tfield Tryz.prog 24 0=some (0,1,false)∧placesOf Tryz.prog 24=some [(0,1)]:=by (repeat' refine And.intro ?_ ?_)<;>kernel_rfl
@[simp] theorem Tryz.y25:tsz Tryz.prog 25=some 1∧tag Tryz.prog 25=some false∧telem Tryz.prog 25=some 3∧tarr Tryz.prog 25=none∧tint Tryz.prog 25=none∧tbool Tryz.prog 25=false∧tbytes Tryz.prog 25=some 24∧tzero Tryz.prog 25=some [.slice none 0 0]:=by (repeat' refine And.intro ?_ ?_)<;>kernel_rfl
@[simp] theorem Tryz.y26:tsz Tryz.prog 26=some 1∧tag Tryz.prog 26=some false∧telem Tryz.prog 26=some 45∧tarr Tryz.prog 26=none∧tint Tryz.prog 26=none∧tbool Tryz.prog 26=false∧tbytes Tryz.prog 26=some 24∧tzero Tryz.prog 26=some [.slice none 0 0]:=by (repeat' refine And.intro ?_ ?_)<;>kernel_rfl
@[simp] theorem Tryz.y28:tsz Tryz.prog 28=some 4∧tag Tryz.prog 28=some true∧telem Tryz.prog 28=none∧tarr Tryz.prog 28=none∧tint Tryz.prog 28=none∧tbool Tryz.prog 28=false∧tbytes Tryz.prog 28=some 80∧tzero Tryz.prog 28=some [.slice none 0 0,.slice none 0 0,.int .i64 0,.slice none 0 0]∧toff Tryz.prog 28 0=some 0∧tfield Tryz.prog 28 0=some (0,1,true)∧toff Tryz.prog 28 1=some 1∧tfield Tryz.prog 28 1=some (1,1,false)∧toff Tryz.prog 28 2=some 2∧tfield Tryz.prog 28 2=some (2,1,false)∧toff Tryz.prog 28 3=some 3∧tfield Tryz.prog 28 3=some (3,1,false)∧placesOf Tryz.prog 28=some [(0,1),(1,1),(2,1),(3,1)]:=by (repeat' refine And.intro ?_ ?_)<;>kernel_rfl
@[simp] theorem Tryz.y29:tsz Tryz.prog 29=some 1∧tag Tryz.prog 29=some false∧telem Tryz.prog 29=some 81∧tarr Tryz.prog 29=none∧tint Tryz.prog 29=none∧tbool Tryz.prog 29=false∧tbytes Tryz.prog 29=some 24∧tzero Tryz.prog 29=some [.slice none 0 0]:=by (repeat' refine And.intro ?_ ?_)<;>kernel_rfl
@[simp] theorem Tryz.y41:tsz Tryz.prog 41=some 1∧tag Tryz.prog 41=some false∧telem Tryz.prog 41=some 47∧tarr Tryz.prog 41=none∧tint Tryz.prog 41=none∧tbool Tryz.prog 41=false∧tbytes Tryz.prog 41=some 24∧tzero Tryz.prog 41=some [.slice none 0 0]:=by (repeat' refine And.intro ?_ ?_)<;>kernel_rfl
@[simp] theorem Tryz.y43:tsz Tryz.prog 43=some 2∧tag Tryz.prog 43=some true∧telem Tryz.prog 43=none∧tarr Tryz.prog 43=none∧tint Tryz.prog 43=none∧tbool Tryz.prog 43=false∧tbytes Tryz.prog 43=some 16∧tzero Tryz.prog 43=some [.int .i64 0,.int .i64 0]∧toff Tryz.prog 43 0=some 0∧tfield Tryz.prog 43 0=some (0,1,false)∧toff Tryz.prog 43 1=some 1∧tfield Tryz.prog 43 1=some (1,1,false)∧eqShape Tryz.prog 43=some [.int .i64,.int .i64]∧placesOf Tryz.prog 43=some [(0,1),(1,1)]:=by (repeat' refine And.intro ?_ ?_)<;>kernel_rfl
@[simp] theorem Tryz.y45:tsz Tryz.prog 45=some 3∧tag Tryz.prog 45=some true∧telem Tryz.prog 45=none∧tarr Tryz.prog 45=none∧tint Tryz.prog 45=none∧tbool Tryz.prog 45=false∧tbytes Tryz.prog 45=some 40∧tzero Tryz.prog 45=some [.slice none 0 0,.int .i64 0,.int .i64 0]∧toff Tryz.prog 45 0=some 0∧tfield Tryz.prog 45 0=some (0,1,false)∧toff Tryz.prog 45 1=some 1∧tfield Tryz.prog 45 1=some (1,2,true)∧placesOf Tryz.prog 45=some [(0,1),(1,2)]:=by (repeat' refine And.intro ?_ ?_)<;>kernel_rfl
@[simp] theorem Tryz.y47:tsz Tryz.prog 47=some 3∧tag Tryz.prog 47=some true∧telem Tryz.prog 47=none∧tarr Tryz.prog 47=none∧tint Tryz.prog 47=none∧tbool Tryz.prog 47=false∧tbytes Tryz.prog 47=some 24∧tzero Tryz.prog 47=some [.int .i64 0,.int .i64 0,.bool false]∧toff Tryz.prog 47 0=some 0∧tfield Tryz.prog 47 0=some (0,1,false)∧toff Tryz.prog 47 1=some 1∧tfield Tryz.prog 47 1=some (1,1,false)∧toff Tryz.prog 47 2=some 2∧tfield Tryz.prog 47 2=some (2,1,false)∧eqShape Tryz.prog 47=some [.int .i64,.int .i64,.bool]∧placesOf Tryz.prog 47=some [(0,1),(1,1),(2,1)]:=by (repeat' refine And.intro ?_ ?_)<;>kernel_rfl
@[simp] theorem Tryz.y48:tsz Tryz.prog 48=some 1∧tag Tryz.prog 48=some false∧telem Tryz.prog 48=some 53∧tarr Tryz.prog 48=none∧tint Tryz.prog 48=none∧tbool Tryz.prog 48=false∧tbytes Tryz.prog 48=some 24∧tzero Tryz.prog 48=some [.slice none 0 0]:=by (repeat' refine And.intro ?_ ?_)<;>kernel_rfl
@[simp] theorem Tryz.y49:tsz Tryz.prog 49=some 1∧tag Tryz.prog 49=some false∧telem Tryz.prog 49=some 55∧tarr Tryz.prog 49=none∧tint Tryz.prog 49=none∧tbool Tryz.prog 49=false∧tbytes Tryz.prog 49=some 24∧tzero Tryz.prog 49=some [.slice none 0 0]:=by (repeat' refine And.intro ?_ ?_)<;>kernel_rfl
@[simp] theorem Tryz.y51:tsz Tryz.prog 51=some 5∧tag Tryz.prog 51=some true∧telem Tryz.prog 51=none∧tarr Tryz.prog 51=none∧tint Tryz.prog 51=none∧tbool Tryz.prog 51=false∧tbytes Tryz.prog 51=some 72∧tzero Tryz.prog 51=some [.int .i64 0,.int .i64 0,.int .u8 0,.slice none 0 0,.slice none 0 0]∧toff Tryz.prog 51 0=some 0∧tfield Tryz.prog 51 0=some (0,1,false)∧toff Tryz.prog 51 1=some 1∧tfield Tryz.prog 51 1=some (1,1,false)∧toff Tryz.prog 51 2=some 2∧tfield Tryz.prog 51 2=some (2,1,false)∧toff Tryz.prog 51 3=some 3∧tfield Tryz.prog 51 3=some (3,1,false)∧toff Tryz.prog 51 4=some 4∧tfield Tryz.prog 51 4=some (4,1,false)∧placesOf Tryz.prog 51=some [(0,1),(1,1),(2,1),(3,1),(4,1)]:=by (repeat' refine And.intro ?_ ?_)<;>kernel_rfl
@[simp] theorem Tryz.y53:tsz Tryz.prog 53=some 2∧tag Tryz.prog 53=some true∧telem Tryz.prog 53=none∧tarr Tryz.prog 53=none∧tint Tryz.prog 53=none∧tbool Tryz.prog 53=false∧tbytes Tryz.prog 53=some 16∧tzero Tryz.prog 53=some [.int .i64 0,.int .i64 0]∧toff Tryz.prog 53 0=some 0∧tfield Tryz.prog 53 0=some (0,1,false)∧toff Tryz.prog 53 1=some 1∧tfield Tryz.prog 53 1=some (1,1,false)∧eqShape Tryz.prog 53=some [.int .i64,.int .i64]∧placesOf Tryz.prog 53=some [(0,1),(1,1)]:=by (repeat' refine And.intro ?_ ?_)<;>kernel_rfl
@[simp] theorem Tryz.y55:tsz Tryz.prog 55=some 3∧tag Tryz.prog 55=some true∧telem Tryz.prog 55=none∧tarr Tryz.prog 55=none∧tint Tryz.prog 55=none∧tbool Tryz.prog 55=false∧tbytes Tryz.prog 55=some 24∧tzero Tryz.prog 55=some [.int .i64 0,.int .i64 0,.int .i64 0]∧toff Tryz.prog 55 0=some 0∧tfield Tryz.prog 55 0=some (0,1,false)∧toff Tryz.prog 55 1=some 1∧tfield Tryz.prog 55 1=some (1,1,false)∧toff Tryz.prog 55 2=some 2∧tfield Tryz.prog 55 2=some (2,1,false)∧eqShape Tryz.prog 55=some [.int .i64,.int .i64,.int .i64]∧placesOf Tryz.prog 55=some [(0,1),(1,1),(2,1)]:=by (repeat' refine And.intro ?_ ?_)<;>kernel_rfl
@[simp] theorem Tryz.y81:tsz Tryz.prog 81=some 2∧tag Tryz.prog 81=some true∧telem Tryz.prog 81=none∧tarr Tryz.prog 81=none∧tint Tryz.prog 81=none∧tbool Tryz.prog 81=false∧tbytes Tryz.prog 81=some 16∧tzero Tryz.prog 81=some [.int .i64 0,.int .i64 0]∧toff Tryz.prog 81 0=some 0∧tfield Tryz.prog 81 0=some (0,1,false)∧toff Tryz.prog 81 1=some 1∧tfield Tryz.prog 81 1=some (1,1,false)∧eqShape Tryz.prog 81=some [.int .i64,.int .i64]∧placesOf Tryz.prog 81=some [(0,1),(1,1)]:=by (repeat' refine And.intro ?_ ?_)<;>kernel_rfl
@[simp] theorem Tryz.y96:tsz Tryz.prog 96=some 2∧tag Tryz.prog 96=some true∧telem Tryz.prog 96=none∧tarr Tryz.prog 96=none∧tint Tryz.prog 96=none∧tbool Tryz.prog 96=false∧tbytes Tryz.prog 96=some 16∧tzero Tryz.prog 96=some [.int .i64 0,.int .i64 0]∧toff Tryz.prog 96 0=some 0∧tfield Tryz.prog 96 0=some (0,1,false)∧toff Tryz.prog 96 1=some 1∧tfield Tryz.prog 96 1=some (1,1,false)∧eqShape Tryz.prog 96=some [.int .i64,.int .i64]∧placesOf Tryz.prog 96=some [(0,1),(1,1)]:=by (repeat' refine And.intro ?_ ?_)<;>kernel_rfl
@[simp] theorem Tryz.y103:tsz Tryz.prog 103=some 1∧tag Tryz.prog 103=some false∧telem Tryz.prog 103=none∧tarr Tryz.prog 103=none∧tint Tryz.prog 103=none∧tbool Tryz.prog 103=false∧tbytes Tryz.prog 103=some 8∧tzero Tryz.prog 103=some [.map none]∧tmap Tryz.prog 103=some (3,4):=by (repeat' refine And.intro ?_ ?_)<;>kernel_rfl
@[simp] theorem Tryz.y121:tsz Tryz.prog 121=some 1∧tag Tryz.prog 121=some false∧telem Tryz.prog 121=none∧tarr Tryz.prog 121=none∧tint Tryz.prog 121=none∧tbool Tryz.prog 121=false∧tbytes Tryz.prog 121=some 8∧tzero Tryz.prog 121=some [.pointer none]:=by (repeat' refine And.intro ?_ ?_)<;>kernel_rfl
@[simp] theorem Tryz.y140:tsz Tryz.prog 140=some 1∧tag Tryz.prog 140=some false∧telem Tryz.prog 140=none∧tarr Tryz.prog 140=none∧tint Tryz.prog 140=none∧tbool Tryz.prog 140=false∧tbytes Tryz.prog 140=some 8∧tzero Tryz.prog 140=some [.map none]∧tmap Tryz.prog 140=some (3,3):=by (repeat' refine And.intro ?_ ?_)<;>kernel_rfl
@[simp] theorem Tryz.y141:tsz Tryz.prog 141=some 1∧tag Tryz.prog 141=some false∧telem Tryz.prog 141=none∧tarr Tryz.prog 141=none∧tint Tryz.prog 141=none∧tbool Tryz.prog 141=false∧tbytes Tryz.prog 141=some 8∧tzero Tryz.prog 141=some [.map none]∧tmap Tryz.prog 141=some (3,51):=by (repeat' refine And.intro ?_ ?_)<;>kernel_rfl
@[simp] theorem Tryz.y143:tsz Tryz.prog 143=some 6∧tag Tryz.prog 143=some true∧telem Tryz.prog 143=none∧tarr Tryz.prog 143=none∧tint Tryz.prog 143=none∧tbool Tryz.prog 143=false∧tbytes Tryz.prog 143=some 96∧tzero Tryz.prog 143=some [.slice none 0 0,.slice none 0 0,.int .i64 0,.slice none 0 0,.map none,.map none]∧toff Tryz.prog 143 0=some 0∧tfield Tryz.prog 143 0=some (0,4,true)∧toff Tryz.prog 143 1=some 4∧tfield Tryz.prog 143 1=some (4,1,false)∧toff Tryz.prog 143 2=some 5∧tfield Tryz.prog 143 2=some (5,1,false)∧placesOf Tryz.prog 143=some [(0,4),(4,1),(5,1)]:=by (repeat' refine And.intro ?_ ?_)<;>kernel_rfl
@[simp] theorem Tryz.y160:tsz Tryz.prog 160=some 1∧tag Tryz.prog 160=some false∧telem Tryz.prog 160=none∧tarr Tryz.prog 160=none∧tint Tryz.prog 160=none∧tbool Tryz.prog 160=false∧tbytes Tryz.prog 160=some 8∧tzero Tryz.prog 160=some [.pointer none]:=by (repeat' refine And.intro ?_ ?_)<;>kernel_rfl
@[simp] theorem Tryz.y170:tsz Tryz.prog 170=some 1∧tag Tryz.prog 170=some false∧telem Tryz.prog 170=none∧tarr Tryz.prog 170=none∧tint Tryz.prog 170=none∧tbool Tryz.prog 170=false∧tbytes Tryz.prog 170=some 8∧tzero Tryz.prog 170=some [.nilFunc]:=by (repeat' refine And.intro ?_ ?_)<;>kernel_rfl
@[simp] theorem Tryz.y172:tsz Tryz.prog 172=some 2∧tag Tryz.prog 172=some true∧telem Tryz.prog 172=none∧tarr Tryz.prog 172=none∧tint Tryz.prog 172=none∧tbool Tryz.prog 172=false∧tbytes Tryz.prog 172=some 48∧tzero Tryz.prog 172=some [.slice none 0 0,.slice none 0 0]∧toff Tryz.prog 172 0=some 0∧tfield Tryz.prog 172 0=some (0,1,true)∧toff Tryz.prog 172 1=some 1∧tfield Tryz.prog 172 1=some (1,1,false)∧placesOf Tryz.prog 172=some [(0,1),(1,1)]:=by (repeat' refine And.intro ?_ ?_)<;>kernel_rfl
@[simp] theorem Tryz.y175:tsz Tryz.prog 175=some 1∧tag Tryz.prog 175=some false∧telem Tryz.prog 175=none∧tarr Tryz.prog 175=none∧tint Tryz.prog 175=none∧tbool Tryz.prog 175=false∧tbytes Tryz.prog 175=some 8∧tzero Tryz.prog 175=some [.nilFunc]:=by (repeat' refine And.intro ?_ ?_)<;>kernel_rfl
@[simp] theorem Tryz.y177:tsz Tryz.prog 177=some 4∧tag Tryz.prog 177=some true∧telem Tryz.prog 177=none∧tarr Tryz.prog 177=none∧tint Tryz.prog 177=none∧tbool Tryz.prog 177=false∧tbytes Tryz.prog 177=some 40∧toff Tryz.prog 177 0=some 0∧tfield Tryz.prog 177 0=some (0,1,false)∧toff Tryz.prog 177 1=some 1∧tfield Tryz.prog 177 1=some (1,1,false)∧toff Tryz.prog 177 2=some 2∧tfield Tryz.prog 177 2=some (2,1,false)∧toff Tryz.prog 177 3=some 3∧tfield Tryz.prog 177 3=some (3,1,false)∧placesOf Tryz.prog 177=some [(0,1),(1,1),(2,1),(3,1)]:=by (repeat' refine And.intro ?_ ?_)<;>kernel_rfl
@[simp] theorem Tryz.y178:tsz Tryz.prog 178=some 12∧tag Tryz.prog 178=some true∧telem Tryz.prog 178=none∧tarr Tryz.prog 178=some (3,177)∧tint Tryz.prog 178=none∧tbool Tryz.prog 178=false∧tbytes Tryz.prog 178=some 120∧placesOf Tryz.prog 178=some [(0,4),(4,4),(8,4)]∧eqArrOk.tarr' Tryz.prog 178=some (3,177)∧eqShape Tryz.prog 178=none:=by (repeat' refine And.intro ?_ ?_)<;>kernel_rfl
@[simp] theorem Tryz.y186:tsz Tryz.prog 186=some 1∧tag Tryz.prog 186=some false∧telem Tryz.prog 186=none∧tarr Tryz.prog 186=none∧tint Tryz.prog 186=none∧tbool Tryz.prog 186=false∧tbytes Tryz.prog 186=some 8∧tzero Tryz.prog 186=some [.nilFunc]:=by (repeat' refine And.intro ?_ ?_)<;>kernel_rfl
@[simp] theorem Tryz.y187:tsz Tryz.prog 187=some 1∧tag Tryz.prog 187=some true∧telem Tryz.prog 187=none∧tarr Tryz.prog 187=none∧tint Tryz.prog 187=none∧tbool Tryz.prog 187=false∧tbytes Tryz.prog 187=some 8∧tzero Tryz.prog 187=some [.nilFunc]∧toff Tryz.prog 187 0=some 0∧tfield Tryz.prog 187 0=some (0,1,false)∧placesOf Tryz.prog 187=some [(0,1)]:=by (repeat' refine And.intro ?_ ?_)<;>kernel_rfl
@[simp] theorem Tryz.y188:tsz Tryz.prog 188=some 3∧tag Tryz.prog 188=some true∧telem Tryz.prog 188=none∧tarr Tryz.prog 188=some (3,187)∧tint Tryz.prog 188=none∧tbool Tryz.prog 188=false∧tbytes Tryz.prog 188=some 24∧tzero Tryz.prog 188=some [.nilFunc,.nilFunc,.nilFunc]∧placesOf Tryz.prog 188=some [(0,1),(1,1),(2,1)]∧eqArrOk.tarr' Tryz.prog 188=some (3,187)∧eqShape Tryz.prog 188=none:=by (repeat' refine And.intro ?_ ?_)<;>kernel_rfl
@[simp] theorem Tryz.y190:tsz Tryz.prog 190=some 1∧tag Tryz.prog 190=some false∧telem Tryz.prog 190=none∧tarr Tryz.prog 190=none∧tint Tryz.prog 190=none∧tbool Tryz.prog 190=false∧tbytes Tryz.prog 190=some 8∧tzero Tryz.prog 190=some [.map none]∧tmap Tryz.prog 190=some (81,4):=by (repeat' refine And.intro ?_ ?_)<;>kernel_rfl
@[simp] theorem Tryz.y205:tsz Tryz.prog 205=some 1∧tag Tryz.prog 205=some false∧telem Tryz.prog 205=some 5∧tarr Tryz.prog 205=none∧tint Tryz.prog 205=none∧tbool Tryz.prog 205=false∧tbytes Tryz.prog 205=some 24∧tzero Tryz.prog 205=some [.slice none 0 0]:=by (repeat' refine And.intro ?_ ?_)<;>kernel_rfl
@[simp] theorem Tryz.y211:tsz Tryz.prog 211=some 1∧tag Tryz.prog 211=some false∧telem Tryz.prog 211=none∧tarr Tryz.prog 211=none∧tint Tryz.prog 211=none∧tbool Tryz.prog 211=false∧tbytes Tryz.prog 211=some 8∧tzero Tryz.prog 211=some [.nilFunc]:=by (repeat' refine And.intro ?_ ?_)<;>kernel_rfl
@[simp] theorem Tryz.y212:tsz Tryz.prog 212=some 1∧tag Tryz.prog 212=some true∧telem Tryz.prog 212=none∧tarr Tryz.prog 212=none∧tint Tryz.prog 212=none∧tbool Tryz.prog 212=false∧tbytes Tryz.prog 212=some 8∧tzero Tryz.prog 212=some [.nilFunc]∧toff Tryz.prog 212 0=some 0∧tfield Tryz.prog 212 0=some (0,1,false)∧placesOf Tryz.prog 212=some [(0,1)]:=by (repeat' refine And.intro ?_ ?_)<;>kernel_rfl
@[simp] theorem Tryz.y213:tsz Tryz.prog 213=some 4∧tag Tryz.prog 213=some true∧telem Tryz.prog 213=none∧tarr Tryz.prog 213=some (4,212)∧tint Tryz.prog 213=none∧tbool Tryz.prog 213=false∧tbytes Tryz.prog 213=some 32∧tzero Tryz.prog 213=some [.nilFunc,.nilFunc,.nilFunc,.nilFunc]∧placesOf Tryz.prog 213=some [(0,1),(1,1),(2,1),(3,1)]∧eqArrOk.tarr' Tryz.prog 213=some (4,212)∧eqShape Tryz.prog 213=none:=by (repeat' refine And.intro ?_ ?_)<;>kernel_rfl
@[simp] theorem Tryz.y225:tsz Tryz.prog 225=some 1∧tag Tryz.prog 225=some false∧telem Tryz.prog 225=none∧tarr Tryz.prog 225=none∧tint Tryz.prog 225=some .u64∧tbool Tryz.prog 225=false∧tbytes Tryz.prog 225=some 8∧tzero Tryz.prog 225=some [.int .u64 0]:=by (repeat' refine And.intro ?_ ?_)<;>kernel_rfl
@[simp] theorem Tryz.y240:tsz Tryz.prog 240=some 3∧tag Tryz.prog 240=some true∧telem Tryz.prog 240=none∧tarr Tryz.prog 240=none∧tint Tryz.prog 240=none∧tbool Tryz.prog 240=false∧tbytes Tryz.prog 240=some 24∧tzero Tryz.prog 240=some [.int .i64 0,.int .i64 0,.int .i64 0]∧toff Tryz.prog 240 0=some 0∧tfield Tryz.prog 240 0=some (0,3,true)∧placesOf Tryz.prog 240=some [(0,3)]:=by (repeat' refine And.intro ?_ ?_)<;>kernel_rfl
@[simp] theorem Tryz.yx3:keyShape Tryz.prog 3=some [.int .i64]:=by kernel_rfl
@[simp] theorem Tryz.yx81:keyShape Tryz.prog 81=some [.int .i64,.int .i64]:=by kernel_rfl
@[simp] theorem Tryz.yxx3:tzk Tryz.prog 3=some [.int .i64 0]:=by kernel_rfl
@[simp] theorem Tryz.yx4:tzk Tryz.prog 4=some [.bool false]:=by kernel_rfl
@[simp] theorem Tryz.yx51:tzk Tryz.prog 51=some [.int .i64 0,.int .i64 0,.int .u8 0,.slice none 0 0,.slice none 0 0]:=by kernel_rfl
@[simp] theorem Tryz.ok15:CallOk Tryz.prog 15:=Tryz.call15
@[simp] theorem Tryz.ok17:CallOk Tryz.prog 17:=Tryz.call17
@[simp] theorem Tryz.ok19:CallOk Tryz.prog 19:=Tryz.call19
@[simp] theorem Tryz.ok22:CallOk Tryz.prog 22:=Tryz.call22
@[simp] theorem Tryz.ok23:CallOk Tryz.prog 23:=Tryz.call23
@[simp] theorem Tryz.ok24:CallOk Tryz.prog 24:=Tryz.call24
@[simp] theorem Tryz.ok25:CallOk Tryz.prog 25:=Tryz.call25
@[simp] theorem Tryz.ok26:CallOk Tryz.prog 26:=Tryz.call26
@[simp] theorem Tryz.ok27:CallOk Tryz.prog 27:=Tryz.call27
@[simp] theorem Tryz.ok32:CallOk Tryz.prog 32:=Tryz.call32
@[simp] theorem Tryz.ok33:CallOk Tryz.prog 33:=Tryz.call33
@[simp] theorem Tryz.ok34:CallOk Tryz.prog 34:=Tryz.call34
@[simp] theorem Tryz.ok35:CallOk Tryz.prog 35:=Tryz.call35
@[simp] theorem Tryz.ok36:CallOk Tryz.prog 36:=Tryz.call36
@[simp] theorem Tryz.ok37:CallOk Tryz.prog 37:=Tryz.call37
@[simp] theorem Tryz.ok40:CallOk Tryz.prog 40:=Tryz.call40
@[simp] theorem Tryz.ok42:CallOk Tryz.prog 42:=Tryz.call42
@[simp] theorem Tryz.ok44:CallOk Tryz.prog 44:=Tryz.call44
@[simp] theorem Tryz.ok45:CallOk Tryz.prog 45:=Tryz.call45
@[simp] theorem Tryz.ok47:CallOk Tryz.prog 47:=Tryz.call47
@[simp] theorem Tryz.ok48:CallOk Tryz.prog 48:=Tryz.call48
@[simp] theorem Tryz.ok49:CallOk Tryz.prog 49:=Tryz.call49
@[simp] theorem Tryz.ok51:CallOk Tryz.prog 51:=Tryz.call51
@[simp] theorem Tryz.ok52:CallOk Tryz.prog 52:=Tryz.call52
@[simp] theorem Tryz.ok53:CallOk Tryz.prog 53:=Tryz.call53
@[simp] theorem Tryz.ok54:CallOk Tryz.prog 54:=Tryz.call54
@[simp] theorem Tryz.ok55:CallOk Tryz.prog 55:=Tryz.call55
@[simp] theorem Tryz.ok56:CallOk Tryz.prog 56:=Tryz.call56
@[simp] theorem Tryz.ok57:CallOk Tryz.prog 57:=Tryz.call57
@[simp] theorem Tryz.ok59:CallOk Tryz.prog 59:=Tryz.call59
@[simp] theorem Tryz.ok60:CallOk Tryz.prog 60:=Tryz.call60
@[simp] theorem Tryz.ok61:CallOk Tryz.prog 61:=Tryz.call61
@[simp] theorem Tryz.ok63:CallOk Tryz.prog 63:=Tryz.call63
@[simp] theorem Tryz.ok64:CallOk Tryz.prog 64:=Tryz.call64
@[simp] theorem Tryz.ok65:CallOk Tryz.prog 65:=Tryz.call65
@[simp] theorem Tryz.ok66:CallOk Tryz.prog 66:=Tryz.call66
@[simp] theorem Tryz.ok67:CallOk Tryz.prog 67:=Tryz.call67
@[simp] theorem Tryz.ok68:CallOk Tryz.prog 68:=Tryz.call68
@[simp] theorem Tryz.ok69:CallOk Tryz.prog 69:=Tryz.call69
@[simp] theorem Tryz.ok70:CallOk Tryz.prog 70:=Tryz.call70
@[simp] theorem Tryz.ok71:CallOk Tryz.prog 71:=Tryz.call71
@[simp] theorem Tryz.ok72:CallOk Tryz.prog 72:=Tryz.call72
@[simp] theorem Tryz.ok73:CallOk Tryz.prog 73:=Tryz.call73
@[simp] theorem Tryz.ok77:CallOk Tryz.prog 77:=Tryz.call77
@[simp] theorem Tryz.ok81:CallOk Tryz.prog 81:=Tryz.call81
@[simp] theorem Tryz.ok82:CallOk Tryz.prog 82:=Tryz.call82
@[simp] theorem Tryz.ok83:CallOk Tryz.prog 83:=Tryz.call83
@[simp] theorem Tryz.ok86:CallOk Tryz.prog 86:=Tryz.call86
@[simp] theorem Tryz.ok87:CallOk Tryz.prog 87:=Tryz.call87
@[simp] theorem Tryz.ok88:CallOk Tryz.prog 88:=Tryz.call88
@[simp] theorem Tryz.ok89:CallOk Tryz.prog 89:=Tryz.call89
@[simp] theorem Tryz.ok90:CallOk Tryz.prog 90:=Tryz.call90
@[simp] theorem Tryz.ok91:CallOk Tryz.prog 91:=Tryz.call91
@[simp] theorem Tryz.ok92:CallOk Tryz.prog 92:=Tryz.call92
@[simp] theorem Tryz.ok93:CallOk Tryz.prog 93:=Tryz.call93
@[simp] theorem Tryz.ok94:CallOk Tryz.prog 94:=Tryz.call94
@[simp] theorem Tryz.ok95:CallOk Tryz.prog 95:=Tryz.call95
@[simp] theorem Tryz.ok96:CallOk Tryz.prog 96:=Tryz.call96
@[simp] theorem Tryz.ok97:CallOk Tryz.prog 97:=Tryz.call97
@[simp] theorem Tryz.ok98:CallOk Tryz.prog 98:=Tryz.call98
@[simp] theorem Tryz.ok99:CallOk Tryz.prog 99:=Tryz.call99
@[simp] theorem Tryz.ok100:CallOk Tryz.prog 100:=Tryz.call100
@[simp] theorem Tryz.ok101:CallOk Tryz.prog 101:=Tryz.call101
@[simp] theorem Tryz.ok102:CallOk Tryz.prog 102:=Tryz.call102
@[simp] theorem Tryz.ok103:CallOk Tryz.prog 103:=Tryz.call103
@[simp] theorem Tryz.ok104:CallOk Tryz.prog 104:=Tryz.call104
@[simp] theorem Tryz.ok105:CallOk Tryz.prog 105:=Tryz.call105
@[simp] theorem Tryz.ok106:CallOk Tryz.prog 106:=Tryz.call106
@[simp] theorem Tryz.ok109:CallOk Tryz.prog 109:=Tryz.call109
@[simp] theorem Tryz.ok111:CallOk Tryz.prog 111:=Tryz.call111
@[simp] theorem Tryz.ok112:CallOk Tryz.prog 112:=Tryz.call112
@[simp] theorem Tryz.ok114:CallOk Tryz.prog 114:=Tryz.call114
@[simp] theorem Tryz.ok115:CallOk Tryz.prog 115:=Tryz.call115
@[simp] theorem Tryz.ok116:CallOk Tryz.prog 116:=Tryz.call116
@[simp] theorem Tryz.ok117:CallOk Tryz.prog 117:=Tryz.call117
@[simp] theorem Tryz.ok118:CallOk Tryz.prog 118:=Tryz.call118
@[simp] theorem Tryz.ok119:CallOk Tryz.prog 119:=Tryz.call119
@[simp] theorem Tryz.ok120:CallOk Tryz.prog 120:=Tryz.call120
@[simp] theorem Tryz.ok121:CallOk Tryz.prog 121:=Tryz.call121
@[simp] theorem Tryz.ok122:CallOk Tryz.prog 122:=Tryz.call122
@[simp] theorem Tryz.ok123:CallOk Tryz.prog 123:=Tryz.call123
@[simp] theorem Tryz.ok124:CallOk Tryz.prog 124:=Tryz.call124
@[simp] theorem Tryz.ok126:CallOk Tryz.prog 126:=Tryz.call126
@[simp] theorem Tryz.ok127:CallOk Tryz.prog 127:=Tryz.call127
@[simp] theorem Tryz.ok128:CallOk Tryz.prog 128:=Tryz.call128
@[simp] theorem Tryz.ok129:CallOk Tryz.prog 129:=Tryz.call129
@[simp] theorem Tryz.ok132:CallOk Tryz.prog 132:=Tryz.call132
@[simp] theorem Tryz.ok133:CallOk Tryz.prog 133:=Tryz.call133
@[simp] theorem Tryz.ok136:CallOk Tryz.prog 136:=Tryz.call136
@[simp] theorem Tryz.ok137:CallOk Tryz.prog 137:=Tryz.call137
@[simp] theorem Tryz.ok138:CallOk Tryz.prog 138:=Tryz.call138
@[simp] theorem Tryz.ok139:CallOk Tryz.prog 139:=Tryz.call139
@[simp] theorem Tryz.ok140:CallOk Tryz.prog 140:=Tryz.call140
@[simp] theorem Tryz.ok141:CallOk Tryz.prog 141:=Tryz.call141
@[simp] theorem Tryz.ok142:CallOk Tryz.prog 142:=Tryz.call142
@[simp] theorem Tryz.ok143:CallOk Tryz.prog 143:=Tryz.call143
@[simp] theorem Tryz.ok144:CallOk Tryz.prog 144:=Tryz.call144
@[simp] theorem Tryz.ok145:CallOk Tryz.prog 145:=Tryz.call145
@[simp] theorem Tryz.ok146:CallOk Tryz.prog 146:=Tryz.call146
@[simp] theorem Tryz.ok147:CallOk Tryz.prog 147:=Tryz.call147
@[simp] theorem Tryz.ok151:CallOk Tryz.prog 151:=Tryz.call151
@[simp] theorem Tryz.ok152:CallOk Tryz.prog 152:=Tryz.call152
@[simp] theorem Tryz.ok153:CallOk Tryz.prog 153:=Tryz.call153
@[simp] theorem Tryz.ok154:CallOk Tryz.prog 154:=Tryz.call154
@[simp] theorem Tryz.ok155:CallOk Tryz.prog 155:=Tryz.call155
@[simp] theorem Tryz.ok156:CallOk Tryz.prog 156:=Tryz.call156
@[simp] theorem Tryz.ok157:CallOk Tryz.prog 157:=Tryz.call157
@[simp] theorem Tryz.ok158:CallOk Tryz.prog 158:=Tryz.call158
@[simp] theorem Tryz.ok160:CallOk Tryz.prog 160:=Tryz.call160
@[simp] theorem Tryz.ok161:CallOk Tryz.prog 161:=Tryz.call161
@[simp] theorem Tryz.ok162:CallOk Tryz.prog 162:=Tryz.call162
@[simp] theorem Tryz.ok163:CallOk Tryz.prog 163:=Tryz.call163
@[simp] theorem Tryz.ok164:CallOk Tryz.prog 164:=Tryz.call164
@[simp] theorem Tryz.ok165:CallOk Tryz.prog 165:=Tryz.call165
@[simp] theorem Tryz.ok167:CallOk Tryz.prog 167:=Tryz.call167
@[simp] theorem Tryz.ok168:CallOk Tryz.prog 168:=Tryz.call168
@[simp] theorem Tryz.ok169:CallOk Tryz.prog 169:=Tryz.call169
@[simp] theorem Tryz.ok171:CallOk Tryz.prog 171:=Tryz.call171
@[simp] theorem Tryz.ok172:CallOk Tryz.prog 172:=Tryz.call172
@[simp] theorem Tryz.ok191:CallOk Tryz.prog 191:=Tryz.call191
@[simp] theorem Tryz.ok192:CallOk Tryz.prog 192:=Tryz.call192
@[simp] theorem Tryz.ok194:CallOk Tryz.prog 194:=Tryz.call194
@[simp] theorem Tryz.ok195:CallOk Tryz.prog 195:=Tryz.call195
@[simp] theorem Tryz.ok196:CallOk Tryz.prog 196:=Tryz.call196
@[simp] theorem Tryz.ok225:CallOk Tryz.prog 225:=Tryz.call225
@[simp] theorem Tryz.ok226:CallOk Tryz.prog 226:=Tryz.call226
@[simp] theorem Tryz.ok227:CallOk Tryz.prog 227:=Tryz.call227
@[simp] theorem Tryz.ok228:CallOk Tryz.prog 228:=Tryz.call228
@[simp] theorem Tryz.ok229:CallOk Tryz.prog 229:=Tryz.call229
@[simp] theorem Tryz.ok230:CallOk Tryz.prog 230:=Tryz.call230
@[simp] theorem Tryz.ok231:CallOk Tryz.prog 231:=Tryz.call231
@[simp] theorem Tryz.ok232:CallOk Tryz.prog 232:=Tryz.call232
@[simp] theorem Tryz.ok233:CallOk Tryz.prog 233:=Tryz.call233
@[simp] theorem Tryz.ok234:CallOk Tryz.prog 234:=Tryz.call234
@[simp] theorem Tryz.ok235:CallOk Tryz.prog 235:=Tryz.call235
end Go.Proofs
