/- Part 13 of the proofs: laws and walks that hold without conditions beyond those that each theorem names. -/
import Derived.Test.YtmkbmkonpglgdaaGreatDoorA12
set_option linter.all false
set_option linter.deprecated false
namespace Go.Ab
open Go
def cutE (ks:List Nat) (o:Oper):Oper:={ dst:=o.dst,op:=o.op,type:=o.type,pos:=o.pos,after:=o.after.filter fun e=>ks.contains e.on,guard:=o.guard }
def cutL:List (Option (List Nat))→List Oper→List Oper
 | some ks :: cs,o :: r=>cutE ks o :: cutL cs r
 | none :: cs,o :: r=>o :: cutL cs r
 | [],l=>l
 | _,[]=>[]
section
variable {P:Program} {l:List Oper} {cs:List (Option (List Nat))} {F:Fence} {n:Nat} {Q:Exit→Act→World→Prop}
end
end Go.Ab
