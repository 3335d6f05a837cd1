/- Part 13 of the proofs: laws and walks that hold without conditions beyond those that each theorem names. -/
import Derived.Test.YtmkbmkonpglgdaaGreatDoorP12
set_option linter.all false
set_option linter.deprecated false
namespace Go.Ab
open Go
section
variable {P:Program} {G:Nat→Option (List IC)} {nt:Nat} {objs:List DObj} {ops:Array Oper}
structure Inv2 (P:Program) (G:Nat→Option (List IC)) (nt:Nat) (objs:List DObj) (ops:Array Oper) (ks:List Nat) (τ:Tau) (M0 Mp:MS) (al:List Nat) (base:Array Bool) (dfs:List Deferred) (f:Nat) (listed:Array Bool) (a:Act) (M:MS):Prop where
 sz:listed.size=ops.size
 cn:listed.toList.count false=f
 cl:Closed ops listed
 rel:RelF G nt objs (maskT ops ks listed τ) a M
 ext:Ext objs.length M0 M
 df:a.defers=dfs
 pd:Pd P Mp ops al listed a M
 hs:Mp.w.heap.size≤M.w.heap.size
 only:∀ i,listed.getD i false=true→base.getD i false=true∨i∈ks
 has:∀ i,base.getD i false=true→listed.getD i false=true
theorem Pd.tmps {M0 M:MS} {ks:List Nat} {listed:Array Bool} {a a':Act} (h:a'.tmps=a.tmps) (hp:Pd P M0 ops ks listed a M):Pd P M0 ops ks listed a' M:=by
 obtain ⟨β',h1,h2⟩:=hp
 refine ⟨β',fun i o t u hi ho hop hu hl=>?_,h2⟩
 obtain ⟨z,z1,q1,q2,q3,q4,q5⟩:=h1 i o t u hi ho hop hu hl
 exact ⟨z,z1,q1,q2,q3,by rw [h];exact q4,q5⟩
end
section
variable {P:Program} {G:Nat→Option (List IC)}
end
section
variable (P:Program) (G:Nat→Option (List IC))
end
section
variable {P:Program} {G:Nat→Option (List IC)}
end
end Go.Ab
