/- Part 21 of the proofs: laws and walks that hold without conditions beyond those that each theorem names. -/
import Derived.Test.YtciiddejfhbncaaGreatDoorP18
import Derived.Test.YtciiddejfhbncaaGreatDoorP20
set_option linter.all false
set_option linter.deprecated false
namespace Go.Proofs
open Go Go.Ab
theorem leaves_mem {l:List Issue} {lets:List Int} (h0:checkR l=0) (hlet:lettersI l lets=true) {dep:Int→Int} (hdep:∀ n∈nums l,1≤dep n∧dep n≤6∧∀ c∈chI l n,c∈nums l∧dep c < dep n) :
 ∀ (k:Nat) (d m:Int),d∈nums l→∀ p∈leavesF (takeI l lets) k d m,p.1∈nums l
 | 0,_,_,_,p,hp=>by cases hp
 | k + 1,d,m,hd,p,hp=>by
   rw [leavesF] at hp
   split at hp
   ·rw [List.mem_singleton] at hp;rw [hp];exact hd
   ·obtain ⟨y,hy,hp⟩:=List.mem_flatMap.1 hp
    have hc:=(hdep d hd).2.2 _ (take_items h0 hlet hd y hy)
    exact leaves_mem h0 hlet hdep k _ _ hc.1 p hp
theorem addL_addM {ns:List Int} (hnd:ns.Nodup):∀ (lv:List (Int×Int)) (m:List (Int×Int)),(∀ p∈lv,p.1∈ns)→addL ns (ns.map (mlook m)) lv=ns.map (mlook (addM m lv))
 | [],_,_=>rfl
 | p :: lv,m,h=>by
   have h1:=addL_addM hnd lv (mput p.1 (IntKind.i64.wrap (mlook m p.1 + p.2)) m) fun q hq=>h q (by simp [hq])
   obtain ⟨j,hj⟩:=List.mem_iff_getElem?.1 (h p (by simp))
   have he:addC ns (ns.map (mlook m)) p=ns.map (mlook (mput p.1 (IntKind.i64.wrap (mlook m p.1 + p.2)) m)):=by
    simp only [addC,idx_at hnd hj,Int.toNat_natCast,List.getElem?_map,hj,Option.map_some,Option.getD_some]
    rw [map_set_at hnd hj]
    refine List.map_congr_left fun n _=>?_
    rw [mlook_put]
    by_cases e:n=p.1<;>simp [e]
   simp only [addL,addM,List.foldl_cons] at h1 ⊢
   rw [he];exact h1
theorem zip_filter (f:Int→Int):∀ ns:List Int,((ns.zip (ns.map f)).filter fun p=>decide (0 < p.2)).map (fun p=>(⟨p.1,p.2⟩:Itm))=(ns.filter fun n=>decide (0 < f n)).map fun n=>⟨n,f n⟩
 | []=>rfl
 | n :: ns=>by
   simp only [List.map_cons,List.zip_cons_cons,List.filter_cons]
   by_cases h:0 < f n
   ·simp only [h,decide_true,if_true,List.map_cons,zip_filter f ns]
   ·simp only [h,decide_false,Bool.false_eq_true,if_false,zip_filter f ns]
theorem parts_eq {l:List Issue} {lets:List Int} {d:Int} (h0:checkR l=0) (hlet:lettersI l lets=true) (hd:d∈nums l):partsI l lets d=partsP (nums l) (cntM l lets d):=by
 obtain ⟨dep,hdep⟩:=dep_spec h0
 have hnd:(nums l).Nodup:=(check_nums h0).1.imp fun h=>Int.ne_of_lt h
 have h1:=addL_addM hnd (leavesF (takeI l lets) 6 d 1) [] (leaves_mem h0 hlet hdep 6 d 1 hd)
 have h2:(nums l).map (mlook [])=List.replicate (nums l).length 0:=map_rep (fun _=>rfl) _
 rw [h2] at h1
 have h3:cntI l lets d=(nums l).map (mlook (cntM l lets d)):=h1
 rw [partsI,h3,zip_filter];rfl
theorem look_count:∀ (ps:List Itm) (m:List (Int×Int)) (d:Int),(ps.map (·.drawing)).Nodup→mlook (ps.foldl (fun m x=>mput x.drawing x.count m) m) d=if d∈ps.map (·.drawing) then countI ps d else mlook m d
 | [],m,d,_=>by simp
 | y :: ps,m,d,h=>by
   rw [List.map_cons,List.nodup_cons] at h
   rw [List.foldl_cons,look_count ps _ d h.2,mlook_put,countI]
   by_cases e:d=y.drawing
   ·subst e
    rw [if_neg h.1,if_pos rfl,if_pos (by simp),if_pos rfl]
   ·rw [if_neg e,if_neg (Ne.symm e)]
    by_cases hm:d∈ps.map (·.drawing)
    ·rw [if_pos hm,if_pos (by simp only [List.map_cons,List.mem_cons];exact .inr hm)]
    ·rw [if_neg hm,if_neg (by simp only [List.map_cons,List.mem_cons];exact fun h=>h.elim e hm)]
theorem countI_none:∀ (ps:List Itm) (d:Int),d∉ps.map (·.drawing)→countI ps d=0
 | [],_,_=>rfl
 | y :: ps,d,h=>by
   rw [List.map_cons,List.mem_cons,not_or] at h
   rw [countI,if_neg (Ne.symm h.1)];exact countI_none ps d h.2
def cntL (ls:List Link) (d:Int):Nat:=(ls.filter fun y=>decide (y.drawing=d)).length
theorem cntL_cons (y:Link) (r:List Link) (d:Int):cntL (y :: r) d=(if y.drawing=d then 1 else 0) + cntL r d:=by
 unfold cntL
 by_cases h:y.drawing=d
 ·rw [List.filter_cons_of_pos (by simpa using h),if_pos h,List.length_cons];omega
 ·rw [List.filter_cons_of_neg (by simpa using h),if_neg h];omega
theorem cntL_pos {ls:List Link} {y:Link} (h:y∈ls):1≤cntL ls y.drawing:=
 List.length_pos_of_mem (List.mem_filter.2 ⟨h,by simp⟩)
theorem cntL_zero {ls:List Link} {d:Int} (h:∀ y∈ls,y.drawing≠d):cntL ls d=0:=by
 unfold cntL
 rw [List.filter_eq_nil_iff.2 fun y hy=>by simpa using h y hy];rfl
def dimck (B:List (Int×Issue)) (y:Link):Bool:=decide (0≤y.dim) && decide (y.dim≤((mlookS B y.drawing).dims.length:Int) - 1)
theorem usedOk_iff (D:List (Int×Int)) (B:List (Int×Issue)):∀ (r:List Link) (U:List (Int×Int)),usedOk D B U r=true↔∀ y∈r,dimck B y=true∧mlook U y.drawing + cntL r y.drawing≤mlook D y.drawing
 | [],U=>by simp [usedOk]
 | y :: r,U=>by
   have ih:=usedOk_iff D B r (mput y.drawing (mlook U y.drawing + 1) U)
   have hu:usedOk D B U (y :: r)=(decide (mlook U y.drawing + 1≤mlook D y.drawing) && dimck B y && usedOk D B (mput y.drawing (mlook U y.drawing + 1) U) r):=rfl
   rw [hu,Bool.and_eq_true,Bool.and_eq_true,decide_eq_true_eq,ih]
   constructor
   ·rintro ⟨⟨h1,h2⟩,h3⟩ z hz
    have key:∀ z∈r,dimck B z=true∧mlook U z.drawing + cntL (y :: r) z.drawing≤mlook D z.drawing:=fun z hz=>by
     obtain ⟨a,b⟩:=h3 z hz
     rw [mlook_put] at b
     rw [cntL_cons]
     refine ⟨a,?_⟩
     by_cases e:z.drawing=y.drawing
     ·rw [if_pos e] at b;rw [if_pos e.symm];rw [e] at b ⊢;omega
     ·rw [if_neg e] at b;rw [if_neg (Ne.symm e)];omega
    rcases List.mem_cons.1 hz with rfl|hz
    ·refine ⟨h2,?_⟩
     by_cases hex:∃ w∈r,w.drawing=z.drawing
     ·obtain ⟨w,hw,e⟩:=hex
      have:=(key w hw).2
      rw [e] at this;exact this
     ·rw [cntL_cons,if_pos rfl,cntL_zero fun w hw e=>hex ⟨w,hw,e⟩];omega
    ·exact key z hz
   ·intro h
    obtain ⟨a,b⟩:=h y (by simp)
    rw [cntL_cons,if_pos rfl] at b
    refine ⟨⟨by omega,a⟩,fun z hz=>?_⟩
    obtain ⟨a',b'⟩:=h z (by simp [hz])
    refine ⟨a',?_⟩
    rw [cntL_cons] at b'
    rw [mlook_put]
    by_cases e:z.drawing=y.drawing
    ·rw [if_pos e.symm,e] at b';rw [if_pos e,e];omega
    ·rw [if_neg (Ne.symm e)] at b';rw [if_neg e];omega
def linkOkR (c:Chains) (ls:List Link) (y:Link):Bool:=decide ((cntL ls y.drawing:Int)≤countI (partsI c.reg c.lets c.of) y.drawing) && (decide (0≤y.dim) && decide (y.dim≤((takeI c.reg c.lets y.drawing).dims.length:Int) - 1))
def loopOkR (c:Chains) (x:ChLoop):Bool:=ckL1 x && ckL2 x && x.links.all (linkOkR c x.links)
theorem part_mem {c:Chains} {d:Int} (h0:checkR c.reg=0) (hlet:lettersI c.reg c.lets=true) (hof:c.of∈nums c.reg) (hc:1≤countI (partsI c.reg c.lets c.of) d):d∈nums c.reg:=by
 refine Classical.byContradiction fun hn=>?_
 rw [parts_eq h0 hlet hof,countI_none] at hc
 ·omega
 ·intro hm
  simp only [partsP,List.map_map] at hm
  obtain ⟨n,h1,h2⟩:=List.mem_map.1 hm
  simp only [Function.comp] at h2
  exact hn (h2 ▸ (List.mem_filter.1 h1).1)
theorem loopOk_eq {c:Chains} (h0:checkR c.reg=0) (hlet:lettersI c.reg c.lets=true) (hof:c.of∈nums c.reg) (x:ChLoop):loopOkP (cntD c) (tkM c.reg c.lets) x=loopOkR c x:=by
 have hnd:(nums c.reg).Nodup:=(check_nums h0).1.imp fun h=>Int.ne_of_lt h
 have hT:takenE c.reg c.lets c.of=0:=by simp [takenE,h0,hlet,hof]
 have hD:∀ d,mlook (cntD c) d=countI (partsI c.reg c.lets c.of) d:=fun d=>by
  rw [parts_eq h0 hlet hof]
  have hE:explR c.reg c.lets c.of=partsP (nums c.reg) (cntM c.reg c.lets c.of):=by rw [explR,if_pos hT]
  have hn:((partsP (nums c.reg) (cntM c.reg c.lets c.of)).map (·.drawing)).Nodup:=by
   simp only [partsP,List.map_map]
   have:(fun x:Itm=>x.drawing) ∘ (fun n=>(⟨n,mlook (cntM c.reg c.lets c.of) n⟩:Itm))=id:=rfl
   rw [this,List.map_id]
   exact hnd.filter _
  rw [cntD,hE,look_count _ _ _ hn]
  split
  ·rfl
  ·rw [countI_none _ _ ‹_›];rfl
 unfold loopOkP loopOkR
 congr 1
 rw [Bool.eq_iff_iff,usedOk_iff,List.all_eq_true]
 refine forall_congr' fun y=>forall_congr' fun hy=>?_
 simp only [linkOkR,dimck,Bool.and_eq_true,decide_eq_true_eq,hD]
 have hp:=cntL_pos hy
 have hz:mlook [] y.drawing=0:=rfl
 constructor
 ·rintro ⟨h1,h2⟩
  have hm:=part_mem (d:=y.drawing) h0 hlet hof (by omega)
  rw [tkM,mlookS_map,if_pos hm] at h1
  exact ⟨by omega,h1⟩
 ·rintro ⟨h1,h2⟩
  have hm:=part_mem (d:=y.drawing) h0 hlet hof (by omega)
  rw [tkM,mlookS_map,if_pos hm]
  exact ⟨h2,by omega⟩
theorem chainsE_zero {c:Chains} (h0:checkR c.reg=0):chainsE c=(if lettersI c.reg c.lets=true∧c.of∈nums c.reg∧(1≤c.loops.length∧c.loops.length≤6)∧c.loops.all (loopOkR c)=true then 0 else 60):=by
 unfold chainsE
 rw [if_neg (by simp [h0])]
 by_cases hlet:lettersI c.reg c.lets=true
 ·by_cases hof:c.of∈nums c.reg
  ·have hT:takenE c.reg c.lets c.of=0:=by simp [takenE,h0,hlet,hof]
   have hL:c.loops.all (loopOkP (cntD c) (tkM c.reg c.lets))=c.loops.all (loopOkR c):=by
    congr 1;exact funext fun x=>loopOk_eq h0 hlet hof x
   rw [hL]
   by_cases hn:1≤c.loops.length∧c.loops.length≤6
   ·rw [if_neg (by simp [hT];omega)]
    by_cases ha:c.loops.all (loopOkR c)=true
    ·rw [if_pos ha,if_pos ⟨hlet,hof,hn,ha⟩]
    ·rw [if_neg ha,if_neg fun h=>ha h.2.2.2]
   ·rw [if_pos (.inr hn),if_neg fun h=>hn h.2.2.1]
  ·have hT:takenE c.reg c.lets c.of≠0:=by simp [takenE,h0,hlet,hof]
   rw [if_pos (.inl hT),if_neg fun h=>hof h.2.1]
 ·have hT:takenE c.reg c.lets c.of≠0:=by
   have:lettersI c.reg c.lets=false:=by simpa using hlet
   simp [takenE,h0,this]
  rw [if_pos (.inl hT),if_neg fun h=>hlet h.1]
theorem okC {c:Chains} (h:chainsE c=0):OkC c:=by
 have h0:checkR c.reg=0:=Classical.byContradiction fun h'=>by simp [chainsE,h'] at h
 rw [chainsE_zero h0] at h
 split at h
 ·rename_i hc
  obtain ⟨a,b,d,e⟩:=hc
  rw [List.all_eq_true] at e
  refine ⟨h0,a,b,d,fun x hx=>?_,fun x hx y hy=>?_⟩
  ·have:=e x hx
   simp only [loopOkR,ckL1,Bool.and_eq_true,decide_eq_true_eq] at this
   exact ⟨this.1.1.2,this.1.2⟩
  ·have:=e x hx
   simp only [loopOkR,Bool.and_eq_true,List.all_eq_true] at this
   have:=this.2 y hy
   simp only [linkOkR,Bool.and_eq_true,decide_eq_true_eq] at this
   have hp:=cntL_pos hy
   exact ⟨part_mem h0 a b (by omega),this.2.1,by omega⟩
 ·cases h
end Go.Proofs
namespace Go.Proofs
open Go Go.Ab
set_option linter.unusedSimpArgs false
variable {G:Nat→Option (List IC)}
def chainsOk (c:Chains):Bool:=lettersI c.reg c.lets && decide (c.of∈nums c.reg) && decide (1≤c.loops.length∧c.loops.length≤6) && c.loops.all (loopOkR c)
set_option maxHeartbeats 4000000 in
theorem rChains_c (c:Chains) (hs:SmallC c) (h0:checkR c.reg=0) (objs:List DObj):DCall Tryz.prog G 129 [chv c] objs (fun rr objs'=>rr=bv (chainsOk c)∧objs'=objs):=by
 refine DCall.frame ?_ (by simp) (by simp) objs
 refine DCall_intro Tryz.func129 rfl Tryz.ntmps129 (by simp) rfl ?_
 try simp only [chv]
 have hck:=h0
 obtain ⟨hsr,hsl,hso,hsk⟩:=hs
 have hreg:=hsr.1
 have hnl:(nums c.reg).length≤c.reg.length:=numsTo_length c.reg c.reg.length
 have c1:=letters_c (G:=G) c.reg c.lets (by omega) (by omega)
 have c2:=numbers_c (G:=G) c.reg (by omega)
 have c3:=index_c (G:=G) (nums c.reg) c.of (by omega)
 have c4:=within6_c (G:=G) (c.loops.length:Int) 1 6
 have him:=idx_mem (nums c.reg) c.of
 by_cases hlet:lettersI c.reg c.lets=true
 ·by_cases hof:c.of∈nums c.reg
  ·by_cases hn:1≤c.loops.length∧c.loops.length≤6
   ·have hE:chainsOk c=c.loops.all (loopOkR c):=by simp [chainsOk,hlet,hof,hn]
    have hd:(decide ((1:Int)≤(c.loops.length:Int)) && decide ((c.loops.length:Int)≤6))=true:=by simp;omega
    have hll:c.lets.length=(nums c.reg).length:=by
     simp only [lettersI,Bool.and_eq_true,decide_eq_true_eq] at hlet;exact hlet.1
    have hz:¬ idx (nums c.reg) c.of < 0:=fun h=>him.1 h hof
    rw [hlet] at c1
    rw [hd] at c4
    have c5:=parts2_c (G:=G) c.reg c.lets c.of (by omega) h0 hlet hof
    have hs:True:=trivial
    repeat' first|(with_reducible first|refine q01 ?_|refine q11 ?_|refine q12 ?_|refine q14 ?_)|(refine QCall_pure (c1) ?_;try simp -dsimp [hz,hs])|(refine QCall_pure (c2) ?_;try simp -dsimp [hz,hs])|(refine QCall_pure (c3) ?_;try simp -dsimp [hz,hs])|(refine QCall_pure (c4) ?_;try simp -dsimp [hz,hs])|(refine CallE.pure (c5) ?_;try simp -dsimp [hz,hs])|(refine DT_regionM (id:=1) (nt:=125) 22 [0,1,2,3,4,5,6,7,8,9,31,43,72,77,89,100,124] mixed rfl (by kernel_rfl) ?_;simp -dsimp [hz,hs])|(with_reducible refine DT_regionE [0,1,2,3,4,5,6,7,8,9,31,43,72,77,89,100,124] ?_;simp -dsimp [hz,hs])|(refine DT_cond rfl (fun h=>?_) (fun h=>?_)<;>(try simp only [nrm] at h)<;>(try exact Bool.noConfusion h))
    all_goals try simp -dsimp [hz,hs]
    all_goals try clear hs
    have hpl:(partsI c.reg c.lets c.of).length≤80:=by
     have:=List.length_filter_le (fun p:Int×Int=>decide (0 < p.2)) ((nums c.reg).zip (cntI c.reg c.lets c.of))
     simp only [partsI,List.length_map,List.length_zip] at *;omega
    have hpm:=fun d (hd:1≤countI (partsI c.reg c.lets c.of) d)=>part_mem h0 hlet hof hd
    have hlkE:∀ ls y,linkOkR c ls y=(decide ((cntL ls y.drawing:Int)≤countI (partsI c.reg c.lets c.of) y.drawing) && (decide (0≤y.dim) && decide (y.dim≤((takeI c.reg c.lets y.drawing).dims.length:Int) - 1))):=fun _ _=>rfl
    generalize partsI c.reg c.lets c.of=ps at *
    refine DT_loop (ι:={ j:Nat // j≤c.loops.length∧c.loops.all (loopOkR c)=(c.loops.drop j).all (loopOkR c) }) (fun p=>⟨125,[(1,.one (.ptr 0 0)),(2,bv false),(3,.one (.im (.sl (ps.map encItem)))),(4,iv (p.1:Int))],[.row ((encChains c).map .im)]⟩) (fun p=>c.loops.length - p.1) ⟨0,by simp⟩ (Weak.of_keep [1,2,3,4] (by simp)) ?_
    rintro ⟨j,hj,hall⟩
    simp only [iv,bv]
    by_cases hlj:j < c.loops.length
    ·have hx:c.loops[j]?=some c.loops[j]:=by simp [hlj]
     have hw:IntKind.i64.wrap ((j:Int) + 1)=((j + 1:Nat):Int):=i64w (by omega) (by omega)
     have hst:=all_step hlj hall
     have hlx:loopOkR c c.loops[j]=(ckL1 c.loops[j] && ckL2 c.loops[j] && c.loops[j].links.all (linkOkR c c.loops[j].links)):=rfl
     have h12:(ckL1 c.loops[j] && ckL2 c.loops[j])=true↔1≤c.loops[j].links.length∧c.loops[j].links.length≤8∧-8000000000≤c.loops[j].lo∧c.loops[j].lo≤8000000000∧c.loops[j].lo≤c.loops[j].hi∧c.loops[j].hi≤8000000000:=by
      rw [Bool.and_eq_true,ckL2_iff]
      simp only [ckL1,Bool.and_eq_true,decide_eq_true_eq];omega
     generalize hA:(ckL1 c.loops[j] && ckL2 c.loops[j])=A at h12 hlx
     generalize hxe:c.loops[j]=x at *
     have hs:True:=trivial
     repeat' first|(with_reducible first|refine q01 ?_|refine q02 ?_|refine q05 ?_|refine q11 ?_|refine q12 ?_|refine q14 ?_|refine q17 ?_)|(with_reducible refine At.fn_ret (by simp -dsimp [hx,hlj,hxe,hs];exact rfl) ?_)|(refine CallE.pure (within6_c (G:=G) _ _ _) ?_;try simp -dsimp [hx,hlj,hxe,hs])|(with_reducible refine DT_regionE [0,1,2,3,4,5,6,7,8,9,31,43,72,77,89,100,124] ?_;simp -dsimp [hx,hlj,hxe,hs])|(refine DT_cond rfl (fun h=>?_) (fun h=>?_)<;>(try simp only [nrm] at h)<;>(try exact Bool.noConfusion h))|(with_reducible refine GStop_split ?_ ?_<;>intro h<;>have h0:=h<;>(try simp only [nrm] at h)<;>(try exact Bool.noConfusion h)<;>have h2:=h<;>(try simp at h2)<;>(replace hs:=And.intro h0 (And.intro h (And.intro h2 hs)))<;>simp -dsimp [h0,h,h2,hx,hlj,hxe,hs])
     all_goals try simp -dsimp [hx,hlj,hxe,hs]
     all_goals try clear hs
     all_goals first
      | (have hA2 : A = false := false_of h12 (by clear h12 hw; omega)
         rw [hE,false_step hst (by rw [hlx,hA2];exact Bool.false_ne_true)];done)
      | skip
     have hA2:A=true:=true_of h12 (by clear h12 hw;omega)
     rw [hA2,Bool.true_and] at hlx
     have hx8:x.links.length≤8:=(h12.1 hA2).2.1
     clear h12
     refine DT_loop (ι:={ u:Nat // u≤x.links.length∧x.links.all (linkOkR c x.links)=(x.links.drop u).all (linkOkR c x.links) }) (fun p=>⟨125,[(1,.one (.ptr 0 0)),(2,bv false),(3,.one (.im (.sl (ps.map encItem)))),(4,iv (j:Int)),(5,.one (.ptr 2 0)),(6,iv (p.1:Int))],[.row ((encChains c).map .im),.vec 0 [] 0 true,.row ((encLoop x).map .im)]⟩) (fun p=>x.links.length - p.1) ⟨0,by simp⟩ (Weak.of_keep [1,2,3,4,5,6] (by simp)) ?_
     rintro ⟨u,hu,hal2⟩
     simp only [iv,bv]
     by_cases hlu:u < x.links.length
     ·have hy:x.links[u]?=some x.links[u]:=by simp [hlu]
      have hw2:IntKind.i64.wrap ((u:Int) + 1)=((u + 1:Nat):Int):=i64w (by omega) (by omega)
      have hst2:=all_step hlu hal2
      have hcp:=cntL_pos (List.getElem_mem hlu)
      have hle:=hlkE x.links x.links[u]
      generalize hye:x.links[u]=y at *
      have hs:True:=trivial
      repeat' first|(with_reducible first|refine q01 ?_|refine q11 ?_|refine q12 ?_|refine q14 ?_)|(with_reducible refine DT_regionE [0,1,2,3,4,5,6,7,8,9,31,43,72,77,89,100,124] ?_;simp -dsimp [hy,hlu,hye,hs])|(refine DT_cond rfl (fun h=>?_) (fun h=>?_)<;>(try simp only [nrm] at h)<;>(try exact Bool.noConfusion h))
      all_goals try simp -dsimp [hy,hlu,hye,hs]
      all_goals try clear hs
      refine DT_loop (ι:={ i:Nat // i≤x.links.length }) (fun p=>⟨125,[(1,.one (.ptr 0 0)),(2,bv false),(3,.one (.im (.sl (ps.map encItem)))),(4,iv (j:Int)),(5,.one (.ptr 2 0)),(6,iv (u:Int)),(7,.one (.ptr 3 0)),(8,iv (cntL (x.links.take p.1) y.drawing:Int)),(9,iv (p.1:Int))],[.row ((encChains c).map .im),.vec 0 [] 0 true,.row ((encLoop x).map .im),.row ((encLink y).map .im)]⟩) (fun p=>x.links.length - p.1) ⟨0,by omega⟩ (Weak.of_keep [1,2,3,4,5,6,7,8,9] (by simp [cntL])) ?_
      rintro ⟨i,hi⟩
      simp only [iv,bv]
      by_cases hli:i < x.links.length
      ·have hz:x.links[i]?=some x.links[i]:=by simp [hli]
       have hw3:IntKind.i64.wrap ((i:Int) + 1)=((i + 1:Nat):Int):=i64w (by omega) (by omega)
       have hcl:cntL (x.links.take i) y.drawing≤i:=by
        unfold cntL
        have:=List.length_filter_le (fun z:Link=>decide (z.drawing=y.drawing)) (x.links.take i)
        rw [List.length_take] at this;omega
       have hw4:IntKind.i64.wrap ((cntL (x.links.take i) y.drawing:Int) + 1)=(cntL (x.links.take i) y.drawing:Int) + 1:=i64w (by omega) (by omega)
       have hcn:cntL (x.links.take (i + 1)) y.drawing=cntL (x.links.take i) y.drawing + if x.links[i].drawing=y.drawing then 1 else 0:=by
        rw [List.take_succ_eq_append_getElem hli]
        unfold cntL
        rw [List.filter_append,List.length_append]
        congr 1
        by_cases h:x.links[i].drawing=y.drawing<;>simp [h]
       have hs:True:=trivial
       repeat' first|(with_reducible first|refine q01 ?_|refine q04 ?_|refine q11 ?_|refine q12 ?_|refine q14 ?_)|(refine DT_regionM (id:=18) (nt:=125) 9 [0,1,2,3,4,5,6,7,8,9,31,43,72,77,89,100,124] mixed rfl (by kernel_rfl) ?_;simp -dsimp [hz,hli,hw3,hw4,hs])|(with_reducible refine DT_regionE [0,1,2,3,4,5,6,7,8,9,31,43,72,77,89,100,124] ?_;simp -dsimp [hz,hli,hw3,hw4,hs])|(refine DT_cond rfl (fun h=>?_) (fun h=>?_)<;>(try simp only [nrm] at h)<;>(try exact Bool.noConfusion h))
       all_goals try simp -dsimp [hz,hli,hw3,hw4,hs]
       all_goals try clear hs
       ·have hcn':(cntL (x.links.take (i + 1)) y.drawing:Int)=(cntL (x.links.take i) y.drawing:Int) + 1:=by rw [hcn,if_pos ‹_›];rfl
        exact At.round ⟨i + 1,by omega⟩ (by simp;omega) (Weak.of_keep [1,2,3,4,5,6,7,8,9] (by simp [hcn']))
       ·have hcn':cntL (x.links.take (i + 1)) y.drawing=cntL (x.links.take i) y.drawing:=by rw [hcn,if_neg ‹_›];rfl
        exact At.round ⟨i + 1,by omega⟩ (by simp;omega) (Weak.of_keep [1,2,3,4,5,6,7,8,9] (by simp [hcn']))
      ·have hti:x.links.take i=x.links:=List.take_of_length_le (by omega)
       rw [hti]
       have k1:=count_c (G:=G) ps y.drawing (by omega)
       by_cases hgt:countI ps y.drawing < (cntL x.links y.drawing:Int)
       ·have hf:linkOkR c x.links y=false:=by rw [hle,decide_eq_false (by omega)];rfl
        have hs:True:=trivial
        repeat' first|(with_reducible first|refine q01 ?_|refine q02 ?_|refine q03 ?_|refine q05 ?_|refine q06 ?_|refine q11 ?_|refine q16 ?_|refine q17 ?_)|(with_reducible refine At.fn_ret (by simp -dsimp [hli,hgt,hs];exact rfl) ?_)|(refine QCall_pure (k1) ?_;try simp -dsimp [hli,hgt,hs])|(refine DT_regionM (id:=20) (nt:=125) 22 [0,1,2,3,4,5,6,7,8,9,31,43,72,77,89,100,124] mixed rfl (by kernel_rfl) ?_;simp -dsimp [hli,hgt,hs])|(with_reducible refine DT_regionE [0,1,2,3,4,5,6,7,8,9,31,43,72,77,89,100,124] ?_;simp -dsimp [hli,hgt,hs])|(refine DT_cond rfl (fun h=>?_) (fun h=>?_)<;>(try simp only [nrm] at h)<;>(try exact Bool.noConfusion h))
        all_goals try simp -dsimp [hli,hgt,hs]
        all_goals try clear hs
        rw [hE,false_step hst (by rw [hlx,false_step hst2 (by rw [hf];exact Bool.false_ne_true)];exact Bool.false_ne_true)]
       ·have hym:=hpm y.drawing (by omega)
        have k2:=taken_c (G:=G) c.reg c.lets y.drawing (by omega) hym hll
        rw [decide_eq_true (by omega),Bool.true_and] at hle
        have htb:(takeI c.reg c.lets y.drawing).dims.length < 1000000:=by
         obtain ⟨hm,_⟩:=take_spec hck hlet hym
         have:=(hsr.2 _ hm).2.2.2;omega
        generalize takeI c.reg c.lets y.drawing=t at *
        have hwd:IntKind.i64.wrap ((t.dims.length:Int) - 1)=(t.dims.length:Int) - 1:=i64w (by omega) (by omega)
        have k3:=within6_c (G:=G) y.dim 0 ((t.dims.length:Int) - 1)
        rw [← hle] at k3
        cases hq:linkOkR c x.links y
        ·rw [hq] at k3
         have hs:True:=trivial
         repeat' first|(with_reducible first|refine q01 ?_|refine q02 ?_|refine q03 ?_|refine q05 ?_|refine q06 ?_|refine q11 ?_|refine q16 ?_|refine q17 ?_)|(with_reducible refine At.fn_ret (by simp -dsimp [hli,hgt,hwd,hs];exact rfl) ?_)|(refine QCall_pure (k1) ?_;try simp -dsimp [hli,hgt,hwd,hs])|(refine QCall_pure (k2) ?_;try simp -dsimp [hli,hgt,hwd,hs])|(refine QCall_pure (k3) ?_;try simp -dsimp [hli,hgt,hwd,hs])|(refine DT_regionM (id:=20) (nt:=125) 22 [0,1,2,3,4,5,6,7,8,9,31,43,72,77,89,100,124] mixed rfl (by kernel_rfl) ?_;simp -dsimp [hli,hgt,hwd,hs])|(with_reducible refine DT_regionE [0,1,2,3,4,5,6,7,8,9,31,43,72,77,89,100,124] ?_;simp -dsimp [hli,hgt,hwd,hs])|(refine DT_cond rfl (fun h=>?_) (fun h=>?_)<;>(try simp only [nrm] at h)<;>(try exact Bool.noConfusion h))
         all_goals try simp -dsimp [hli,hgt,hwd,hs]
         all_goals try clear hs
         rw [hE,false_step hst (by rw [hlx,false_step hst2 (by rw [hq];exact Bool.false_ne_true)];exact Bool.false_ne_true)]
        ·rw [hq] at k3
         have hs:True:=trivial
         repeat' first|(with_reducible first|refine q01 ?_|refine q03 ?_|refine q04 ?_|refine q06 ?_|refine q11 ?_|refine q14 ?_|refine q16 ?_)|(refine QCall_pure (k1) ?_;try simp -dsimp [hli,hgt,hwd,hw2,hs])|(refine QCall_pure (k2) ?_;try simp -dsimp [hli,hgt,hwd,hw2,hs])|(refine QCall_pure (k3) ?_;try simp -dsimp [hli,hgt,hwd,hw2,hs])|(refine DT_regionM (id:=20) (nt:=125) 22 [0,1,2,3,4,5,6,7,8,9,31,43,72,77,89,100,124] mixed rfl (by kernel_rfl) ?_;simp -dsimp [hli,hgt,hwd,hw2,hs])|(with_reducible refine DT_regionE [0,1,2,3,4,5,6,7,8,9,31,43,72,77,89,100,124] ?_;simp -dsimp [hli,hgt,hwd,hw2,hs])|(refine DT_cond rfl (fun h=>?_) (fun h=>?_)<;>(try simp only [nrm] at h)<;>(try exact Bool.noConfusion h))
         all_goals try simp -dsimp [hli,hgt,hwd,hw2,hs]
         all_goals try clear hs
         exact At.round ⟨u + 1,by omega,eq_of_step hst2 hq⟩ (by simp;omega) (Weak.of_drop [1,2,3,4,5,6] 3 (by simp) (by simp) (by simp))
     ·have hok:x.links.all (linkOkR c x.links)=true:=by rw [hal2,List.drop_eq_nil_of_le (by omega)];rfl
      have hs:True:=trivial
      repeat' first|(with_reducible first|refine q01 ?_|refine q03 ?_|refine q04 ?_|refine q06 ?_|refine q11 ?_|refine q16 ?_)|(with_reducible refine DT_regionE [0,1,2,3,4,5,6,7,8,9,31,43,72,77,89,100,124] ?_;simp -dsimp [hlu,hw,hs])|(refine DT_cond rfl (fun h=>?_) (fun h=>?_)<;>(try simp only [nrm] at h)<;>(try exact Bool.noConfusion h))
      all_goals try simp -dsimp [hlu,hw,hs]
      all_goals try clear hs
      exact At.round ⟨j + 1,by omega,eq_of_step hst (by rw [hlx,hok])⟩ (by simp;omega) (Weak.of_drop [1,2,3,4] 1 (by simp) (by simp) (by simp))
    ·have hok:c.loops.all (loopOkR c)=true:=by rw [hall,List.drop_eq_nil_of_le (by omega)];rfl
     have hs:True:=trivial
     repeat' first|(with_reducible first|refine q01 ?_|refine q03 ?_|refine q06 ?_|refine q11 ?_|refine q16 ?_|refine q17 ?_)|(with_reducible refine At.fn_ret (by simp -dsimp [hlj,hs];exact rfl) ?_)|(with_reducible refine DT_regionE [0,1,2,3,4,5,6,7,8,9,31,43,72,77,89,100,124] ?_;simp -dsimp [hlj,hs])|(refine DT_cond rfl (fun h=>?_) (fun h=>?_)<;>(try simp only [nrm] at h)<;>(try exact Bool.noConfusion h))
     all_goals try simp -dsimp [hlj,hs]
     all_goals try clear hs
     rw [hE,hok]
   ·have hd:(decide ((1:Int)≤(c.loops.length:Int)) && decide ((c.loops.length:Int)≤6))=false:=by simp;omega
    have hE:chainsOk c=false:=by simp [chainsOk,hn]
    have hz:¬ idx (nums c.reg) c.of < 0:=fun h=>him.1 h hof
    rw [hlet] at c1
    rw [hd] at c4
    have hs:True:=trivial
    repeat' first|(with_reducible first|refine q01 ?_|refine q02 ?_|refine q11 ?_|refine q17 ?_)|(with_reducible refine At.fn_ret (by simp -dsimp [hz,hs];exact rfl) ?_)|(refine QCall_pure (c1) ?_;try simp -dsimp [hz,hs])|(refine QCall_pure (c2) ?_;try simp -dsimp [hz,hs])|(refine QCall_pure (c3) ?_;try simp -dsimp [hz,hs])|(refine QCall_pure (c4) ?_;try simp -dsimp [hz,hs])|(refine DT_regionM (id:=1) (nt:=125) 22 [0,1,2,3,4,5,6,7,8,9,31,43,72,77,89,100,124] mixed rfl (by kernel_rfl) ?_;simp -dsimp [hz,hs])|(with_reducible refine DT_regionE [0,1,2,3,4,5,6,7,8,9,31,43,72,77,89,100,124] ?_;simp -dsimp [hz,hs])|(refine DT_cond rfl (fun h=>?_) (fun h=>?_)<;>(try simp only [nrm] at h)<;>(try exact Bool.noConfusion h))
    all_goals try simp -dsimp [hz,hs]
    all_goals try clear hs
    rw [hE]
  ·have hE:chainsOk c=false:=by simp [chainsOk,hof]
   have hz:idx (nums c.reg) c.of < 0:=him.2 hof
   rw [hlet] at c1
   have hs:True:=trivial
   repeat' first|(with_reducible first|refine q01 ?_|refine q02 ?_|refine q11 ?_|refine q17 ?_)|(with_reducible refine At.fn_ret (by simp -dsimp [hz,hs];exact rfl) ?_)|(refine QCall_pure (c1) ?_;try simp -dsimp [hz,hs])|(refine QCall_pure (c2) ?_;try simp -dsimp [hz,hs])|(refine QCall_pure (c3) ?_;try simp -dsimp [hz,hs])|(refine DT_regionM (id:=1) (nt:=125) 22 [0,1,2,3,4,5,6,7,8,9,31,43,72,77,89,100,124] mixed rfl (by kernel_rfl) ?_;simp -dsimp [hz,hs])|(with_reducible refine DT_regionE [0,1,2,3,4,5,6,7,8,9,31,43,72,77,89,100,124] ?_;simp -dsimp [hz,hs])|(refine DT_cond rfl (fun h=>?_) (fun h=>?_)<;>(try simp only [nrm] at h)<;>(try exact Bool.noConfusion h))
   all_goals try simp -dsimp [hz,hs]
   all_goals try clear hs
   rw [hE]
 ·have hlet':lettersI c.reg c.lets=false:=by simpa using hlet
  have hE:chainsOk c=false:=by simp [chainsOk,hlet']
  rw [hlet'] at c1
  have hs:True:=trivial
  repeat' first|(with_reducible first|refine q01 ?_|refine q02 ?_|refine q11 ?_|refine q17 ?_)|(with_reducible refine At.fn_ret (by simp -dsimp [hs];exact rfl) ?_)|(refine QCall_pure (c1) ?_;try simp -dsimp [hs])|(refine DT_regionM (id:=1) (nt:=125) 22 [0,1,2,3,4,5,6,7,8,9,31,43,72,77,89,100,124] mixed rfl (by kernel_rfl) ?_;simp -dsimp [hs])|(with_reducible refine DT_regionE [0,1,2,3,4,5,6,7,8,9,31,43,72,77,89,100,124] ?_;simp -dsimp [hs])|(refine DT_cond rfl (fun h=>?_) (fun h=>?_)<;>(try simp only [nrm] at h)<;>(try exact Bool.noConfusion h))
  all_goals try simp -dsimp [hs]
  all_goals try clear hs
  rw [hE]
theorem chainsOk_iff {c:Chains} (h0:checkR c.reg=0):chainsE c=if chainsOk c then 0 else 60:=by
 rw [chainsE_zero h0]
 have:(chainsOk c=true)=(lettersI c.reg c.lets=true∧c.of∈nums c.reg∧(1≤c.loops.length∧c.loops.length≤6)∧c.loops.all (loopOkR c)=true):=by
  simp only [chainsOk,Bool.and_eq_true,decide_eq_true_eq,and_assoc]
 by_cases h:chainsOk c=true
 ·rw [if_pos h,if_pos (this ▸ h)]
 ·rw [if_neg h,if_neg (this ▸ h)]
theorem rChCheck_c (c:Chains) (hs:SmallC c) (objs:List DObj):DCall Tryz.prog G 73 [chv c] objs (fun rr objs'=>rr=iv (chainsE c)∧objs'=objs):=by
 refine DCall.frame ?_ (by simp) (by simp) objs
 refine DCall_intro Tryz.func73 rfl Tryz.ntmps73 (by simp) rfl ?_
 try simp only [chv]
 have c1:=rcheck_c (G:=G) c.reg hs.1
 by_cases hck:checkR c.reg=0
 ·have c2:=rChains_c (G:=G) c hs hck
  have hE:=chainsOk_iff hck
  rw [hck] at c1
  cases hq:chainsOk c
  ·rw [hq] at c2 hE
   have hs:True:=trivial
   repeat' first|(with_reducible first|refine q01 ?_|refine q02 ?_|refine q11 ?_|refine q14 ?_|refine q17 ?_)|(with_reducible refine At.fn_ret (by simp -dsimp [hs];exact rfl) ?_)|(refine CallE.pure (c1) ?_;try simp -dsimp [hs])|(refine CallE.pure (c2) ?_;try simp -dsimp [hs])|(with_reducible refine DT_regionE [0,1,2,3,8,12] ?_;simp -dsimp [hs])|(refine DT_cond rfl (fun h=>?_) (fun h=>?_)<;>(try simp only [nrm] at h)<;>(try exact Bool.noConfusion h))
   all_goals try simp -dsimp [hs]
   all_goals try clear hs
   simp [hE]
  ·rw [hq] at c2 hE
   have hs:True:=trivial
   repeat' first|(with_reducible first|refine q01 ?_|refine q11 ?_|refine q14 ?_|refine q17 ?_)|(with_reducible refine At.fn_ret (by simp -dsimp [hs];exact rfl) ?_)|(refine CallE.pure (c1) ?_;try simp -dsimp [hs])|(refine CallE.pure (c2) ?_;try simp -dsimp [hs])|(with_reducible refine DT_regionE [0,1,2,3,8,12] ?_;simp -dsimp [hs])|(refine DT_cond rfl (fun h=>?_) (fun h=>?_)<;>(try simp only [nrm] at h)<;>(try exact Bool.noConfusion h))
   all_goals try simp -dsimp [hs]
   all_goals try clear hs
   simp [hE]
 ·have hE:chainsE c=checkR c.reg:=by simp [chainsE,hck]
  have hs:True:=trivial
  repeat' first|(with_reducible first|refine q01 ?_|refine q02 ?_|refine q11 ?_|refine q17 ?_)|(with_reducible refine At.fn_ret (by simp -dsimp [hck,hs];exact rfl) ?_)|(refine CallE.pure (c1) ?_;try simp -dsimp [hck,hs])|(with_reducible refine DT_regionE [0,1,2,3,8,12] ?_;simp -dsimp [hck,hs])|(refine DT_cond rfl (fun h=>?_) (fun h=>?_)<;>(try simp only [nrm] at h)<;>(try exact Bool.noConfusion h))
  all_goals try simp -dsimp [hck,hs]
  all_goals try clear hs
  simp [hE]
end Go.Proofs
namespace Go.Ab
open Go
structure Spot where
 drawing:Int
 dim:Int
 deriving DecidableEq
def encSpot (x:Spot):List IC:=[rI x.drawing,rI x.dim]
def spotsv (l:List Spot):DV:=.one (.im (.sl (l.map encSpot)))
attribute [simp] encSpot spotsv
def before (a b:Spot):Bool:=decide (a.drawing < b.drawing) || (decide (a.drawing=b.drawing) && decide (a.dim < b.dim))
theorem before_iff {a b:Spot}:before a b=true↔a.drawing < b.drawing∨a.drawing=b.drawing∧a.dim < b.dim:=by simp [before]
theorem before_irrefl (a:Spot):before a a=false:=by simp [before]
theorem before_trans {a b c:Spot} (h:before a b=true) (k:before b c=true):before a c=true:=by
 rw [before_iff] at *;omega
theorem before_tri {a b:Spot} (h:a≠b):before a b=true∨before b a=true:=by
 rw [before_iff,before_iff]
 have:¬ (a.drawing=b.drawing∧a.dim=b.dim):=fun e=>h (by cases a;cases b;simp_all)
 omega
theorem before_asymm {a b:Spot} (h:before a b=true):before b a=false:=by
 cases hq:before b a with
 | false=>rfl
 | true=>have:=before_trans h hq;rw [before_irrefl] at this;cases this
def SortedS (l:List Spot):Prop:=l.Pairwise fun a b=>before a b=true
theorem SortedS.nodup {l:List Spot} (h:SortedS l):l.Nodup:=h.imp fun h e=>by rw [e,before_irrefl] at h;cases h
theorem sorted_unique:∀ {a b:List Spot},SortedS a→SortedS b→(∀ x,x∈a↔x∈b)→a=b
 | [],[],_,_,_=>rfl
 | [],y :: b,_,_,h=>by have:=(h y).2 (by simp);simp at this
 | x :: a,[],_,_,h=>by have:=(h x).1 (by simp);simp at this
 | x :: a,y :: b,ha,hb,h=>by
   have ha':=ha
   have hb':=hb
   unfold SortedS at ha hb
   rw [List.pairwise_cons] at ha hb
   have e:x=y:=by
    rcases List.mem_cons.1 ((h x).1 (by simp)) with e|h1
    ·exact e
    rcases List.mem_cons.1 ((h y).2 (by simp)) with e|h2
    ·exact e.symm
    have:=before_asymm (ha.1 y h2)
    rw [hb.1 x h1] at this;cases this
   subst e
   have:=sorted_unique ha.2 hb.2 fun z=>by
    have hz:=h z
    have hn1:=ha'.nodup;have hn2:=hb'.nodup
    rw [List.nodup_cons] at hn1 hn2
    constructor
    ·intro hm
     rcases List.mem_cons.1 (hz.1 (by simp [hm])) with e|h1
     ·subst e;exact absurd hm hn1.1
     ·exact h1
    ·intro hm
     rcases List.mem_cons.1 (hz.2 (by simp [hm])) with e|h1
     ·subst e;exact absurd hm hn2.1
     ·exact h1
   rw [this]
def insAt (x:Spot):List Spot→Nat
 | []=>0
 | y :: r=>if before y x then insAt x r + 1 else 0
def insS (x:Spot) (l:List Spot):List Spot:=l.take (insAt x l) ++ x :: l.drop (insAt x l)
theorem insAt_le (x:Spot):∀ l:List Spot,insAt x l≤l.length
 | []=>Nat.le_refl _
 | y :: r=>by simp only [insAt];split<;>simp;exact insAt_le x r
theorem insS_nil (x:Spot):insS x []=[x]:=rfl
theorem insS_cons (x y:Spot) (r:List Spot):insS x (y :: r)=if before y x then y :: insS x r else x :: y :: r:=by
 simp only [insS,insAt]
 split<;>simp
theorem mem_insS {x z:Spot}:∀ {l:List Spot},z∈insS x l↔z=x∨z∈l
 | []=>by simp [insS_nil]
 | y :: r=>by
   rw [insS_cons]
   split
   ·rw [List.mem_cons,mem_insS,List.mem_cons]
    constructor<;>(rintro (h|h|h)<;>simp [h])
   ·simp
theorem insS_sorted {x:Spot}:∀ {l:List Spot},SortedS l→x∉l→SortedS (insS x l)
 | [],_,_=>by rw [insS_nil];exact List.pairwise_singleton _ _
 | y :: r,h,hn=>by
   unfold SortedS at h
   rw [List.pairwise_cons] at h
   rw [insS_cons]
   have hne:x≠y:=fun e=>hn (by simp [e])
   split
   ·rename_i hb
    refine List.pairwise_cons.2 ⟨fun z hz=>?_,insS_sorted h.2 fun hm=>hn (by simp [hm])⟩
    rcases mem_insS.1 hz with rfl|hz
    ·exact hb
    ·exact h.1 z hz
   ·rename_i hb
    have hxy:before x y=true:=(before_tri hne).resolve_right hb
    refine List.pairwise_cons.2 ⟨fun z hz=>?_,List.pairwise_cons.2 h⟩
    rcases List.mem_cons.1 hz with rfl|hz
    ·exact hxy
    ·exact before_trans hxy (h.1 z hz)
def addS (f:Spot→Bool) (out:List Spot) (x:Spot):List Spot:=if f x=false∨x∈out then out else insS x out
def allS (f:Spot→Bool) (l:List Spot):List Spot:=l.foldl (addS f) []
theorem addS_sorted {f:Spot→Bool} {out:List Spot} (h:SortedS out) (x:Spot):SortedS (addS f out x):=by
 unfold addS
 split
 ·exact h
 ·rename_i hc
  exact insS_sorted h fun hm=>hc (.inr hm)
theorem foldS_sorted {f:Spot→Bool}:∀ (l out:List Spot),SortedS out→SortedS (l.foldl (addS f) out)
 | [],_,h=>h
 | x :: l,out,h=>foldS_sorted l _ (addS_sorted h x)
theorem mem_addS {f:Spot→Bool} {out:List Spot} {x z:Spot}:z∈addS f out x↔z∈out∨z=x∧f x=true:=by
 unfold addS
 split
 ·rename_i hc
  constructor
  ·exact .inl
  ·rintro (h|⟨rfl,h⟩)
   ·exact h
   ·rcases hc with hc|hc
    ·rw [h] at hc;cases hc
    ·exact hc
 ·rename_i hc
  rw [mem_insS]
  have:f x=true:=by
   cases hq:f x with
   | true=>rfl
   | false=>exact absurd (.inl hq) hc
  constructor
  ·rintro (h|h)
   ·exact .inr ⟨h,this⟩
   ·exact .inl h
  ·rintro (h|h)
   ·exact .inr h
   ·exact .inl h.1
theorem mem_foldS {f:Spot→Bool} {z:Spot}:∀ {l out:List Spot},z∈l.foldl (addS f) out↔z∈out∨z∈l∧f z=true
 | [],out=>by simp
 | x :: l,out=>by
   rw [List.foldl_cons,mem_foldS,mem_addS,List.mem_cons]
   constructor
   ·rintro ((h|⟨rfl,h⟩)|h)
    ·exact .inl h
    ·exact .inr ⟨.inl rfl,h⟩
    ·exact .inr ⟨.inr h.1,h.2⟩
   ·rintro (h|⟨rfl|h1,h2⟩)
    ·exact .inl (.inl h)
    ·exact .inl (.inr ⟨rfl,h2⟩)
    ·exact .inr ⟨h1,h2⟩
theorem allS_sorted (f:Spot→Bool) (l:List Spot):SortedS (allS f l):=foldS_sorted l [] List.Pairwise.nil
theorem mem_allS {f:Spot→Bool} {l:List Spot} {z:Spot}:z∈allS f l↔z∈l∧f z=true:=by rw [allS,mem_foldS];simp
def kS (x:Spot):List Value:=[.int .i64 x.drawing,.int .i64 x.dim]
def encP (l:List Spot):List (List Value×List DC):=l.map fun x=>(kS x,[.im (rB true)])
def encPI (l:List Spot):List (List Value×List IC):=l.map fun x=>(kS x,[rB true])
def sputS (x:Spot) (l:List Spot):List Spot:=if x∈l then l else l ++ [x]
theorem beqs_S (a b:Int) (y:Spot):beqs [.int .i64 a,.int .i64 b] (kS y)=decide (y=⟨a,b⟩):=by
 simp only [kS,beqs,Bool.and_true]
 obtain ⟨p,q⟩:=y
 rw [Bool.eq_iff_iff]
 simp only [decide_eq_true_eq,Bool.and_eq_true,beq_iff_eq,Spot.mk.injEq]
 constructor<;>(rintro ⟨rfl,rfl⟩;exact ⟨rfl,rfl⟩)
theorem mset_P (l:List Spot) (a b:Int):mset [.int .i64 a,.int .i64 b] [.im (.raw (.bool true))] (encP l)=encP (sputS ⟨a,b⟩ l):=by
 have gen:∀ l:List Spot,(⟨a,b⟩∈l→mset [.int .i64 a,.int .i64 b] [.im (.raw (.bool true))] (encP l)=encP l)∧(⟨a,b⟩∉l→mset [.int .i64 a,.int .i64 b] [.im (.raw (.bool true))] (encP l)=encP (l ++ [⟨a,b⟩])):=by
  intro l
  induction l with
  | nil=>exact ⟨fun h=>by simp at h,fun _=>rfl⟩
  | cons p r ih =>
    have e:∀ r,encP (p :: r)=(kS p,[.im (rB true)]) :: encP r:=fun _=>rfl
    rw [List.cons_append,e,e]
    simp only [mset,beqs_S,decide_eq_true_eq]
    constructor
    ·intro h
     split
     ·rename_i h1;subst h1;rfl
     ·rename_i h1
      rw [ih.1 ((List.mem_cons.1 h).resolve_left fun h2=>h1 h2.symm)]
    ·intro h
     split
     ·rename_i h1;exact absurd (List.mem_cons.2 (.inl h1.symm)) h
     ·rw [ih.2 fun h2=>h (List.mem_cons_of_mem _ h2)]
 unfold sputS
 split
 ·exact (gen l).1 ‹_›
 ·exact (gen l).2 ‹_›
theorem encP_len (l:List Spot):(encP l).length=l.length:=by simp [encP]
theorem midx_P {x:Spot}:∀ {l:List Spot} {i:Nat},l.Nodup→l[i]?=some x→midx [.int .i64 x.drawing,.int .i64 x.dim] (encP l)=some i
 | [],i,_,h=>by simp at h
 | y :: r,i,hn,h=>by
   rw [List.nodup_cons] at hn
   have e:encP (y :: r)=(kS y,[.im (rB true)]) :: encP r:=rfl
   rw [e]
   simp only [midx,beqs_S,decide_eq_true_eq]
   cases i with
   | zero=>simp at h;subst h;rw [if_pos rfl]
   | succ i =>
     have h':r[i]?=some x:=by simpa using h
     rw [if_neg (fun e=>hn.1 (by cases x;cases y;cases e;exact List.mem_of_getElem? h')),midx_P hn.2 h'];rfl
theorem mdel_P {x:Spot} {l:List Spot} {i:Nat} (hn:l.Nodup) (h:l[i]?=some x):mdel [.int .i64 x.drawing,.int .i64 x.dim] (encP l)=encP (l.eraseIdx i):=by
 rw [mdel_some (midx_P hn h)]
 refine List.ext_getElem? fun j=>?_
 simp only [encP,List.getElem?_map,List.getElem?_eraseIdx]
 split<;>simp
theorem sputS_nodup {x:Spot} {l:List Spot} (h:l.Nodup):(sputS x l).Nodup:=by
 unfold sputS
 split
 ·exact h
 ·rename_i hn
  rw [List.nodup_append]
  exact ⟨h,by simp,fun a ha b hb=>by simp at hb;subst hb;exact fun e=>hn (e ▸ ha)⟩
theorem foldP_nodup:∀ (ys:List Spot) (l:List Spot),l.Nodup→(ys.foldl (fun l x=>sputS x l) l).Nodup
 | [],_,h=>h
 | y :: ys,l,h=>foldP_nodup ys _ (sputS_nodup h)
theorem mem_foldP {z:Spot}:∀ {ys l:List Spot},z∈ys.foldl (fun l x=>sputS x l) l↔z∈l∨z∈ys
 | [],l=>by simp
 | y :: ys,l=>by
   rw [List.foldl_cons,mem_foldP,List.mem_cons]
   unfold sputS
   split
   ·rename_i h
    constructor
    ·rintro (h1|h1)
     ·exact .inl h1
     ·exact .inr (.inr h1)
    ·rintro (h1|rfl|h1)
     ·exact .inl h1
     ·exact .inl h
     ·exact .inr h1
   ·rw [List.mem_append,List.mem_singleton]
    constructor
    ·rintro ((h1|h1)|h1)
     ·exact .inl h1
     ·exact .inr (.inl h1)
     ·exact .inr (.inr h1)
    ·rintro (h1|h1|h1)
     ·exact .inl (.inl h1)
     ·exact .inl (.inr h1)
     ·exact .inr h1
@[simp] theorem mapO_P (k n:Nat) (objs:List DObj) (l:List Spot):mapO (fun x:List Value×List DC=>(mapO (frz (k + 1) n objs) x.2).map fun l=>(x.1,l)) (encP l)=some (encPI l):=by
 induction l with
 | nil=>rfl
 | cons p r ih =>
   have e:encP (p :: r)=(kS p,[.im (rB true)]) :: encP r:=rfl
   rw [e]
   simp [mapO,ih,encPI]
@[simp] theorem map_fz_P (n:Nat) (objs:List DObj) (l:List Spot):((encP l).map fun x=>(x.1,x.2.map (fz n objs)))=encP l:=by
 simp [encP,fz,DC.lt]
@[simp] theorem ims_getS (L:List Spot) (k:Nat) (h:k < (ims (L.map encSpot)).length):(ims (L.map encSpot))[k]=[DC.im (.raw (.int .i64 (L[k]'(by simpa [ims_length] using h)).drawing)),DC.im (.raw (.int .i64 (L[k]'(by simpa [ims_length] using h)).dim))]:=by
 simp [ims]
theorem encP_get {l:List Spot} {i:Nat} {x:List Value×List DC} (h:(encP l)[i]?=some x):∃ y,l[i]?=some y∧x=([.int .i64 y.drawing,.int .i64 y.dim],[.im (.raw (.bool true))]):=by
 simp only [encP,List.getElem?_map,Option.map_eq_some_iff] at h
 obtain ⟨y,h1,rfl⟩:=h
 exact ⟨y,h1,rfl⟩
theorem encP_get2 {l:List Spot} {i:Nat} {a:List Value} {b:List DC} (h:(encP l)[i]?=some (a,b)):∃ y,l[i]?=some y∧a=[.int .i64 y.drawing,.int .i64 y.dim]∧b=[.im (.raw (.bool true))]:=by
 obtain ⟨y,h1,h2⟩:=encP_get h
 cases h2
 exact ⟨y,h1,rfl,rfl⟩
theorem encPI_get {l:List Spot} {i:Nat} {a:List Value} {b:List IC} (h:(encPI l)[i]?=some (a,b)):∃ y,l[i]?=some y∧a=[.int .i64 y.drawing,.int .i64 y.dim]∧b=[.raw (.bool true)]:=by
 simp only [encPI,List.getElem?_map,Option.map_eq_some_iff] at h
 obtain ⟨y,h1,h2⟩:=h
 cases h2
 exact ⟨y,h1,rfl,rfl⟩
theorem encPI_erase (l:List Spot) (i:Nat):(encPI l).eraseIdx i=encPI (l.eraseIdx i):=by
 refine List.ext_getElem? fun j=>?_
 simp only [encPI,List.getElem?_map,List.getElem?_eraseIdx]
 split<;>simp
theorem map_eraseIdx {α β:Type} (f:α→β) (l:List α) (i:Nat):(l.eraseIdx i).map f=(l.map f).eraseIdx i:=by
 refine List.ext_getElem? fun j=>?_
 simp only [List.getElem?_map,List.getElem?_eraseIdx]
 split<;>simp
theorem idxOf_nodup {l:List Nat} (hn:l.Nodup) {i s:Nat} (h:l[i]?=some s):l.idxOf? s=some i:=by
 rw [List.idxOf?,List.findIdx?_eq_some_iff_getElem]
 obtain ⟨h1,h2⟩:=List.getElem?_eq_some_iff.1 h
 refine ⟨h1,by simpa using h2,fun j hj he=>?_⟩
 have he:l[j]=s:=by simpa using he
 have:=(List.getElem_inj hn).1 (he.trans h2.symm)
 omega
def qL (f:Spot→Bool) (seen:List Nat) (p:Spot×Nat):Bool:=!(decide (p.2∈seen) && !f p.1)
def leftP (f:Spot→Bool) (P:List (Spot×Nat)) (seen:List Nat):List (Spot×Nat):=P.filter (qL f seen)
theorem leftP_nil (f:Spot→Bool) (P:List (Spot×Nat)):leftP f P []=P:=by
 unfold leftP
 exact List.filter_eq_self.2 fun p _=>by simp [qL]
theorem leftP_keep {f:Spot→Bool} {P:List (Spot×Nat)} {seen:List Nat} {x:Spot} {s:Nat} (hn:(P.map (·.2)).Nodup) (hm:(x,s)∈P) (hf:f x=true):leftP f P (seen ++ [s])=leftP f P seen:=by
 unfold leftP
 refine List.filter_congr fun p hp=>?_
 simp only [qL,List.mem_append,List.mem_singleton]
 by_cases e:p.2=s
 ·have:p=(x,s):=by
   obtain ⟨i,hi⟩:=List.mem_iff_getElem?.1 hp
   obtain ⟨j,hj⟩:=List.mem_iff_getElem?.1 hm
   have h1:(P.map (·.2))[i]?=some s:=by rw [List.getElem?_map,hi];simp [e]
   have h2:(P.map (·.2))[j]?=some s:=by rw [List.getElem?_map,hj];rfl
   have:i=j:=(List.getElem?_inj (lt_of_getElem? h1) hn).1 (h1.trans h2.symm)
   subst this
   rw [hi] at hj;cases hj;rfl
  subst this
  simp [hf]
 ·simp [e]
theorem filter_eraseIdx {α:Type} {p q:α→Bool} {a:α}:∀ {l:List α} {i:Nat},l.Nodup→(l.filter p)[i]?=some a→(∀ b∈l,b≠a→q b=p b)→q a=false→l.filter q=(l.filter p).eraseIdx i
 | [],i,_,h,_,_=>by simp at h
 | y :: l,i,hn,h,hq,ha=>by
   rw [List.nodup_cons] at hn
   by_cases e:y=a
   ·subst e
    have hp:p y=true:=(List.mem_filter.1 (List.mem_of_getElem? h)).2
    rw [List.filter_cons_of_pos hp] at h ⊢
    rw [List.filter_cons_of_neg (by simp [ha])]
    have hi:i=0:=by
     cases i with
     | zero=>rfl
     | succ i =>
       have:(l.filter p)[i]?=some y:=by simpa using h
       exact absurd (List.mem_filter.1 (List.mem_of_getElem? this)).1 hn.1
    subst hi
    rw [List.eraseIdx_cons_zero]
    exact List.filter_congr fun b hb=>hq b (by simp [hb]) fun e=>hn.1 (e ▸ hb)
   ·have hy:=hq y (by simp) e
    by_cases hp:p y=true
    ·rw [List.filter_cons_of_pos hp] at h ⊢
     rw [List.filter_cons_of_pos (by rw [hy];exact hp)]
     cases i with
     | zero=>simp at h;exact absurd h e
     | succ i =>
       rw [List.eraseIdx_cons_succ,filter_eraseIdx hn.2 (by simpa using h) (fun b hb=>hq b (by simp [hb])) ha]
    ·rw [List.filter_cons_of_neg hp] at h ⊢
     rw [List.filter_cons_of_neg (by rw [hy];exact hp)]
     exact filter_eraseIdx hn.2 h (fun b hb=>hq b (by simp [hb])) ha
theorem leftP_del {f:Spot→Bool} {P:List (Spot×Nat)} {seen:List Nat} {x:Spot} {s i:Nat} (hn:(P.map (·.2)).Nodup) (hi:(leftP f P seen)[i]?=some (x,s)) (hf:f x=false):leftP f P (seen ++ [s])=(leftP f P seen).eraseIdx i:=by
 have hnP:P.Nodup:=by
  have:=hn
  rw [List.Nodup,List.pairwise_map] at this
  exact this.imp fun h e=>h (by rw [e])
 have hm:(x,s)∈P:=(List.mem_filter.1 (List.mem_of_getElem? hi)).1
 unfold leftP at hi ⊢
 refine filter_eraseIdx hnP hi (fun p hp hne=>?_) (by simp [qL,hf])
 simp only [qL,List.mem_append,List.mem_singleton]
 have:p.2≠s:=fun e=>by
  obtain ⟨i,hi⟩:=List.mem_iff_getElem?.1 hp
  obtain ⟨j,hj⟩:=List.mem_iff_getElem?.1 hm
  have h1:(P.map (·.2))[i]?=some s:=by rw [List.getElem?_map,hi];simp [e]
  have h2:(P.map (·.2))[j]?=some s:=by rw [List.getElem?_map,hj];rfl
  have:i=j:=(List.getElem?_inj (lt_of_getElem? h1) hn).1 (h1.trans h2.symm)
  subst this
  rw [hi] at hj;cases hj;exact hne rfl
 simp [this]
theorem leftP_end {f:Spot→Bool} {P:List (Spot×Nat)} {seen:List Nat} (h:∀ s∈(leftP f P seen).map (·.2),s∈seen):(leftP f P seen).map (·.1)=(P.map (·.1)).filter f:=by
 rw [List.filter_map]
 unfold leftP at h ⊢
 congr 1
 refine List.filter_congr fun p hp=>?_
 simp only [Function.comp]
 cases hf:f p.1
 ·cases hq:qL f seen p with
  | false=>rfl
  | true =>
    have:=h p.2 (List.mem_map.2 ⟨p,List.mem_filter.2 ⟨hp,hq⟩,rfl⟩)
    simp [qL,hf,this] at hq
 ·simp [qL,hf]
def unseen (P:List (Spot×Nat)) (seen:List Nat):Nat:=(P.filter fun p=>decide (p.2∉seen)).length
theorem unseen_lt {P:List (Spot×Nat)} {seen:List Nat} {x:Spot} {s:Nat} (hm:(x,s)∈P) (hs:s∉seen):unseen P (seen ++ [s]) < unseen P seen:=by
 unfold unseen
 have hsub:∀ l:List (Spot×Nat),(l.filter fun p=>decide (p.2∉seen ++ [s])).length≤(l.filter fun p=>decide (p.2∉seen)).length∧((x,s)∈l→(l.filter fun p=>decide (p.2∉seen ++ [s])).length < (l.filter fun p=>decide (p.2∉seen)).length):=by
  intro l
  induction l with
  | nil=>exact ⟨Nat.le_refl _,fun h=>by simp at h⟩
  | cons p l ih =>
    by_cases h1:p.2∈seen
    ·rw [List.filter_cons_of_neg (by simp [h1]),List.filter_cons_of_neg (by simp [h1])]
     refine ⟨ih.1,fun h=>ih.2 ?_⟩
     rcases List.mem_cons.1 h with rfl|h
     ·exact absurd h1 hs
     ·exact h
    ·by_cases h2:p.2=s
     ·rw [List.filter_cons_of_neg (by simp [h2]),List.filter_cons_of_pos (by simp [h1])]
      simp only [List.length_cons]
      exact ⟨by omega,fun _=>by omega⟩
     ·rw [List.filter_cons_of_pos (by simp [h1,h2]),List.filter_cons_of_pos (by simp [h1])]
      simp only [List.length_cons]
      refine ⟨by omega,fun h=>?_⟩
      rcases List.mem_cons.1 h with rfl|h
      ·exact absurd rfl h2
      ·have:=ih.2 h;omega
 exact (hsub P).2 hm
end Go.Ab
namespace Go.Proofs
open Go Go.Ab
def spotOf (y:Link):Spot:=⟨y.drawing,y.dim⟩
def midD (d:Dim):Int:=min (max d.nominal d.lower) d.upper
def tightD (d:Dim) (g:Int):Dim:=⟨d.nominal,max d.lower (midD d - g),min d.upper (midD d + g)⟩
theorem tight_ok {d:Dim} {g:Int} (h:dimOk d=true) (hg:0≤g):dimOk (tightD d g)=true:=by
 rw [dimOk_iff] at *
 simp only [tightD,midD]
 omega
theorem tight_in {d:Dim} {g:Int}:d.lower≤(tightD d g).lower∧(tightD d g).upper≤d.upper:=by
 simp only [tightD];omega
def dimT (c:Chains) (so:Spot→Bool) (g:Int) (y:Link):Dim:=if so (spotOf y) then tightD (dimAt c y) g else dimAt c y
def szT (c:Chains) (so:Spot→Bool) (g:Int) (x:ChLoop):List Dim:=x.links.map (dimT c so g)
def neverS:Spot→Bool:=fun _=>false
theorem szT_ok {c:Chains} (h:OkC c) {so:Spot→Bool} {g:Int} (hg:0≤g) {x:ChLoop} (hx:x∈c.loops):(szT c so g x).length=x.links.length∧∀ d∈szT c so g x,dimOk d=true:=by
 refine ⟨by simp [szT],fun d hd=>?_⟩
 obtain ⟨y,hy,rfl⟩:=List.mem_map.1 hd
 have:=(dimAt_ok h hx hy).1
 unfold dimT
 split
 ·exact tight_ok this hg
 ·exact this
def loT (c:Chains) (so:Spot→Bool) (g:Int) (x:ChLoop):Int:=endS x.links (szT c so g x) false
def hiT (c:Chains) (so:Spot→Bool) (g:Int) (x:ChLoop):Int:=endS x.links (szT c so g x) true
theorem lo_hiT {c:Chains} (h:OkC c) {so:Spot→Bool} {g:Int} (hg:0≤g) {x:ChLoop} (hx:x∈c.loops):loT c so g x≤hiT c so g x:=lo_hi (szT_ok h hg hx).2
def closesT (c:Chains) (so:Spot→Bool) (g:Int) (x:ChLoop):Bool:=decide (x.lo≤loT c so g x) && decide (hiT c so g x≤x.hi)
theorem closesT_in {c:Chains} (h:OkC c) {so:Spot→Bool} {g:Int} (hg:0≤g) {x:ChLoop} (hx:x∈c.loops):([loT c so g x,hiT c so g x].all fun n=>decide (x.lo≤n) && decide (n≤x.hi))=closesT c so g x:=by
 have:=lo_hiT h (so:=so) hg hx
 rw [Bool.eq_iff_iff]
 simp only [closesT,List.all_cons,List.all_nil,Bool.and_true,Bool.and_eq_true,decide_eq_true_eq]
 omega
def badT (c:Chains) (so:Spot→Bool) (g:Int) (i:Nat):Bool:=match c.loops[i]? with
 | some x=>!closesT c so g x
 | none=>false
theorem badT_at {c:Chains} {so:Spot→Bool} {g:Int} {i:Nat} (h:i < c.loops.length):badT c so g i=!closesT c so g c.loops[i]:=by
 simp [badT,h]
def findW (c:Chains) (so:Spot→Bool) (g:Int) (k:Nat):Nat:=k + (c.loops.drop k).findIdx fun x=>!closesT c so g x
theorem findW_end {c:Chains} {so:Spot→Bool} {g:Int} {k:Nat} (h:c.loops.length≤k):findW c so g k=k:=by
 simp [findW,List.drop_eq_nil_of_le h]
theorem findW_bad {c:Chains} {so:Spot→Bool} {g:Int} {k:Nat} (h:k < c.loops.length) (hb:closesT c so g c.loops[k]=false):findW c so g k=k:=by
 rw [findW,List.drop_eq_getElem_cons h,List.findIdx_cons,hb];rfl
theorem findW_good {c:Chains} {so:Spot→Bool} {g:Int} {k:Nat} (h:k < c.loops.length) (hb:closesT c so g c.loops[k]=true):findW c so g k=findW c so g (k + 1):=by
 rw [findW,List.drop_eq_getElem_cons h,List.findIdx_cons,hb]
 simp only [Bool.not_true,findW,cond_false];omega
theorem findW_spec (c:Chains) (so:Spot→Bool) (g:Int):∀ (n k:Nat),c.loops.length - k=n→k≤c.loops.length→k≤findW c so g k∧findW c so g k≤c.loops.length∧(∀ i,k≤i→i < findW c so g k→badT c so g i=false)∧(findW c so g k < c.loops.length→badT c so g (findW c so g k)=true)
 | 0,k,hn,hk=>by
   have:k=c.loops.length:=by omega
   rw [findW_end (by omega)]
   exact ⟨by omega,by omega,fun i h1 h2=>by omega,fun h=>by omega⟩
 | n + 1,k,hn,hk=>by
   have hlt:k < c.loops.length:=by omega
   cases hb:closesT c so g c.loops[k] with
   | false =>
     rw [findW_bad hlt hb]
     exact ⟨by omega,by omega,fun i h1 h2=>by omega,fun h=>by rw [badT_at hlt,hb];rfl⟩
   | true =>
     obtain ⟨h1,h2,h3,h4⟩:=findW_spec c so g n (k + 1) (by omega) (by omega)
     rw [findW_good hlt hb]
     refine ⟨by omega,h2,fun i hi hi2=>?_,h4⟩
     by_cases e:i=k
     ·subst e;rw [badT_at hlt,hb];rfl
     ·exact h3 i (by omega) hi2
def wrongTo (c:Chains) (so:Spot→Bool) (g:Int) (k:Nat):List Nat:=(List.range k).filter (badT c so g)
theorem wrongTo_succ (c:Chains) (so:Spot→Bool) (g:Int) (k:Nat):wrongTo c so g (k + 1)=wrongTo c so g k ++ if badT c so g k then [k] else []:=by
 rw [wrongTo,List.range_succ,List.filter_append]
 congr 1
 cases h:badT c so g k<;>simp [h]
theorem wrongTo_skip {c:Chains} {so:Spot→Bool} {g:Int}:∀ (m k:Nat),(∀ i,k≤i→i < k + m→badT c so g i=false)→wrongTo c so g (k + m)=wrongTo c so g k
 | 0,_,_=>rfl
 | m + 1,k,h=>by
   rw [← Nat.add_assoc,wrongTo_succ,h (k + m) (by omega) (by omega),wrongTo_skip m k fun i h1 h2=>h i h1 (by omega)]
   simp
theorem wrongTo_find {c:Chains} {so:Spot→Bool} {g:Int} {k:Nat} (hk:k≤c.loops.length):wrongTo c so g (findW c so g k)=wrongTo c so g k:=by
 obtain ⟨h1,_,h3,_⟩:=findW_spec c so g _ k rfl hk
 obtain ⟨m,hm⟩:∃ m,findW c so g k=k + m:=⟨findW c so g k - k,by omega⟩
 rw [hm] at h3 ⊢
 exact wrongTo_skip m k h3
def allT (c:Chains) (so:Spot→Bool) (g:Int):Bool:=c.loops.all (closesT c so g)
theorem allT_find (c:Chains) (so:Spot→Bool) (g:Int):allT c so g=true↔findW c so g 0=c.loops.length:=by
 obtain ⟨_,h2,h3,h4⟩:=findW_spec c so g _ 0 rfl (Nat.zero_le _)
 constructor
 ·intro h
  refine Classical.byContradiction fun hne=>?_
  have hlt:findW c so g 0 < c.loops.length:=by omega
  have:=h4 hlt
  rw [badT_at hlt,List.all_eq_true.1 h _ (List.getElem_mem hlt)] at this
  cases this
 ·intro h
  rw [allT,List.all_eq_true]
  intro x hx
  obtain ⟨i,hi,rfl⟩:=List.mem_iff_getElem.1 hx
  have:=h3 i (Nat.zero_le _) (by omega)
  rw [badT_at hi] at this
  simpa using this
def spotsOf (c:Chains):List Spot:=c.loops.flatMap fun x=>x.links.map spotOf
def looseP (B:List (Int×Issue)) (x:Spot):Bool:=decide ((mlookS B x.drawing).kind≠3)
def looseR (c:Chains) (x:Spot):Bool:=decide ((takeI c.reg c.lets x.drawing).kind≠3)
def allSpots (c:Chains):List Spot:=allS (looseR c) (spotsOf c)
theorem mem_spotsOf {c:Chains} {z:Spot}:z∈spotsOf c↔∃ x∈c.loops,∃ y∈x.links,spotOf y=z:=by
 simp only [spotsOf,List.mem_flatMap,List.mem_map]
theorem loose_eq {c:Chains} (h:OkC c) {x:Spot} (hx:x∈spotsOf c):looseP (tkM c.reg c.lets) x=looseR c x:=by
 obtain ⟨l,hl,y,hy,rfl⟩:=mem_spotsOf.1 hx
 have:=(h.link l hl y hy).1
 rw [Bool.eq_iff_iff]
 simp only [looseP,looseR,spotOf,tkM,mlookS_map,if_pos this,decide_eq_true_eq]
 exact decide_eq_true_iff.symm
theorem spots_sorted {c:Chains} (h:OkC c) {l:List Spot} (hp:l.Perm (((spotsOf c).foldl (fun l x=>sputS x l) []).filter (looseP (tkM c.reg c.lets)))) (hs:SortedS l):l=allSpots c:=by
 refine sorted_unique hs (allS_sorted _ _) fun x=>?_
 rw [hp.mem_iff,List.mem_filter,mem_foldP,allSpots,mem_allS]
 constructor
 ·rintro ⟨h1|h1,h2⟩
  ·simp at h1
  ·exact ⟨h1,by rw [← loose_eq h h1];exact h2⟩
 ·rintro ⟨h1,h2⟩
  exact ⟨.inr h1,by rw [loose_eq h h1];exact h2⟩
theorem spots_perm {c:Chains} (h:OkC c):(allSpots c).Perm (((spotsOf c).foldl (fun l x=>sputS x l) []).filter (looseP (tkM c.reg c.lets))):=by
 have hn:(((spotsOf c).foldl (fun l x=>sputS x l) []).filter (looseP (tkM c.reg c.lets))).Nodup:=(foldP_nodup _ _ (by simp)).filter _
 refine (List.perm_ext_iff_of_nodup (allS_sorted _ _).nodup hn).2 fun x=>?_
 rw [List.mem_filter,mem_foldP,mem_allS]
 constructor
 ·rintro ⟨h1,h2⟩
  exact ⟨.inr h1,by rw [loose_eq h h1];exact h2⟩
 ·rintro ⟨h1|h1,h2⟩
  ·simp at h1
  ·exact ⟨h1,by rw [← loose_eq h h1];exact h2⟩
end Go.Proofs
namespace Go.Proofs
open Go Go.Ab
def gs (p:Int→Bool):Nat→Int→Int→Int
 | 0,lo,_=>lo
 | k + 1,lo,hi=>if lo < hi then (if p (hi - (hi - lo) / 2) then gs p k (hi - (hi - lo) / 2) hi else gs p k lo (hi - (hi - lo) / 2 - 1)) else lo
theorem gs_fuel (p:Int→Bool):∀ (k k':Nat) (lo hi:Int),hi - lo≤k→hi - lo≤k'→gs p k lo hi=gs p k' lo hi
 | 0,0,_,_,_,_=>rfl
 | 0,k' + 1,lo,hi,h,_=>by rw [gs,gs,if_neg (by omega)]
 | k + 1,0,lo,hi,_,h=>by rw [gs,gs,if_neg (by omega)]
 | k + 1,k' + 1,lo,hi,h,h'=>by
   rw [gs,gs]
   split
   ·split
    ·exact gs_fuel p k k' _ _ (by omega) (by omega)
    ·exact gs_fuel p k k' _ _ (by omega) (by omega)
   ·rfl
def gsI (p:Int→Bool) (lo hi:Int):Int:=gs p (hi - lo).toNat lo hi
theorem gsI_end {p:Int→Bool} {lo hi:Int} (h:hi≤lo):gsI p lo hi=lo:=by
 rw [gsI,show (hi - lo).toNat=0 by omega,gs]
theorem gsI_step {p:Int→Bool} {lo hi:Int} (h:lo < hi):gsI p lo hi=if p (hi - (hi - lo) / 2) then gsI p (hi - (hi - lo) / 2) hi else gsI p lo (hi - (hi - lo) / 2 - 1):=by
 obtain ⟨k,hk⟩:∃ k,(hi - lo).toNat=k + 1:=⟨(hi - lo).toNat - 1,by omega⟩
 rw [gsI,hk,gs,if_pos h]
 split
 ·exact gs_fuel p _ _ _ _ (by omega) (by omega)
 ·exact gs_fuel p _ _ _ _ (by omega) (by omega)
theorem gsI_spec {p:Int→Bool} (hp:∀ m n,m≤n→p n=true→p m=true):∀ (k:Nat) (lo hi:Int),(hi - lo).toNat=k→lo≤hi→p lo=true→p (gsI p lo hi)=true∧lo≤gsI p lo hi∧gsI p lo hi≤hi∧∀ m,gsI p lo hi < m→m≤hi→p m=false:=by
 intro k
 induction k using Nat.strongRecOn with
 | ind k ih =>
   intro lo hi hk hle hlo
   by_cases h:lo < hi
   ·rw [gsI_step h]
    split
    ·rename_i hpn
     obtain ⟨a,b,c,d⟩:=ih ((hi - (hi - (hi - lo) / 2)).toNat) (by omega) (hi - (hi - lo) / 2) hi rfl (by omega) hpn
     exact ⟨a,by omega,c,d⟩
    ·rename_i hpn
     obtain ⟨a,b,c,d⟩:=ih ((hi - (hi - lo) / 2 - 1 - lo).toNat) (by omega) lo (hi - (hi - lo) / 2 - 1) rfl (by omega) hlo
     refine ⟨a,b,by omega,fun m h1 h2=>?_⟩
     by_cases hm:m≤hi - (hi - lo) / 2 - 1
     ·exact d m h1 hm
     ·cases hq:p m with
      | false=>rfl
      | true=>exact absurd (hp (hi - (hi - lo) / 2) m (by omega) hq) (by simpa using hpn)
   ·rw [gsI_end (by omega)]
    exact ⟨hlo,Int.le_refl _,hle,fun m h1 h2=>by omega⟩
def maxG:Int:=1000000000
def gradeN (c:Chains):Int:=gsI (allT c (looseR c)) 0 maxG
def hasG (c:Chains):Bool:=allT c (looseR c) 0
theorem tight_mono {d:Dim} (hd:dimOk d=true) {g g':Int} (h:g≤g'):(tightD d g').lower≤(tightD d g).lower∧(tightD d g).upper≤(tightD d g').upper:=by
 simp only [tightD];omega
theorem endS_wide (high:Bool):∀ (q:List (Link×Dim)) (q':List (Link×Dim)) (a b:Int),q.length=q'.length →
 (∀ (i:Nat) (p p':Link×Dim),q[i]?=some p→q'[i]?=some p'→p.1=p'.1∧p'.2.lower≤p.2.lower∧p.2.upper≤p'.2.upper)→(if high then a≤b else b≤a) →
 (if high then q.foldl (fun s p=>s + sgn p.1 (endN high p.1 p.2)) a≤q'.foldl (fun s p=>s + sgn p.1 (endN high p.1 p.2)) b else q'.foldl (fun s p=>s + sgn p.1 (endN high p.1 p.2)) b≤q.foldl (fun s p=>s + sgn p.1 (endN high p.1 p.2)) a)
 | [],[],a,b,_,_,h=>h
 | [],_ :: _,_,_,h,_,_=>by simp at h
 | _ :: _,[],_,_,h,_,_=>by simp at h
 | p :: q,p' :: q',a,b,hl,hp,h=>by
   rw [List.foldl_cons,List.foldl_cons]
   refine endS_wide high q q' _ _ (by simpa using hl) (fun i x x' h1 h2=>hp (i + 1) x x' (by simpa using h1) (by simpa using h2)) ?_
   obtain ⟨e,h1,h2⟩:=hp 0 p p' rfl rfl
   rw [← e]
   cases high<;>simp only [sgn,endN,Bool.false_eq_true,if_false,if_true] at h ⊢<;>cases p.1.back<;>simp<;>omega
theorem endS_le {ls:List Link} {l l':List Dim} (hl:l.length=l'.length) (h:∀ (i:Nat) (d d':Dim),l[i]?=some d→l'[i]?=some d'→d'.lower≤d.lower∧d.upper≤d'.upper):endS ls l' false≤endS ls l false∧endS ls l true≤endS ls l' true:=by
 have hz:(ls.zip l).length=(ls.zip l').length:=by simp [hl]
 have hp:∀ (i:Nat) (p p':Link×Dim),(ls.zip l)[i]?=some p→(ls.zip l')[i]?=some p'→p.1=p'.1∧p'.2.lower≤p.2.lower∧p.2.upper≤p'.2.upper:=fun i p p' h1 h2=>by
  rw [List.getElem?_zip_eq_some] at h1 h2
  obtain ⟨a1,b1⟩:=h1
  obtain ⟨a2,b2⟩:=h2
  rw [a1] at a2
  exact ⟨Option.some.inj a2,h i _ _ b1 b2⟩
 exact ⟨by have:=endS_wide false _ _ 0 0 hz hp (Int.le_refl _);simpa [endS] using this,by have:=endS_wide true _ _ 0 0 hz hp (Int.le_refl _);simpa [endS] using this⟩
theorem allT_mono {c:Chains} (hk:OkC c) {so so':Spot→Bool} {g g':Int} (hso:∀ x∈spotsOf c,so' x=true→so x=true) (hg:g≤g'):∀ x∈c.loops,loT c so' g' x≤loT c so g x∧hiT c so g x≤hiT c so' g' x:=fun x hx=>by
 refine endS_le (by simp [szT]) fun i d d' h1 h2=>?_
 simp only [szT,List.getElem?_map,Option.map_eq_some_iff] at h1 h2
 obtain ⟨y,hy,rfl⟩:=h1
 obtain ⟨y',hy',rfl⟩:=h2
 rw [hy] at hy'
 cases hy'
 have hm:=List.mem_of_getElem? hy
 have hd:=(dimAt_ok hk hx hm).1
 have hs:=hso (spotOf y) (mem_spotsOf.2 ⟨x,hx,y,hm,rfl⟩)
 unfold dimT
 cases h3:so' (spotOf y) with
 | true =>
   rw [hs h3]
   simp only [if_true]
   exact tight_mono hd hg
 | false =>
   simp only [Bool.false_eq_true,if_false]
   split
   ·exact tight_in
   ·exact ⟨Int.le_refl _,Int.le_refl _⟩
theorem closesT_mono {c:Chains} (hk:OkC c) {so so':Spot→Bool} {g g':Int} (hso:∀ x∈spotsOf c,so' x=true→so x=true) (hg:g≤g') {x:ChLoop} (hx:x∈c.loops) (h:closesT c so' g' x=true):closesT c so g x=true:=by
 have:=allT_mono hk hso hg x hx
 simp only [closesT,Bool.and_eq_true,decide_eq_true_eq] at *
 omega
theorem allT_le {c:Chains} (hk:OkC c) {so so':Spot→Bool} {g g':Int} (hso:∀ x∈spotsOf c,so' x=true→so x=true) (hg:g≤g') (h:allT c so' g'=true):allT c so g=true:=by
 rw [allT,List.all_eq_true] at *
 exact fun x hx=>closesT_mono hk hso hg hx (h x hx)
theorem grade_spec {c:Chains} (hk:OkC c) (h:hasG c=true):allT c (looseR c) (gradeN c)=true∧0≤gradeN c∧gradeN c≤maxG∧∀ m,gradeN c < m→m≤maxG→allT c (looseR c) m=false:=
 gsI_spec (fun m n hmn hn=>allT_le hk (fun _ _ h=>h) hmn hn) _ 0 maxG rfl (by decide) h
end Go.Proofs
