/-
  The law IlShows.
-/
import Derived.Test.YtmnbfgfgjmmhfaaGreatDoorLSpo
set_option linter.all false
set_option linter.unusedVariables false
set_option linter.unusedSimpArgs false
set_option linter.unusedSectionVars false
set_option maxRecDepth 100000
set_option maxHeartbeats 8000000
namespace Go.Proofs.YtmnbfgfgjmmhfaaGreatDoor
open Go.Proofs.YtmnbfgfgjmmhfaaGreatDoor.Am
attribute [local irreducible] W WO WE WQ WD Tr.get Tr.set
theorem Kh {α:Type} (f:α→AV):∀ l:List α,(∀ x∈l,beqA (f x) (f x)=true)→Ey (l.map f) (l.map f)=true
 | [],_=>rfl
 | x::l,h=>by simp only [List.map_cons,Ey,h x (by simp),Kh f l fun y hy=>h y (by simp [hy]),Bool.and_self]
theorem Yg (p:PT):beqA p.av p.av=true:=by
 simp [PT.av,PT.cells,beqA,Ey,Gq]
theorem Yh (y:IT):beqA y.av y.av=true:=by
 have:=Kh PT.av y.parts fun p _=>Yg p
 simp [IT.av,IT.cells,ptx,beqA,Ey,this]
theorem Yi:∀ n:IN,beqA n.av n.av=true:=by
 refine IN.ind fun n ih=>?_
 have h1:=Kh IT.av n.items fun p _=>Yh p
 have h2:=Kh IN.av n.kids ih
 rw [IN.av_eq]
 simp [IN.cells,itx,beqA,Ey,h1,h2,Gq]
theorem nnt (n:IN):n.cells.all noTok=true:=rfl
theorem Uc (n:IN):Ey n.cells n.cells=true:=by
 have:=Yi n
 rw [IN.av_eq] at this
 simpa only [beqA] using this
theorem JM (n:IN):still (.agg n.cells)=true:=by
 simp only [still,DS,nnt,Uc,Bool.and_self]
section
variable {s0 s q:St} {n:En} {B:List (Nat×Box)}
theorem Rp:∀ (p:List (Nat×Box)),Hp s0 q n [] (p++B)→Hp s0 q n [] B
 | [],H=>H
 | _::p,H=>Rp p (Hp.dropB H)
theorem WG {a:IN} (H:Hp s0 q n [] B) (ha:a.Ok) (na:nodesI a < 2^30) (hL:mayI a=true→∀ x∈allL a 0,x.2.Ok∧QN x.2∧x.1 < 2^30∧(∀ y∈x.2.items,(y.parts.flatMap Bx).length < 2^59)∧(DJ x).length≤2^47) (hB:mayI a=true→LinB a) :
    ∃ v e M q1 q2,(lim prog).call Gr [.agg a.cells] q=some (.tup [v,.i .i64 e],q1)∧(lim prog).call Cx [.agg a.cells] q1=some (.tup [tx M,.i .i64 e],q1)∧(lim prog).call Ac [v,tx M] q1=some (.b true,q2)∧(∃ R,Hp s0 q1 n R B)∧Hp s0 q2 n [] B:=by
 obtain ⟨r,s',h,hp⟩:=show_K a ha (by omega) hL q H.wf
 have hr:=fun w hw=>Sf a ha (by omega) hB w hw
 have hlen:=LM a
 rcases hp with ⟨hm,v,rfl,hk⟩ | ⟨hm,rfl,q',ov,hw,rfl⟩
 · have K:=H.keptR hk
   obtain ⟨_,_,_,_,_,hrt⟩:=hk
   obtain ⟨q2,d2,K2⟩:=lsameR (M:=linesN a) K hrt (by omega) (by omega)
   rw [decide_eq_true rfl] at d2
   have hr:=hr s' K.wf
   rw [hm,if_pos rfl] at hr
   exact ⟨v,0,linesN a,s',q2,h,hr,d2,⟨_,K⟩,K2⟩
 · have K:=H.kept ov hw
   obtain ⟨q2,d2,K2⟩:=W5 (M:=[]) K (by simp)
   rw [decide_eq_true rfl] at d2
   have hr:=hr _ K.wf
   rw [hm,if_neg (by simp)] at hr
   exact ⟨.nsl,4,[],_,q2,h,hr,d2,⟨_,K⟩,K2⟩
theorem Rq {v:AV} {q1:St} {L:List (List Nat)} (H:Hp s0 q n [] B) (hk:OH q q1 v L) (hl:L.length < 2^35):Hp s0 q1 n [] B∧∃ q2,(lim prog).call Ac [v,tx L] q1=some (.b true,q2)∧Hp s0 q2 n [] B:=by
 obtain ⟨p,hr,K,_⟩:=H.keptT hk
 refine ⟨Rp p K,?_⟩
 rcases hr with ⟨rfl,rfl,rfl⟩ | ⟨id,Z,rfl,rfl⟩
 · obtain ⟨q2,d2,K2⟩:=W5 (M:=[]) K (by simp)
   rw [decide_eq_true rfl] at d2
   exact ⟨q2,d2,K2⟩
 · obtain ⟨q2,d2,K2⟩:=lsameB (M:=L) (m:=L.length+Z.length) K (by omega) (by omega)
   rw [decide_eq_true rfl] at d2
   exact ⟨q2,d2,K2⟩
end
structure ShowsOk (n:IN):Prop where
 ok:n.Ok
 nodes:nodesI n < 2^30
 lines:mayI n=true→∀ x∈allL n 0,x.2.Ok∧QN x.2∧x.1 < 2^30∧(∀ y∈x.2.items,(y.parts.flatMap Bx).length < 2^59)∧(DJ x).length≤2^47
 reads:(allF readsI n).length < 2^34
 sets:(allF setsX n).length < 2^34
theorem Si (a b:IN) (ha:ShowsOk a) (hb:ShowsOk b) (s:St) (hw:Wf s):(lim prog).call DC [.agg a.cells,.agg b.cells] s=some (.b true,s):=by
 refine fn_W GZ rfl rfl ?_
 have hz0:wkZ Ao.cin [.agg a.cells,.agg b.cells]=[.agg a.cells,.agg b.cells]:=by simp [Ao,wkZ,wk,IN.cells,itx]
 rw [hz0]
 have e0:s.enter.nb=s.nb:=rfl
 have H:=((Hp.begin hw).new (.cells 25 a.cells)).new (.cells 25 b.cells)
 have e1:(s.enter.new (.cells 25 a.cells)).nb=s.nb+1:=rfl
 obtain ⟨q,hq1⟩:∃ q,(s.enter.new (.cells 25 a.cells)).new (.cells 25 b.cells)=q:=⟨_,rfl⟩
 rw [hq1,e1,e0] at H
 have lA:=H.ldw (m:=4) 1 rfl rfl
 have lB:=H.ldw (m:=4) 0 rfl rfl
 have hawk:∀ q:St,(lim prog).call Cd [] q=some (.b true,q):=fun q=>KP HS rfl rfl
 obtain ⟨za,hsa⟩:=NT a ha.ok q H.wf
 obtain ⟨zb,hsb⟩:=NT b hb.ok q H.wf
 by_cases hza:400 < za
 · have f1:(400 < za)=True:=eq_true hza
   simp only [Ao,go_sem,AD,AA,AC,AB,KB_n,KB_x,Nat.reduceBEq,Nat.reduceAdd,Nat.reduceLT,Nat.reduceLeDiff,Nat.reduceEqDiff,reduceIte,Int.reduceEq,reduceCtorEq,nc4,e0,e1,hq1,lA,lB,DS,hsa,f1,hawk]
   exact AL H.over rfl rfl
 have f1:(400 < za)=False:=eq_false hza
 by_cases hzb:400 < zb
 · have f2:(400 < zb)=True:=eq_true hzb
   simp only [Ao,go_sem,AD,AA,AC,AB,KB_n,KB_x,Nat.reduceBEq,Nat.reduceAdd,Nat.reduceLT,Nat.reduceLeDiff,Nat.reduceEqDiff,reduceIte,Int.reduceEq,reduceCtorEq,nc4,e0,e1,hq1,lA,lB,DS,hsa,hsb,f1,f2,hawk]
   exact AL H.over rfl rfl
 have f2:(400 < zb)=False:=eq_false hzb
 have hLB:mayI a=true→LinB a:=fun h x hx=>⟨(ha.lines h x hx).2.2.2.1,(ha.lines h x hx).2.2.2.2⟩
 have hR1:∀ x∈allL a 0,(Cv x.2.items).length < 2^34:=fun x hx=>by
  have h1:=ha.reads
  obtain ⟨l1,l2,hl⟩:=List.append_of_mem hx
  unfold allF at h1
  rw [hl,List.flatMap_append,List.flatMap_cons,List.length_append,List.length_append] at h1
  have:(readsI x.2).length=(Cv x.2.items).length:=rfl
  omega
 simp only [Ao,go_sem,AD,AA,AC,AB,KB_n,KB_x,Nat.reduceBEq,Nat.reduceAdd,Nat.reduceLT,Nat.reduceLeDiff,Nat.reduceEqDiff,reduceIte,Int.reduceEq,reduceCtorEq,nc4,e0,e1,hq1,lA,lB,DS,hsa,hsb,f1,f2]
 refine BP (fun x e q=>∃ k:Nat,k+x=2∧Hp s q s.en [] [(s.nb+1,.cells 25 b.cells),(s.nb,.cells 25 a.cells)]∧e.get 2=.p s.nb 0∧e.get 3=.p (s.nb+1) 0∧e.get 5=.i .i64 (k:Nat)) ?_ 2 _ _ ?_
 · clear hq1 lA lB hsa hsb f1 f2 hza hzb H q
   rintro x e q ⟨k,hkx,H,g2,g3,g5⟩
   have lA:=H.ldw (m:=4) 1 rfl rfl
   have lB:=H.ldw (m:=4) 0 rfl rfl
   have f5:((0:Int)≠0)=False:=eq_false (by omega)
   by_cases hk:k < 2
   · have f3:((k:Int) < 2)=True:=eq_true (by omega)
     have hw1:=AR (show k+1 < 2^63 by omega)
     obtain ⟨v1,e1,M1,q1,q2,d1,r1,s1,⟨R,K1⟩,K2⟩:=WG H ha.ok ha.nodes ha.lines hLB
     have lA1:=K1.ldw (m:=4) 1 rfl rfl
     have lA2:=K2.ldw (m:=4) 1 rfl rfl
     obtain ⟨v3,q3,d3,k3⟩:=YU a ha.ok (by have:=ha.nodes; omega) (fun x hx q hq=>UE x.2 (Qb a ha.ok 0 x hx) (by have:=hR1 x hx; omega) q hq) (by have:=ha.reads; unfold allF readsI at this; omega) q2 K2.wf
     have hL3:(UI a).length < 2^35:=by
      have h1:=Lv (allF readsI a)
      have h2:=ha.reads
      show (LJ (allF readsI a)).length < _
      omega
     obtain ⟨K3,q4,s3,K4⟩:=Rq K2 k3 hL3
     have r3:(lim prog).call Ce [.agg a.cells] q3=some (tx (UI a),q3):=Qc a ha.ok (by have:=ha.reads; omega) (by have:=ha.sets; omega) q3 K3.wf
     have lA3:=K3.ldw (m:=4) 1 rfl rfl
     have lA4:=K4.ldw (m:=4) 1 rfl rfl
     obtain ⟨v5,q5,d5,k5⟩:=sets_K a ha.ok (by have:=ha.nodes; omega) (fun x hx q hq=>V1 x.2 q hq) (by have:=ha.sets; unfold allF at this; omega) q4 K4.wf
     have hL5:(YT a).length < 2^35:=by
      have h1:=Lv (allF setsX a)
      have h2:=ha.sets
      show (LJ (allF setsX a)).length < _
      omega
     obtain ⟨K5,q6,s5,K6⟩:=Rq K4 k5 hL5
     have r5:(lim prog).call Cy [.agg a.cells] q5=some (tx (YT a),q5):=Sg a ha.ok (by have:=ha.reads; omega) (by have:=ha.sets; omega) q5 K5.wf
     have lA5:=K5.ldw (m:=4) 1 rfl rfl
     have fe:(e1≠e1)=False:=eq_false (fun h=>h rfl)
     simp only [go_sem,AD,AA,AC,AB,KB_n,KB_x,Nat.reduceBEq,Nat.reduceAdd,Nat.reduceLT,Nat.reduceLeDiff,Nat.reduceEqDiff,reduceIte,Int.reduceEq,reduceCtorEq,g2,g3,g5,f3,lA,DS,d1,lA1,r1]
     refine JS rfl ?_
     simp only [go_sem,AD,AA,AC,AB,KB_n,KB_x,Nat.reduceBEq,Nat.reduceAdd,Nat.reduceLT,Nat.reduceLeDiff,Nat.reduceEqDiff,reduceIte,Int.reduceEq,reduceCtorEq,g2,g3,g5,lA2,lA3,lA4,lA5,DS,nnt,fe,s1,d3,r3,s3,d5,r5,s5]
     refine MZ rfl (by simp only [go_sem,AD,AA,AC,AB,KB_n,KB_x,Nat.reduceBEq,Nat.reduceAdd,Nat.reduceLT,Nat.reduceLeDiff,Nat.reduceEqDiff,reduceIte,Int.reduceEq,reduceCtorEq,g2]) (JM a) ⟨⟨_,rfl,lA3⟩,⟨_,rfl,lA2⟩,⟨_,rfl,lA3⟩,trivial⟩ ?_
     refine MZ rfl (by simp only [go_sem,AD,AA,AC,AB,KB_n,KB_x,Nat.reduceBEq,Nat.reduceAdd,Nat.reduceLT,Nat.reduceLeDiff,Nat.reduceEqDiff,reduceIte,Int.reduceEq,reduceCtorEq,g2]) (JM a) ⟨⟨_,rfl,lA5⟩,⟨_,rfl,lA4⟩,⟨_,rfl,lA5⟩,trivial⟩ (JT ?_)
     simp only [go_sem,AD,AA,AC,AB,KB_n,KB_x,Nat.reduceBEq,Nat.reduceAdd,Nat.reduceLT,Nat.reduceLeDiff,Nat.reduceEqDiff,reduceIte,Int.reduceEq,reduceCtorEq,g2,g3,g5,hw1]
     exact ⟨x - 1,by omega,k+1,by omega,K6,rfl⟩
   · have f3:((k:Int) < 2)=False:=eq_false (by omega)
     have m1:=Wx a ha.ok q H.wf
     have m2:=Pc a ha.ok q H.wf
     have z1:=YQ a ha.ok (by have:=ha.nodes; omega) q H.wf
     have z2:=Sc a ha.ok (by have:=ha.nodes; omega) q H.wf
     obtain ⟨r1,c1,h1⟩:=Pe a ha.ok b hb.ok q H.wf
     obtain ⟨r2,c2,h2⟩:=Sh a ha.ok b hb.ok q H.wf
     obtain ⟨r3,c3,h3⟩:=Pe a ha.ok a ha.ok q H.wf
     have h3:r3=true:=h3.2 rfl
     subst h3
     have h12:r1=r2:=by
      cases r1<;>cases r2<;>first | rfl | (have:=h1.1 rfl; have:=h2.2 this; cases this) | (have:=h2.1 rfl; have:=h1.2 this; cases this)
     subst h12
     have eb:∀ b:Bool,(b==b)=true:=fun b=>by simp
     have f4:((nodesI a:Int)=(nodesI a:Int))=True:=eq_true rfl
     simp only [go_sem,AD,AA,AC,AB,KB_n,KB_x,Nat.reduceBEq,Nat.reduceAdd,Nat.reduceLT,Nat.reduceLeDiff,Nat.reduceEqDiff,reduceIte,Int.reduceEq,reduceCtorEq,g2,g3,g5,f3]
     refine JS rfl ?_
     simp only [go_sem,AD,AA,AC,AB,KB_n,KB_x,Nat.reduceBEq,Nat.reduceAdd,Nat.reduceLT,Nat.reduceLeDiff,Nat.reduceEqDiff,reduceIte,Int.reduceEq,reduceCtorEq,g2,g3,g5,lA,lB,DS,nnt,m1,m2,z1,z2,c1,c2,c3,eb,f4,hawk]
     refine MZ rfl (by simp only [go_sem,AD,AA,AC,AB,KB_n,KB_x,Nat.reduceBEq,Nat.reduceAdd,Nat.reduceLT,Nat.reduceLeDiff,Nat.reduceEqDiff,reduceIte,Int.reduceEq,reduceCtorEq,g2]) (JM a) ⟨⟨_,rfl,lA⟩,⟨_,rfl,lA⟩,⟨_,rfl,lA⟩,trivial⟩ ?_
     refine MZ rfl (by simp only [go_sem,AD,AA,AC,AB,KB_n,KB_x,Nat.reduceBEq,Nat.reduceAdd,Nat.reduceLT,Nat.reduceLeDiff,Nat.reduceEqDiff,reduceIte,Int.reduceEq,reduceCtorEq,g2]) (JM a) ⟨⟨_,rfl,lA⟩,⟨_,rfl,lA⟩,⟨_,rfl,lA⟩,trivial⟩ ?_
     refine MZ rfl (by simp only [go_sem,AD,AA,AC,AB,KB_n,KB_x,Nat.reduceBEq,Nat.reduceAdd,Nat.reduceLT,Nat.reduceLeDiff,Nat.reduceEqDiff,reduceIte,Int.reduceEq,reduceCtorEq,g2]) (JM a) ⟨⟨_,rfl,lA⟩,⟨_,rfl,lA⟩,⟨_,rfl,lA⟩,trivial⟩ ?_
     refine MZ rfl (by simp only [go_sem,AD,AA,AC,AB,KB_n,KB_x,Nat.reduceBEq,Nat.reduceAdd,Nat.reduceLT,Nat.reduceLeDiff,Nat.reduceEqDiff,reduceIte,Int.reduceEq,reduceCtorEq,g3]) (JM b) ⟨⟨_,rfl,lB⟩,⟨_,rfl,lB⟩,⟨_,rfl,lB⟩,⟨_,rfl,lB⟩,trivial⟩ (JT ?_)
     simp only [go_sem,AD,AA,AC,AB,KB_n,KB_x,Nat.reduceBEq,Nat.reduceAdd,Nat.reduceLT,Nat.reduceLeDiff,Nat.reduceEqDiff,reduceIte,Int.reduceEq,reduceCtorEq]
     exact AL H.over rfl rfl
 · simp only [go_sem,AD,AA,AC,AB,KB_n,KB_x,Nat.reduceBEq,Nat.reduceAdd,Nat.reduceLT,Nat.reduceLeDiff,Nat.reduceEqDiff,reduceIte,Int.reduceEq,reduceCtorEq]
   exact ⟨0,by omega,H,rfl⟩
end Go.Proofs.YtmnbfgfgjmmhfaaGreatDoor
