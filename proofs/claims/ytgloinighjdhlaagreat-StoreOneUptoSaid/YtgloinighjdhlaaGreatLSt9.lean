/-
  pat.Place.
-/
import Derived.Test.YtgloinighjdhlaaGreatLPlace2
set_option linter.all false
set_option linter.unusedVariables false
set_option linter.unusedSimpArgs false
set_option linter.unusedSectionVars false
set_option maxRecDepth 100000
set_option maxHeartbeats 4000000
namespace Go.Proofs.YtgloinighjdhlaaGreat
open Go.Proofs.YtgloinighjdhlaaGreat.Am
attribute [local irreducible] W WO WE WQ WD Tr.get Tr.set
def Gg (l:List FT) (n:Int):List (List Nat)×Int:=if mayP l then (if 0≤n∧n < (l.length:Int) then (climb l n.toNat,0) else ([],1)) else ([],4)
abbrev pA:C:=subC Bt.body [1,1,0,1,0,0]
abbrev pC:C:=subC Bt.body [1,1,0,1,0,1]
def PI (L:List (Nat×List (List Nat))) (n:Int) (b0 k1:Nat) (e:Tr) (j:Nat) (q:St):Prop :=
 (∀ (i:Nat) (x:Nat×List (List Nat)),i < j→L[i]? = some x→(x.1:Int)≠n)∧q.box? k1=some (.loop 0 none e [23] pA pC)∧q.box? b0=some (.cells 3 [.i .i64 n])∧q.box? (b0+1)=some (.cells 34 [.nsl])∧q.box? (b0+2)=some (.cells 26 [.i .i64 0])
def PR (p:List (List Nat)) (t0 b0 k1:Nat) (q:St):Prop :=
 (∃ tm ps a b,q.box? k1=some (.loop 2 (some .ret) tm ps a b))∧RG 1 t0 9 34 (b0+1) (p.map .s) true (CLow (k1+1)) q∧q.box? (b0+2)=some (.cells 26 [.i .i64 0])
theorem WC {s:St} {L:List (Nat×List (List Nat))} {n:Int} {p:List (List Nat)} {b0 k1:Nat} {e:Tr} (hk1:b0+5=k1) (hs:s.nb=b0) (g3:e.get 3=.p b0 0) (g4:e.get 4=.p (b0+1) 0) (g5:e.get 5=.p (b0+2) 0)
    (hL:∀ (i:Nat) (x:Nat×List (List Nat)),L[i]? = some x→(x.1:Int)=n→x.2=p) (hp:p.length < 2^36) :
    BodyG prog (fun j=>j=b0+3+1∨j=b0+3) s (k1+1) (k1+1) (.yld k1) (tdL L) (fun _ j q=>PI L n b0 k1 e j q) (PR p s.nt b0 k1) where
 stab:=fun C j q q' _ ⟨h1,h2,h3,h4,h5⟩ f=>⟨h1,by rw [f.box _ (by omega) (by omega)]; exact h2,by rw [f.box _ (by omega) (by omega)]; exact h3,by rw [f.box _ (by omega) (by omega)]; exact h4,by rw [f.box _ (by omega) (by omega)]; exact h5⟩
 enter:=fun C j q _ h _=>h
 leave:=fun C j s q v _ ⟨h1,h2,h3,h4,h5⟩ hs hn ht hw hv=>⟨h1,by rw [EQ hw hn (by omega)]; exact h2,by rw [EQ hw hn (by omega)]; exact h3,by rw [EQ hw hn (by omega)]; exact h4,by rw [EQ hw hn (by omega)]; exact h5⟩
 stabR:=fun q q' ⟨⟨tm,ps,a,b,h1⟩,h2,h3⟩ f=>⟨⟨tm,ps,a,b,by rw [f.box _ (by omega) (by omega)]; exact h1⟩,h2.stab (CLow.safe _) (by omega) (by omega) (Nat.le_refl _) f,by rw [f.box _ (by omega) (by omega)]; exact h3⟩
 leaveR:=fun s q v ⟨⟨tm,ps,a,b,h1⟩,h2,h3⟩ hs hn ht hw hv=>⟨⟨tm,ps,a,b,by rw [EQ hw hn (by omega)]; exact h1⟩,h2.leaveL (by omega) hs hn ht hw hv,by rw [EQ hw hn (by omega)]; exact h3⟩
 step := by
  intro C j hj q hC ⟨hI,hk,hb0,hb1,hb2⟩ hov hw hh
  have hj':j < L.length:=by simpa [tdL] using hj
  obtain ⟨x,hx⟩:∃ x,L[j]? = some x:=⟨_,List.getElem?_eq_getElem hj'⟩
  have hLj:(tdL L)[j]=[tdV x]:=by
   rw [List.getElem?_eq_getElem hj'] at hx
   simp only [tdL,List.getElem_map]
   rw [Option.some.inj hx]
  rw [hLj]
  obtain ⟨q0,st0,w0,nb0,nt0,bn0,bx0,ov0,fq0⟩:=Ym (q:=q) hw (T:=118) (m:=2) (z:=[.i .i64 0,.nsl]) (v:=tdV x) rfl ⟨rfl,rfl⟩ (by simp [tdV,tx,AV.refs,AV.refs.go,Ev])
  have ov0:=ov0 s hov
  obtain ⟨q1,hq1⟩:∃ q1,q0.setBox k1 (.loop 1 none e [23] pA pC)=q1:=⟨_,rfl⟩
  have w1:Wf q1:=by rw [← hq1]; exact w0.setBox _ _
  have nb1:q1.nb=q.nb+1∧q1.nt=q.nt:=by rw [← hq1]; exact ⟨nb0,nt0⟩
  have bx1:∀ i,q1.box? i=if i=k1 then some (.loop 1 none e [23] pA pC) else q0.box? i:=fun i=>by rw [← hq1]; exact setBox_box? w0.b (by omega) i
  have ov1:Over s q1:=by rw [← hq1]; exact Over.setBox ov0 (by omega) (by omega) _
  have b1k:=bx1 k1
  rw [if_pos rfl] at b1k
  have b10:q1.box? b0=some (.cells 3 [.i .i64 n]):=by rw [bx1,if_neg (by omega),bx0 _ (by omega)]; exact hb0
  have b11:q1.box? (b0+1)=some (.cells 34 [.nsl]):=by rw [bx1,if_neg (by omega),bx0 _ (by omega)]; exact hb1
  have b12:q1.box? (b0+2)=some (.cells 26 [.i .i64 0]):=by rw [bx1,if_neg (by omega),bx0 _ (by omega)]; exact hb2
  have b1n:q1.box? q.nb=some (.cells 118 (tdV x).cells):=by rw [bx1,if_neg (by omega)]; exact bn0
  have ldn:=ER (s:=q1) (v:=.i .i64 n) (off:=0) b10 rfl
  have ldx:=ER (s:=q1) (v:=.i .i64 (x.1:Nat)) (off:=0) b1n rfl
  have ldp:=ER (s:=q1) (v:=tx x.2) (off:=1) b1n rfl
  have hkO:¬ (k1=b0+3+1∨k1=b0+3):=by omega
  refine Ki ?_
  refine Q3 (t:=e.set 10 23 (tdV x)) hk rfl ?_
  simp only [pA,Bt,subC,go_sem,AE,AA,AD,AC,KB_n,KB_x,Nat.reduceBEq,Nat.reduceAdd,Nat.reduceLT,Nat.reduceLeDiff,Nat.reduceEqDiff,reduceIte,Int.reduceEq,reduceCtorEq,st0]
  refine ⟨_,_,_,_,by rw [bx0 k1 (by omega)]; exact hk,?_⟩
  rw [hq1]
  by_cases hxn:(x.1:Int)=n
  · have e1:((x.1:Int)=n)=True:=by simp [hxn]
    have hpl:=hL j x hx hxn
    obtain ⟨rest,H,hrest⟩:=Yl w1 ov1 [(b0+1,.cells 34 [.nsl]),(b0+2,.cells 26 [.i .i64 0]),(k1,.loop 1 none e [23] pA pC)] (by
     intro p hp
     simp only [List.mem_cons,List.not_mem_nil,or_false] at hp
     rcases hp with rfl | rfl | rfl
     · exact ⟨b11,by simp only; omega⟩
     · exact ⟨b12,by simp only; omega⟩
     · exact ⟨b1k,by simp only; omega⟩) (by simp; omega)
    obtain ⟨r,q2,d2,H2,n2⟩:=Ov H x.2 (by rw [hpl]; omega)
    have rc:=H2.rcells 0 rfl
    obtain ⟨q3,d3,H3,n3,lo3⟩:=H2.st 0 (off:=0) (v:=r) rfl (by simp) ⟨rc.1,rc.2.1⟩
    obtain ⟨q4,d4,H4,n4,_⟩:=H3.st 1 (off:=0) (v:=.i .i64 0) rfl (by simp) ⟨rfl,rfl⟩
    have lr:ldR q1 (some (tx x.2))=some (tx x.2,q1):=rfl
    simp only [tx] at d2
    simp only [pC,Bt,subC,go_sem,AE,AA,AD,AC,KB_n,KB_x,Nat.reduceBEq,Nat.reduceAdd,Nat.reduceLT,Nat.reduceLeDiff,Nat.reduceEqDiff,reduceIte,Int.reduceEq,reduceCtorEq,g3,g4,g5,ldn,ldx,ldp,lr,e1,d2,d3,d4]
    simp only [List.cons_append,List.nil_append,List.set_cons_zero,List.set_cons_succ] at H4
    have H5:=H4.setBox (i:=2) rfl (.loop 2 (some .ret) e [23] pA pC)
    simp only [List.set_cons_zero,List.set_cons_succ] at H5
    refine IT (H4.box (i:=2) rfl).1 (by omega) H4.wf H4.over (by omega) (by omega) (by have:=H4.nt; simp only at this; omega) hkO (fun i hi hlt=>?_) (fun hh=>by simp at hh) (fun _=>⟨⟨_,_,_,_,(H5.box (i:=2) rfl).1⟩,⟨r,(H5.box (i:=0) rfl).1,by rw [← hpl]; exact H5.rows (i:=0) rfl,fun k hk=>?_⟩,(H5.box (i:=1) rfl).1⟩) (fun i hh=>by simp at hh)
    · rw [Hp.keep (M:=[_,_,_]) hrest w1 H4 (by omega) (by omega) (fun p hp=>by
       simp only [List.mem_cons,List.not_mem_nil,or_false] at hp
       rcases hp with rfl | rfl | rfl<;>simp only<;>omega),bx1,if_neg (by omega),bx0 i hlt]
    · have hrf:r.refs=true:=by
       rcases H2.rows (i:=0) rfl with h | ⟨k',v,t,h,_⟩
       · rw [D4 h] at hk; cases hk
       · simp only at h; rw [h]; rfl
      have h1:=lo3 hrf
      have h2:q4.lo≤q3.lo:=by
       have:=st_lo d4; omega
      show (q4.setBox k1 _).lo < k1+1
      have:(q4.setBox k1 (.loop 2 (some .ret) e [23] pA pC)).lo=q4.lo:=rfl
      omega
  · have e1:((x.1:Int)=n)=False:=by simp [hxn]
    simp only [pC,Bt,subC,go_sem,AE,AA,AD,AC,KB_n,KB_x,Nat.reduceBEq,Nat.reduceAdd,Nat.reduceLT,Nat.reduceLeDiff,Nat.reduceEqDiff,reduceIte,Int.reduceEq,reduceCtorEq,g3,g4,g5,ldn,ldx,e1]
    have bx3:∀ B i,(q1.setBox k1 B).box? i=if i=k1 then some B else q1.box? i:=fun B i=>setBox_box? w1.b (by omega) i
    refine IT b1k (by omega) w1 ov1 (by omega) (by omega) (by omega) hkO (fun i hi hlt=>by rw [bx1,if_neg (by omega)]; exact bx0 i hlt) (fun _=>⟨fun i y hi hy=>?_,by rw [bx3,if_pos rfl],by rw [bx3,if_neg (by omega)]; exact b10,by rw [bx3,if_neg (by omega)]; exact b11,by rw [bx3,if_neg (by omega)]; exact b12⟩) (fun hh=>by simp at hh) (fun i hh=>by simp at hh)
    by_cases hij:i < j
    · exact hI i y hij hy
    · obtain rfl:i=j:=by omega
      rw [hx] at hy
      cases hy
      exact hxn
theorem Lu {a:AV} {p:List (List Nat)} (h:BR 1 a (p.map .s)) (e:Int) {s q:St} (ov:Over s q):KR s [(.sl 1 .id),.id] (.tup [tx p,.i .i64 e]) (some ([a,.i .i64 e],q)):=by
 refine AK ov ?_ ?_
 · simp only [Bj,AV.refs,AV.refs.go,h.refs (Ev p)]; rfl
 · simp only [wkZ,h.wk (NM p),Bj,wk,tx]
theorem QU {l:List FT} (h:MayD l):∀ n,n < l.length→(climb l n).length≤n:=by
 intro n
 induction n using Nat.strongRecOn with
 | _ n ih =>
   intro hn
   by_cases h0:n=0
   · subst h0; rw [HG]; simp
   · obtain ⟨u,f,h1,h2,h3,_⟩:=h.up n (by omega) hn
     rw [HH h (by omega) hn h1 h2 h3,List.length_append]
     have:=ih u h2 (by omega)
     simp only [List.length_cons,List.length_nil]
     omega
theorem YI (l:List FT) (ho:FOk l) (n:Int) (s:St) (hw:Wf s):(lim prog).call JJ [fx l,.i .i64 n] s=some (.tup [tx (Gg l n).1,.i .i64 (Gg l n).2],s):=by
 refine fn_W RI rfl rfl ?_
 have hz0:wkZ Bt.cin [fx l,.i .i64 n]=[fx l,.i .i64 n]:=by
  simp only [Bt,wkZ,Ft .ws,wk]
  rfl
 rw [hz0]
 have H1:=(((Hp.begin hw).new (.cells 3 [.i .i64 n])).new (.cells 34 [.nsl])).new (.cells 26 [.i .i64 0])
 obtain ⟨q3,hq3⟩:∃ q3,((s.enter.new (.cells 3 [.i .i64 n])).new (.cells 34 [.nsl])).new (.cells 26 [.i .i64 0])=q3:=⟨_,rfl⟩
 have nb3:q3.nb=s.nb+3:=by rw [← hq3]; rfl
 have e1:(s.enter.new (.cells 3 [.i .i64 n])).nb=s.nb+1:=rfl
 have e2:((s.enter.new (.cells 3 [.i .i64 n])).new (.cells 34 [.nsl])).nb=s.nb+2:=rfl
 have e3:s.enter.nb=s.nb:=rfl
 have c1:(AV.i .i64 n).cells=[.i .i64 n]:=rfl
 rw [hq3,e1,e2,e3] at H1
 have hmay:=Ms l ho.ok ho.len ho.fl q3 H1.wf
 unfold fx at hmay
 have ldn:=H1.ld 2 (off:=0) (v:=.i .i64 n) rfl rfl
 cases hm:mayP l
 · rw [hm] at hmay
   obtain ⟨q4,d4,H4,n4,_⟩:=H1.st 1 (off:=0) (v:=.nsl) rfl (by simp) ⟨rfl,rfl⟩
   obtain ⟨q5,d5,H5,n5,_⟩:=H4.st 0 (off:=0) (v:=.i .i64 4) rfl (by simp) ⟨rfl,rfl⟩
   have la:=H5.ld 1 (off:=0) (v:=.nsl) rfl rfl
   have lb:=H5.ld 0 (off:=0) (v:=.i .i64 4) rfl rfl
   simp only [Bt,go_sem,AE,AA,AD,AC,KB_n,KB_x,Nat.reduceBEq,Nat.reduceAdd,Nat.reduceLT,Nat.reduceLeDiff,Nat.reduceEqDiff,reduceIte,Int.reduceEq,reduceCtorEq,fx,hq3,e1,e2,e3,c1,List.length_cons,List.length_nil,hmay,d4,d5,la,lb]
   unfold Gg
   rw [hm,if_neg (by simp)]
   exact Lu (p:=[]) (.inl ⟨rfl,rfl⟩) 4 H5.over
 · rw [hm] at hmay
   unfold Gg
   rw [hm,if_pos rfl]
   by_cases hr:0≤n∧n < (l.length:Int)
   · have r1:(n < 0)=False:=eq_false (by omega)
     have r2:((l.length:Int)≤n)=False:=eq_false (by omega)
     rw [if_pos hr]
     obtain ⟨q5,d5,w5,nb5,nt5,bl5,bt5,bx5,ov5,fq5⟩:=Sr (l:=l) (x:=(0,[])) (a0:=fx l) (a1:=.nsl) .ws (.inl ⟨rfl,rfl⟩) H1.wf
     have ov5:=ov5 s H1.over
     simp only [fx,Int.natCast_zero] at d5
     simp only [Bt,go_sem,AE,AA,AD,AC,KB_n,KB_x,Nat.reduceBEq,Nat.reduceAdd,Nat.reduceLT,Nat.reduceLeDiff,Nat.reduceEqDiff,reduceIte,Int.reduceEq,reduceCtorEq,fx,hq3,e1,e2,e3,c1,List.length_cons,List.length_nil,hmay,ldn,r1,r2,List.length_map,d5]
     refine W_rf3 (g:=Br) (caps:=[.p (q3.nb+1) 0,.p q3.nb 0]) (by simp only [go_sem,AE,AA,AD,AC,KB_n,KB_x,Nat.reduceBEq,Nat.reduceAdd,Nat.reduceLT,Nat.reduceLeDiff,Nat.reduceEqDiff,reduceIte,Int.reduceEq,reduceCtorEq]) fun e' he'=>?_
     have z3:e'.get 3=.p s.nb 0:=by rw [he']; simp only [go_sem,AE,AA,AD,AC,KB_n,KB_x,Nat.reduceBEq,Nat.reduceAdd,Nat.reduceLT,Nat.reduceLeDiff,Nat.reduceEqDiff,reduceIte,Int.reduceEq,reduceCtorEq]
     have z4:e'.get 4=.p (s.nb+1) 0:=by rw [he']; simp only [go_sem,AE,AA,AD,AC,KB_n,KB_x,Nat.reduceBEq,Nat.reduceAdd,Nat.reduceLT,Nat.reduceLeDiff,Nat.reduceEqDiff,reduceIte,Int.reduceEq,reduceCtorEq]
     have z5:e'.get 5=.p (s.nb+2) 0:=by rw [he']; simp only [go_sem,AE,AA,AD,AC,KB_n,KB_x,Nat.reduceBEq,Nat.reduceAdd,Nat.reduceLT,Nat.reduceLeDiff,Nat.reduceEqDiff,reduceIte,Int.reduceEq,reduceCtorEq]
     clear he'
     obtain ⟨q6,hq6⟩:∃ q6,q5.new (.loop 0 none e' [23] pA pC)=q6:=⟨_,rfl⟩
     have w6:Wf q6:=by rw [← hq6]; exact w5.new _
     have nb6:q6.nb=q5.nb+1:=by rw [← hq6]; rfl
     have ov6:Over s q6:=by rw [← hq6]; exact ov5.new _
     have bx6:∀ i,i < q5.nb→q6.box? i=q5.box? i:=fun i hi=>by rw [← hq6]; exact CA hi
     have bk6:q6.box? q5.nb=some (.loop 0 none e' [23] pA pC):=by rw [← hq6]; exact BH q5 _
     have hd:=mayD hm
     have hnl:n.toNat < l.length:=by omega
     have B:=WC (s:=s) (L:=belowF l l.length 0 []) (n:=n) (p:=climb l n.toNat) (b0:=s.nb) (k1:=q5.nb) (e:=e') (by omega) rfl z3 z4 z5 (fun i x hx hxn=>by
      have hx:=List.mem_of_getElem? hx
      rw [← HG l] at hx
      have:=(M2 hm l.length 0 hd.pos hx).2
      rw [this,← hxn,Int.toNat_natCast]) (by have:=QU hd n.toNat hnl; have:=ho.len; omega)
     have b0:=(H1.box (i:=2) rfl).1
     have b1:=(H1.box (i:=1) rfl).1
     have b2:=(H1.box (i:=0) rfl).1
     simp only at b0 b1 b2
     obtain ⟨q7,d7,ov7,w7,nb7,nt7,hres7⟩:=QT hm ho.ok ho.len l.length 0 [] hd.pos (by have:=ho.len; simp; omega) (s:=q6) (xb:=q3.nb+1) (lb:=q3.nb) (by rw [bx6 _ (by omega)]; exact bt5) (by rw [bx6 _ (by omega)]; exact bl5) (by omega) (by omega) (by omega)
      s (q5.nb+1) (q5.nb+1) q5.nb _ _ (C0 (q5.nb+1) 0) (C0.safe _ _) (Nat.le_refl _) (by rw [nb3]; exact B)
      (show PI (belowF l l.length 0 []) n s.nb q5.nb e' 0 q6 from ⟨fun i x hi=>by omega,bk6,by rw [bx6 _ (by omega),bx5 _ (by omega)]; exact b0,by rw [bx6 _ (by omega),bx5 _ (by omega)]; exact b1,by rw [bx6 _ (by omega),bx5 _ (by omega)]; exact b2⟩) ov6 w6 (by omega) (by omega)
     rw [← hq6] at d7
     rcases hres7 with ⟨hI7,_⟩ | ⟨⟨tm,ps,a,b,hk7⟩,hrg,hb2⟩
     · obtain ⟨j,hj⟩:=V7 hm hnl
       have hjl:j < (tdL (belowF l l.length 0 [])).length:=by
        rw [List.getElem?_eq_some_iff] at hj
        simpa [tdL] using hj.1
       exact absurd (by simp only; omega) (hI7 j _ hjl hj)
     · refine ⟨_,q7,d7,_,_,_,_,_,_,hk7,by decide,?_⟩
       have fq7:Fq (fun j=>j=s.nb+3+1∨j=s.nb+3) q5.nb q7 (q7.setBox q5.nb .used):=Fq.setBox w7 (by omega) (.inl (Nat.le_refl _)) (by omega) _
       obtain ⟨q8,hq8⟩:∃ q8,q7.setBox q5.nb .used=q8:=⟨_,rfl⟩
       rw [hq8] at fq7
       have w8:Wf q8:=by rw [← hq8]; exact w7.setBox _ _
       have ov8:Over s q8:=by rw [← hq8]; exact Over.setBox ov7 (by omega) (by omega) _
       obtain ⟨r,k1,k2,_⟩:=hrg
       have k1:q8.box? (s.nb+1)=some (.cells 34 [r]):=by rw [fq7.box _ (by omega) (by omega)]; exact k1
       have k3:q8.box? (s.nb+2)=some (.cells 26 [.i .i64 0]):=by rw [fq7.box _ (by omega) (by omega)]; exact hb2
       have k2:=k2.mono fq7.tok.1 fun k hk=>fq7.tok.2 k (k2.tok_lt hk)
       obtain ⟨rest,H8,_⟩:=Yl w8 ov8 [] (by simp) (by simp)
       have H8:=H8.addRow k2
       obtain ⟨r',q9,d9,t9,H9,n9⟩:=H8.pub 0 rfl
       have d9A:pubA q8 r=some (r',q9):=by
        rw [Ga (H8.rows (i:=0) rfl)]; exact d9
       have la:=ER (s:=q8) (v:=r) (off:=0) k1 rfl
       have hbb:q9.box? (s.nb+2)=q8.box? (s.nb+2):=Zb d9 _
       have lb:=ER (s:=q9) (v:=.i .i64 0) (off:=0) (by rw [hbb]; exact k3) rfl
       simp only [hq8,go_sem,AE,AA,AD,AC,KB_n,KB_x,Nat.reduceBEq,Nat.reduceAdd,Nat.reduceLT,Nat.reduceLeDiff,Nat.reduceEqDiff,reduceIte,Int.reduceEq,reduceCtorEq,z4,z5,la,lb,d9A]
       exact Lu t9 0 H9.over
   · rw [if_neg hr]
     obtain ⟨q4,d4,H4,n4,_⟩:=H1.st 1 (off:=0) (v:=.nsl) rfl (by simp) ⟨rfl,rfl⟩
     obtain ⟨q5,d5,H5,n5,_⟩:=H4.st 0 (off:=0) (v:=.i .i64 1) rfl (by simp) ⟨rfl,rfl⟩
     have la:=H5.ld 1 (off:=0) (v:=.nsl) rfl rfl
     have lb:=H5.ld 0 (off:=0) (v:=.i .i64 1) rfl rfl
     by_cases r1:n < 0
     · have r1':(n < 0)=True:=by simp [r1]
       simp only [Bt,go_sem,AE,AA,AD,AC,KB_n,KB_x,Nat.reduceBEq,Nat.reduceAdd,Nat.reduceLT,Nat.reduceLeDiff,Nat.reduceEqDiff,reduceIte,Int.reduceEq,reduceCtorEq,fx,hq3,e1,e2,e3,c1,List.length_cons,List.length_nil,hmay,ldn,r1',d4,d5,la,lb]
       exact Lu (p:=[]) (.inl ⟨rfl,rfl⟩) 1 H5.over
     · have r1':(n < 0)=False:=by simp [r1]
       have r2':((l.length:Int)≤n)=True:=eq_true (by omega)
       simp only [Bt,go_sem,AE,AA,AD,AC,KB_n,KB_x,Nat.reduceBEq,Nat.reduceAdd,Nat.reduceLT,Nat.reduceLeDiff,Nat.reduceEqDiff,reduceIte,Int.reduceEq,reduceCtorEq,fx,hq3,e1,e2,e3,c1,List.length_cons,List.length_nil,hmay,ldn,r1',r2',List.length_map,d4,d5,la,lb]
       exact Lu (p:=[]) (.inl ⟨rfl,rfl⟩) 1 H5.over
end Go.Proofs.YtgloinighjdhlaaGreat

namespace Go.Proofs.YtgloinighjdhlaaGreat
open Go.Proofs.YtgloinighjdhlaaGreat.Am
theorem Tl {t0:Nat} {s:St} {r:RA} (h:RowH t0 s r):elems s r.es r.a=some r.xs:=by
 rcases h with h | ⟨k,v,t,h,h1,h2,h3,h4,_⟩
 · exact h.told.elems s
 · rw [h]
   simp [elems,St.ok,h3,h4]
def OutR (es T:Nat) (a:AV) (xs:List AV) (R:List RA):Prop:=Iu es a xs∨∃ fr,R[0]? = some ⟨es,T,a,xs,fr⟩
theorem OutR.elems {es T:Nat} {a:AV} {xs:List AV} {R:List RA} {B:List (Nat×Box)} {s0 s:St} {n:En} (h:OutR es T a xs R) (H:Hp s0 s n R B):Am.elems s es a=some xs:=by
 rcases h with h | ⟨fr,h⟩
 · exact h.told.elems s
 · exact Tl (H.rows h)
theorem OutR.pubA {es T:Nat} {a:AV} {xs:List AV} {R:List RA} {B:List (Nat×Box)} {s0 s:St} {n:En} (h:OutR es T a xs R) (H:Hp s0 s n R B):∃ a' s' R',Am.pubA s a=some (a',s')∧BR es a' xs∧Hp s0 s' n R' B:=by
 rcases h with h | ⟨fr,h⟩
 · exact ⟨a,s,R,h.told.pubA s,h.told,H⟩
 · obtain ⟨a',s',d,t,H',_⟩:=H.pub 0 h
   exact ⟨a',s',_,by rw [Ga (H.rows h)]; exact d,t,H'⟩

theorem J2:∀ {a b c:List Nat},ltN a b=true→ltN b c=true→ltN a c=true
 | [],[],_,h,_=>by simp [ltN] at h
 | _::_,[],_,h,_=>by simp [ltN] at h
 | _,_::_,[],_,h=>by simp [ltN] at h
 | [],_::_,_::_,_,_=>rfl
 | a :: x,b::y,c::z,h1,h2=>by
   simp only [ltN,Bool.or_eq_true,Bool.and_eq_true,Nat.blt_eq,Nat.beq_eq] at h1 h2 ⊢
   rcases h1 with h1 | ⟨h1,h3⟩
   · rcases h2 with h2 | ⟨h2,_⟩
     · left; omega
     · left; omega
   · rcases h2 with h2 | ⟨h2,h4⟩
     · left; omega
     · right; exact ⟨by omega,J2 h3 h4⟩
theorem Vw:∀ {a b:List Nat},ltN a b=false→a≠b→ltN b a=true
 | [],[],_,h=>absurd rfl h
 | [],_::_,h,_=>by simp [ltN] at h
 | _::_,[],_,_=>rfl
 | a :: x,b::y,h,hn=>by
   have h':¬ (ltN (a::x) (b::y)=true):=by simp [h]
   simp only [ltN,Bool.or_eq_true,Bool.and_eq_true,Nat.blt_eq,Nat.beq_eq] at h' ⊢
   by_cases hab:a=b
   · subst hab
     right
     refine ⟨rfl,Vw (by cases hx:ltN x y with | false=>rfl | true=>exact absurd (.inr ⟨rfl,hx⟩) h') fun hh=>hn (by rw [hh])⟩
   · left
     have:¬ a < b:=fun hh=>h' (.inl hh)
     omega

attribute [local irreducible] W WO WE WQ WD Tr.get Tr.set
theorem ab (a:List Nat) (s:St):(lim prog).call De [.s a] s=some (.b false,s):=by
 refine fn_W Jx rfl rfl ?_
 have e1:(a≠a)=False:=by simp
 simp only [Cw,go_sem,AE,AA,AD,AC,KB_n,KB_x,Nat.reduceBEq,Nat.reduceAdd,Nat.reduceLT,Nat.reduceLeDiff,Nat.reduceEqDiff,reduceIte,Int.reduceEq,reduceCtorEq,e1]
 exact AK (Over.enter s) rfl rfl
theorem RT (a:List Nat) (s:St):(lim prog).call Cs [.s a] s=some (.b false,s):=by
 refine fn_W IZ rfl rfl ?_
 have e1:(a≠a)=False:=by simp
 simp only [CL,go_sem,AE,AA,AD,AC,KB_n,KB_x,Nat.reduceBEq,Nat.reduceAdd,Nat.reduceLT,Nat.reduceLeDiff,Nat.reduceEqDiff,reduceIte,Int.reduceEq,reduceCtorEq,e1]
 exact AK (Over.enter s) rfl rfl
theorem It (a b:List Nat) (s:St):(lim prog).call FS [.s a,.s b] s=some (.b (ltN a b),s):=by
 refine fn_W Ko rfl rfl ?_
 simp only [DB,go_sem,AE,AA,AD,AC,KB_n,KB_x,Nat.reduceBEq,Nat.reduceAdd,Nat.reduceLT,Nat.reduceLeDiff,Nat.reduceEqDiff,reduceIte,Int.reduceEq,reduceCtorEq,ab]
 exact AK (Over.enter s) rfl rfl
def Asc (L:List (List Nat)):Prop:=∀ {i j:Nat} {a b:List Nat},i < j→L[i]? = some a→L[j]? = some b→ltN a b=true
structure Pos (L:List (List Nat)) (x:List Nat) (p:Nat):Prop where
 le:p≤L.length
 lo:∀ {k:Nat} {y:List Nat},k < p→L[k]? = some y→ltN y x=true
 hi:∀ {k:Nat} {y:List Nat},p≤k→L[k]? = some y→ltN y x=false
theorem shr1 (a:Nat):Am.binOp .shr (.i .u64 (a:Int)) (.i .u64 1)=some (.i .u64 ((a / 2:Nat):Int)):=by
 have:((a:Int).fdiv 2)=((a / 2:Nat):Int):=by
  rw [Int.fdiv_eq_ediv_of_nonneg _ (by omega)]; omega
 simp [Am.binOp,IntKind.bits]
 exact this
theorem ac {a:Nat} (h:a < 2^64):IntKind.u64.wrap (a:Int)=(a:Int):=by
 have:((a:Int) % 2^64)=(a:Int):=by omega
 simp only [IntKind.wrap,IntKind.signed,IntKind.bits,this]
 rfl
theorem Yu (f:List Nat→Bool):∀ L:List (List Nat),∃ p,p≤L.length∧(∀ {k:Nat} {y:List Nat},k < p→L[k]? = some y→f y=true)∧∀ {y:List Nat},L[p]? = some y→f y=false
 | []=>⟨0,by simp,fun h=>by omega,fun h=>by simp at h⟩
 | a :: L=>by
   cases ha:f a with
   | false=>exact ⟨0,by simp,fun h=>by omega,fun h=>by simp only [List.getElem?_cons_zero,Option.some.injEq] at h; rw [← h]; exact ha⟩
   | true =>
     obtain ⟨p,h1,h2,h3⟩:=Yu f L
     refine ⟨p+1,by simp; omega,fun {k y} hk hy=>?_,fun h=>h3 (by simpa using h)⟩
     cases k with
     | zero=>simp only [List.getElem?_cons_zero,Option.some.injEq] at hy; rw [← hy]; exact ha
     | succ k=>exact h2 (k:=k) (by omega) (by simpa using hy)
theorem Sp {L:List (List Nat)} (hasc:Asc L) (x:List Nat):∃ p,Pos L x p:=by
 obtain ⟨p,h1,h2,h3⟩:=Yu (fun y=>ltN y x) L
 refine ⟨p,h1,fun hk hy=>h2 hk hy,@fun k y hk hy=>?_⟩
 by_cases hkp:k=p
 · subst hkp; exact h3 hy
 · have hlt:k < L.length:=(List.getElem?_eq_some_iff.1 hy).1
   have hpk:p < k:=by omega
   obtain ⟨z,hz⟩:∃ z,L[p]? = some z:=⟨_,List.getElem?_eq_getElem (show p < L.length by omega)⟩
   have hzy:=hasc hpk hz hy
   rw [Bool.eq_false_iff]
   intro hyx
   have:=J2 hzy hyx
   rw [h3 hz] at this
   cases this
theorem N2 (L:List (List Nat)) (x:List Nat) (hasc:Asc L) (hl:L.length < 2^62) (s:St):∃ p,Pos L x p∧(lim prog).call AR [tx L,.s x] s=some (.tup [.i .i64 (p:Nat),.b (decide (L[p]? = some x))],s):=by
 have hex:∃ p,Pos L x p:=Sp hasc x
 obtain ⟨p,hp⟩:=hex
 refine ⟨p,hp,fn_W Bf rfl rfl ?_⟩
 simp only [AP,go_sem,AE,AA,AD,AC,KB_n,KB_x,Nat.reduceBEq,Nat.reduceAdd,Nat.reduceLT,Nat.reduceLeDiff,Nat.reduceEqDiff,reduceIte,Int.reduceEq,reduceCtorEq,List.length_map]
 refine CJ (fun n e q=>q=s.enter∧∃ i j:Nat,i+n=j∧i≤p∧p≤j∧j≤L.length∧e.get 0=tx L∧e.get 1=.s x∧e.get 6=.i .i64 (L.length:Nat)∧e.get 7=.i .i64 (i:Nat)∧e.get 8=.i .i64 (j:Nat)) ?_ L.length _ _ ?_
 · rintro n e q ⟨rfl,i,j,hij,hip,hpj,hj,g0,g1,g6,g7,g8⟩
   by_cases h:i < j
   · have e1:((i:Int) < (j:Int))=True:=eq_true (by omega)
     have hs1:IntKind.i64.wrap ((i:Int)+(j:Int))=((i+j:Nat):Int):=by
      rw [show (i:Int)+(j:Int)=((i+j:Nat):Int) by omega]; exact Cx (by omega)
     have hs2:=ac (show i+j < 2^64 by omega)
     have hs3:=Cx (show (i+j) / 2 < 2^63 by omega)
     obtain ⟨m,hm⟩:∃ m,(i+j) / 2=m:=⟨_,rfl⟩
     rw [hm] at hs3
     obtain ⟨y,hy⟩:∃ y,L[m]? = some y:=⟨_,List.getElem?_eq_getElem (by omega)⟩
     have hy2:(L.map AV.s)[m]? = some (.s y):=by rw [List.getElem?_map,hy]; rfl
     have hw1:=Af (show m+1 < 2^63 by omega)
     have hsh:=shr1 (i+j)
     rw [hm] at hsh
     cases hlt:ltN y x with
     | true =>
       have:m < p:=by
        refine Nat.lt_of_not_le fun hh=>?_
        have:=hp.hi hh hy
        rw [hlt] at this; cases this
       simp only [go_sem,AE,AA,AD,AC,KB_n,KB_x,Nat.reduceBEq,Nat.reduceAdd,Nat.reduceLT,Nat.reduceLeDiff,Nat.reduceEqDiff,reduceIte,Int.reduceEq,reduceCtorEq,g0,g1,g6,g7,g8,e1,hs1,hs2,hsh,hs3,AH,hy2,BP,C6,It,hlt,hw1]
       exact ⟨j - (m+1),by omega,m+1,j,by omega,by omega,by omega,hj,rfl,rfl⟩
     | false =>
       have:p≤m:=by
        refine Nat.le_of_not_lt fun hh=>?_
        have:=hp.lo hh hy
        rw [hlt] at this; cases this
       simp only [go_sem,AE,AA,AD,AC,KB_n,KB_x,Nat.reduceBEq,Nat.reduceAdd,Nat.reduceLT,Nat.reduceLeDiff,Nat.reduceEqDiff,reduceIte,Int.reduceEq,reduceCtorEq,g0,g1,g6,g7,g8,e1,hs1,hs2,hsh,hs3,AH,hy2,BP,C6,It,hlt]
       exact ⟨m - i,by omega,i,m,by omega,by omega,by omega,by omega,rfl,rfl⟩
   · have e1:((i:Int) < (j:Int))=False:=eq_false (by omega)
     obtain rfl:i=p:=by omega
     have hbr:∀ b,KR s [.id,.id] (.tup [.i .i64 (i:Nat),.b b]) (some ([.i .i64 (i:Nat),.b b],s.enter)):=fun b=>AK (Over.enter s) rfl rfl
     by_cases h2:i < L.length
     · have e2:((i:Int) < (L.length:Int))=True:=eq_true (by omega)
       obtain ⟨y,hy⟩:∃ y,L[i]? = some y:=⟨_,List.getElem?_eq_getElem h2⟩
       have hy2:(L.map AV.s)[i]? = some (.s y):=by rw [List.getElem?_map,hy]; rfl
       by_cases h3:y=x
       · have e3:(y=x)=True:=by simp [h3]
         rw [decide_eq_true (by rw [hy,h3]:L[i]? = some x)]
         simp only [go_sem,AE,AA,AD,AC,KB_n,KB_x,Nat.reduceBEq,Nat.reduceAdd,Nat.reduceLT,Nat.reduceLeDiff,Nat.reduceEqDiff,reduceIte,Int.reduceEq,reduceCtorEq,g0,g1,g6,g7,g8,e1,e2,AH,hy2,BP,C6,e3]
         exact hbr _
       · have e3:(y=x)=False:=by simp [h3]
         rw [decide_eq_false (by rw [hy]; simpa using h3:¬ L[i]? = some x)]
         simp only [go_sem,AE,AA,AD,AC,KB_n,KB_x,Nat.reduceBEq,Nat.reduceAdd,Nat.reduceLT,Nat.reduceLeDiff,Nat.reduceEqDiff,reduceIte,Int.reduceEq,reduceCtorEq,g0,g1,g6,g7,g8,e1,e2,AH,hy2,BP,C6,e3,RT]
         exact hbr _
     · have e2:((i:Int) < (L.length:Int))=False:=eq_false (by omega)
       rw [decide_eq_false (by rw [List.getElem?_eq_none (by omega)]; simp:¬ L[i]? = some x)]
       simp only [go_sem,AE,AA,AD,AC,KB_n,KB_x,Nat.reduceBEq,Nat.reduceAdd,Nat.reduceLT,Nat.reduceLeDiff,Nat.reduceEqDiff,reduceIte,Int.reduceEq,reduceCtorEq,g0,g1,g6,g7,g8,e1,e2]
       exact hbr _
 · simp only [go_sem,AE,AA,AD,AC,KB_n,KB_x,Nat.reduceBEq,Nat.reduceAdd,Nat.reduceLT,Nat.reduceLeDiff,Nat.reduceEqDiff,reduceIte,Int.reduceEq,reduceCtorEq]
   have:=hp.le
   exact ⟨0,L.length,by omega,by omega,by omega,by omega,rfl,rfl⟩
end Go.Proofs.YtgloinighjdhlaaGreat

namespace Go.Proofs.YtgloinighjdhlaaGreat
open Go.Proofs.YtgloinighjdhlaaGreat.Am
theorem Mz:∀ (p:Option (List Nat)) (ns:List (List Nat)) (ks:List ND),ns.length=ks.length→FY p ns ks=true →
    (∀ {i:Nat} {k:ND},ks[i]? = some k→E6 k=true)∧(∀ {i:Nat} {s:List Nat},ns[i]? = some s→Dh s=true)∧(∀ q,p=some q→∀ {i:Nat} {s:List Nat},ns[i]? = some s→ltN q s=true)∧Asc ns
 | p,[],[],_,_=>⟨fun h=>by simp at h,fun h=>by simp at h,fun _ _ _ _ h=>by simp at h,fun _ h=>by simp at h⟩
 | p,a::ns,b::ks,hl,h=>by
   simp only [FY,Bool.and_eq_true] at h
   obtain ⟨h1,h2,h3,h4⟩:=h
   obtain ⟨k1,k2,k3,k4⟩:=Mz (some a) ns ks (by simpa using hl) h4
   refine ⟨@fun i k hk=>?_,@fun i s hs=>?_,fun q hq=>@fun i s hs=>?_,@fun i j x y hij hx hy=>?_⟩
   · cases i with
     | zero=>simp only [List.getElem?_cons_zero,Option.some.injEq] at hk; rw [← hk]; exact h3
     | succ i=>exact k1 (i:=i) (by simpa using hk)
   · cases i with
     | zero=>simp only [List.getElem?_cons_zero,Option.some.injEq] at hs; rw [← hs]; exact h1
     | succ i=>exact k2 (i:=i) (by simpa using hs)
   · subst hq
     have h2:ltN q a=true:=h2
     cases i with
     | zero=>simp only [List.getElem?_cons_zero,Option.some.injEq] at hs; rw [← hs]; exact h2
     | succ i=>exact J2 h2 (k3 a rfl (i:=i) (by simpa using hs))
   · cases j with
     | zero=>omega
     | succ j =>
       have hy:ns[j]? = some y:=by simpa using hy
       cases i with
       | zero=>simp only [List.getElem?_cons_zero,Option.some.injEq] at hx; rw [← hx]; exact k3 a rfl hy
       | succ i=>exact k4 (i:=i) (j:=j) (by omega) (by simpa using hx) hy
 | _,[],_::_,hl,_=>by simp at hl
 | _,_::_,[],hl,_=>by simp at hl
structure WellD (n:ND):Prop where
 len:n.names.length=n.kids.length
 kid:∀ {i:Nat} {k:ND},n.kids[i]? = some k→E6 k=true
 name:∀ {i:Nat} {s:List Nat},n.names[i]? = some s→Dh s=true
 asc:Asc n.names
theorem Vu {n:ND} (h:E6 n=true):WellD n:=by
 rw [Ls] at h
 split at h
 · simp only [Bool.and_eq_true,decide_eq_true_eq] at h
   obtain ⟨h1,h2,_⟩:=h
   have h2:n.kids=[]:=List.length_eq_zero_iff.1 h2
   exact ⟨by rw [h1,h2]; rfl,fun h=>by rw [h2] at h; simp at h,fun h=>by rw [h1] at h; simp at h,fun _ h=>by rw [h1] at h; simp at h⟩
 · split at h
   · simp only [Bool.and_eq_true,decide_eq_true_eq] at h
     obtain ⟨_,h2,h3⟩:=h
     obtain ⟨k1,k2,_,k4⟩:=Mz none _ _ h2 h3
     exact ⟨h2,k1,k2,k4⟩
   · cases h
def noN:ND:=.mk 0 [] [] []
def kidN (n:ND) (s:List Nat):Option ND:=if n.kind=2 then match n.names.findIdx? (·==s) with
 | some i=>n.kids[i]?
 | none=>none else none
def FE:ND→List (List Nat)→Option ND
 | n,[]=>some n
 | n,s::p=>match kidN n s with
   | some k=>FE k p
   | none=>none
theorem M0:∀ a:List Nat,ltN a a=false
 | []=>rfl
 | c::a=>by
   have:Nat.blt c c=false:=by rw [Bool.eq_false_iff]; intro h; rw [Nat.blt_eq] at h; omega
   simp only [ltN,this,M0 a,Bool.and_false,Bool.or_self]
theorem Vv {L:List (List Nat)} (hasc:Asc L) {x:List Nat} {p:Nat} (hp:Pos L x p):L.findIdx? (·==x)=if L[p]? = some x then some p else none:=by
 by_cases h:L[p]? = some x
 · rw [if_pos h,List.findIdx?_eq_some_iff_getElem]
   obtain ⟨h1,h2⟩:=List.getElem?_eq_some_iff.1 h
   refine ⟨h1,by simp [h2],fun j hj=>?_⟩
   have hlt:=hp.lo hj (List.getElem?_eq_getElem (show j < L.length by omega))
   simp only [beq_iff_eq]
   intro he
   rw [he,M0] at hlt
   cases hlt
 · rw [if_neg h,List.findIdx?_eq_none_iff]
   intro y hy
   obtain ⟨j,hj,rfl⟩:=List.mem_iff_getElem.1 hy
   have hg:=List.getElem?_eq_getElem hj
   simp only [beq_eq_false_iff_ne,ne_eq]
   intro he
   rw [he] at hg
   by_cases hjp:j < p
   · have:=hp.lo hjp hg
     rw [M0] at this; cases this
   · by_cases hjp2:j=p
     · subst hjp2; exact h hg
     · have hpj:p < j:=by omega
       obtain ⟨z,hz⟩:∃ z,L[p]? = some z:=⟨_,List.getElem?_eq_getElem (show p < L.length by omega)⟩
       have h1:=hasc hpj hz hg
       have h2:=hp.hi (Nat.le_refl _) hz
       rw [h1] at h2; cases h2

attribute [local irreducible] W WO WE WQ WD Tr.get Tr.set
def GR (o:Option ND):ND:=o.getD noN
theorem ah (n:ND) (ho:n.Ok) (hwl:E6 n=true) (pl:List (List Nat)) (hl:pl.length < 2^62) (s:St) (hw:Wf s) :
    (lim prog).call IW [.agg n.cells,tx pl] s=some (.tup [.agg (GR (FE n pl)).cells,.b (FE n pl).isSome],s):=by
 refine fn_W P5 rfl rfl ?_
 have H0:=(Hp.begin hw).new (.cells 37 n.cells)
 generalize hq:s.enter.new (.cells 37 n.cells)=q at H0
 generalize hm:s.enter.nb=m at H0
 have H1:=H0.new (.cells 37 [.i .u8 0,.s [],.nsl,.nsl])
 generalize hq1:q.new (.cells 37 [.i .u8 0,.s [],.nsl,.nsl])=q1 at H1
 generalize hm1:q.nb=m1 at H1
 have hz0:wkZ Eo.cin [.agg n.cells,tx pl]=[.agg n.cells,tx pl]:=by simp [Eo,wkZ,wk,ND.cells]
 rw [hz0]
 simp only [Eo,go_sem,AE,AA,AD,AC,KB_n,KB_x,Nat.reduceBEq,Nat.reduceAdd,Nat.reduceLT,Nat.reduceLeDiff,Nat.reduceEqDiff,reduceIte,Int.reduceEq,reduceCtorEq,Ay,hq,hm,hq1,hm1,List.length_map]
 refine CJ (fun x e q=>∃ (i:Nat) (c:ND),i+x=pl.length∧c.Ok∧E6 c=true∧FE n pl=FE c (pl.drop i)∧Hp s q s.en [] [(m1,.cells 37 [.i .u8 0,.s [],.nsl,.nsl]),(m,.cells 37 c.cells)] ∧
  e.get 2=.p m 0∧e.get 4=.p m1 0∧e.get 10=tx pl∧e.get 11=.i .i64 (pl.length:Nat)∧e.get 12=.i .i64 (i:Nat)) ?_ pl.length _ _ ?_
 · rintro x e q' ⟨i,c,hi,hco,hcw,hf,H,g2,g4,g10,g11,g12⟩
   have l0:=H.ld 1 (off:=0) (v:=.i .u8 (c.kind:Nat)) rfl rfl
   have l2:=H.ld 1 (off:=2) (v:=tx c.names) rfl rfl
   have l3:=H.ld 1 (off:=3) (v:=.ws false 4 (c.kids.map ND.av)) rfl rfl
   by_cases h:i < pl.length
   · have e1:((i:Int) < (pl.length:Int))=True:=eq_true (by omega)
     obtain ⟨y,hy⟩:∃ y,pl[i]? = some y:=⟨_,List.getElem?_eq_getElem h⟩
     have hy2:(pl.map AV.s)[i]? = some (.s y):=by rw [List.getElem?_map,hy]; rfl
     have hd:pl.drop i=y::pl.drop (i+1):=by
      rw [List.drop_eq_getElem_cons h]
      rw [List.getElem?_eq_getElem h] at hy
      cases hy; rfl
     have hD:=Vu hcw
     obtain ⟨p,hp,hb⟩:=N2 c.names y hD.asc (by have:=hco.names.2; omega) q'
     have hidx:=Vv hD.asc hp
     have hw1:=Af (show i+1 < 2^63 by omega)
     obtain ⟨q3,d3,H3,_⟩:=H.stw 0 (v:=.agg [.i .u8 0,.s [],.nsl,.nsl]) (m:=4) rfl rfl ⟨rfl,rfl⟩
     have l4:=H3.ldw 0 (m:=4) rfl rfl
     have bad:kidN c y=none→FE n pl=none:=fun hk=>by rw [hf,hd]; simp only [FE,hk]
     have hend:KR s [(.agg [.id,.id,(.sl 1 .id),(.sl 4 (.agg [.id,.id,(.sl 1 .id),(.sl 4 (.agg [.id,.id,(.sl 1 .id),(.sl 4 .id)]))]))]),.id] (.tup [.agg noN.cells,.b false]) (some ([.agg [.i .u8 0,.s [],.nsl,.nsl],.b false],q3)):=AK H3.over rfl rfl
     by_cases c2:c.kind=2
     · have e2:((c.kind:Int)≠2)=False:=by simp only [ne_eq,eq_iff_iff,iff_false]; omega
       by_cases c3:c.names[p]? = some y
       · rw [decide_eq_true c3] at hb
         rw [if_pos c3] at hidx
         have hpl:p < c.names.length:=(List.getElem?_eq_some_iff.1 c3).1
         obtain ⟨k,hk⟩:∃ k,c.kids[p]? = some k:=⟨_,List.getElem?_eq_getElem (by rw [← hD.len]; exact hpl)⟩
         have hkid:kidN c y=some k:=by unfold kidN; rw [if_pos c2,hidx]; exact hk
         have hget:=Ia hk
         obtain ⟨q4,d4,H4,_⟩:=H.stw 1 (v:=.agg k.cells) (m:=4) rfl rfl ⟨Ay k,O8 k⟩
         have hld:ldA q' true 4 (.ep k.cells 0 .shut)=some (.agg k.cells):=rfl
         simp only [go_sem,AE,AA,AD,AC,KB_n,KB_x,Nat.reduceBEq,Nat.reduceAdd,Nat.reduceLT,Nat.reduceLeDiff,Nat.reduceEqDiff,reduceIte,Int.reduceEq,reduceCtorEq,g2,g4,g10,g11,g12,e1,AH,hy2,BP,C6,l0,l2,l3,hb,e2,hget,hld,AY,d4,hw1,Nat.zero_add]
         exact ⟨x - 1,by omega,i+1,k,by omega,hco.kids.1 k (List.mem_of_getElem? hk),hD.kid hk,by rw [hf,hd]; simp only [FE,hkid],H4,rfl⟩
       · rw [decide_eq_false c3] at hb
         rw [if_neg c3] at hidx
         have hkid:kidN c y=none:=by unfold kidN; rw [if_pos c2,hidx]
         rw [bad hkid]
         simp only [go_sem,AE,AA,AD,AC,KB_n,KB_x,Nat.reduceBEq,Nat.reduceAdd,Nat.reduceLT,Nat.reduceLeDiff,Nat.reduceEqDiff,reduceIte,Int.reduceEq,reduceCtorEq,g2,g4,g10,g11,g12,e1,AH,hy2,BP,C6,l0,l2,l3,hb,e2,d3,l4,Nat.zero_add]
         exact hend
     · have e2:((c.kind:Int)≠2)=True:=by simp only [ne_eq,eq_iff_iff,iff_true]; omega
       have hkid:kidN c y=none:=by unfold kidN; rw [if_neg c2]
       rw [bad hkid]
       simp only [go_sem,AE,AA,AD,AC,KB_n,KB_x,Nat.reduceBEq,Nat.reduceAdd,Nat.reduceLT,Nat.reduceLeDiff,Nat.reduceEqDiff,reduceIte,Int.reduceEq,reduceCtorEq,g2,g4,g10,g11,g12,e1,AH,hy2,BP,C6,l0,l2,l3,hb,e2,d3,l4,Nat.zero_add]
       exact hend
   · have e1:((i:Int) < (pl.length:Int))=False:=eq_false (by omega)
     rw [List.drop_of_length_le (by omega)] at hf
     rw [hf]
     have l4:=H.ldw 1 (m:=4) rfl rfl
     obtain ⟨q4,d4,H4,_⟩:=H.stw 0 (v:=.agg c.cells) (m:=4) rfl rfl ⟨Ay c,O8 c⟩
     have l5:=H4.ldw 0 (m:=4) rfl rfl
     simp only [go_sem,AE,AA,AD,AC,KB_n,KB_x,Nat.reduceBEq,Nat.reduceAdd,Nat.reduceLT,Nat.reduceLeDiff,Nat.reduceEqDiff,reduceIte,Int.reduceEq,reduceCtorEq,g2,g4,g10,g11,g12,e1,l4,AY,My,d4,l5]
     refine AK H4.over ?_ ?_
     · have:=RS c
       rw [ND.av_eq] at this
       simp only [Bj,AV.refs.eq_8,AV.refs.go,this]
       rfl
     · have hwk:wkZ [(.agg [.id,.id,(.sl 1 .id),(.sl 4 (.agg [.id,.id,(.sl 1 .id),(.sl 4 (.agg [.id,.id,(.sl 1 .id),(.sl 4 .id)]))]))]),.id] [.agg c.cells,.b true]=[.agg c.cells,.b true]:=by simp [wkZ,wk,ND.cells]
       rw [hwk]
       rfl
 · simp only [go_sem,AE,AA,AD,AC,KB_n,KB_x,Nat.reduceBEq,Nat.reduceAdd,Nat.reduceLT,Nat.reduceLeDiff,Nat.reduceEqDiff,reduceIte,Int.reduceEq,reduceCtorEq]
   exact ⟨0,n,by omega,ho,hwl,rfl,H1,rfl⟩

abbrev ctN:CT:=.agg [.id,.id,(.sl 1 .id),(.sl 4 (.agg [.id,.id,(.sl 1 .id),(.sl 4 (.agg [.id,.id,(.sl 1 .id),(.sl 4 .id)]))]))]
theorem Yt:noN.Ok:=.mk (by decide) ⟨by simp,by simp⟩ (by decide) (fun _ h=>by simp at h) (by decide) (by decide) (fun _ h=>by simp at h)
theorem O5 {n:ND} (ho:n.Ok):∀ (pl:List (List Nat)),(GR (FE n pl)).Ok
 | []=>ho
 | y :: pl=>by
   unfold FE
   cases hk:kidN n y with
   | none=>exact Yt
   | some k =>
     simp only
     have hm:k∈n.kids:=by
      unfold kidN at hk
      split at hk
      · split at hk
        · exact List.mem_of_getElem? hk
        · cases hk
      · cases hk
     exact O5 (ho.kids.1 k hm) pl
theorem KR_N {s q:St} (ov:Over s q) (x:ND) (b:Bool):KR s [ctN,.id] (.tup [.agg x.cells,.b b]) (some ([.agg x.cells,.b b],q)):=by
 refine AK ov ?_ ?_
 · have:=RS x
   rw [ND.av_eq] at this
   simp only [Bj,AV.refs,AV.refs.go,this]
   simp only [AV.refs] at this
   rw [this]; rfl
 · rfl
theorem Tm (n:ND) (ho:n.Ok) (hwl:E6 n=true) (pl:List (List Nat)) (hl:pl.length < 2^62) (s:St) (hw:Wf s) :
    (lim prog).call Kn [.agg n.cells,tx pl] s=some (.tup [.agg (GR (FE n pl)).cells,.b (FE n pl).isSome],s):=by
 refine fn_W Tg rfl rfl ?_
 have hz0:wkZ F9.cin [.agg n.cells,tx pl]=[.agg n.cells,tx pl]:=by simp [F9,wkZ,wk,ND.cells]
 rw [hz0]
 have e0:s.enter.nb=s.nb:=rfl
 have H1:=((Hp.begin hw).new (.cells 37 n.cells)).new (.cells 37 [.i .u8 0,.s [],.nsl,.nsl])
 have e1:(s.enter.new (.cells 37 n.cells)).nb=s.nb+1:=rfl
 obtain ⟨q1,hq1⟩:∃ q1,(s.enter.new (.cells 37 n.cells)).new (.cells 37 [.i .u8 0,.s [],.nsl,.nsl])=q1:=⟨_,rfl⟩
 rw [hq1,e1,e0] at H1
 have lw:=H1.ldw (m:=4) 1 rfl rfl
 have hwf:=Vt n ho q1 H1.wf
 rw [hwl] at hwf
 have hf:=ah n ho hwl pl hl q1 H1.wf
 obtain ⟨x,hx⟩:∃ x,GR (FE n pl)=x:=⟨_,rfl⟩
 have hxo:=O5 ho pl
 rw [hx] at hf hxo
 obtain ⟨q2,d2,H2,n2⟩:=H1.adp (T:=37) (m:=4) (z:=[.i .u8 0,.s [],.nsl,.nsl]) (v:=.agg x.cells) rfl ⟨Ay x,O8 x⟩
 have lx:=H2.ldw (m:=4) 0 rfl rfl
 have ho:=own_ok x hxo q2 H2.wf
 obtain ⟨q3,d3,H3,n3,_⟩:=H2.stw 1 (m:=4) (v:=.agg x.cells) rfl rfl ⟨Ay x,O8 x⟩
 have lr:=H3.ldw (m:=4) 1 rfl rfl
 rw [hx]
 simp only [Bh] at lx lr
 simp only [tx] at hf
 simp only [F9,go_sem,AE,AA,AD,AC,KB_n,KB_x,Nat.reduceBEq,Nat.reduceAdd,Nat.reduceLT,Nat.reduceLeDiff,Nat.reduceEqDiff,reduceIte,Int.reduceEq,reduceCtorEq,Ay,tx,hq1,e1,e0,lw,hwf,hf,d2,lx,ho,d3,lr,AY,My]
 exact KR_N H3.over x _

def RO (P:List Nat→Bool) (L:List (List Nat)):Int:=match L.findIdx? P with
 | some i=>(i:Int)
 | none => -1
theorem Vp (P:List Nat→Bool) (L:List (List Nat)):(0≤RO P L)=(L.any P=true):=by
 unfold RO
 cases h:L.findIdx? P with
 | none =>
   rw [List.findIdx?_eq_none_iff] at h
   simp only [eq_iff_iff]
   constructor
   · intro hh; omega
   · intro hh
     obtain ⟨x,hx,hp⟩:=List.any_eq_true.1 hh
     rw [h x hx] at hp; cases hp
 | some i =>
   rw [List.findIdx?_eq_some_iff_getElem] at h
   obtain ⟨hi,hp,_⟩:=h
   simp only [eq_iff_iff]
   constructor
   · intro _; exact List.any_eq_true.2 ⟨_,List.getElem_mem hi,hp⟩
   · intro _; omega
theorem O6 (L:List (List Nat)) (hL:L.length < 2^62) (g:Nat) (caps:List AV) (P:List Nat→Bool) (s:St) (hw:Wf s) (hP:∀ z∈L,Di (lim prog) (.fn g caps) [.s z] s.enter=some (.b (P z),s.enter)) :
    (lim prog).call Bz [tx L,.fn g caps] s=some (.i .i64 (RO P L),s):=by
 refine fn_W FC rfl rfl ?_
 have hz0:wkZ Au.cin [tx L,.fn g caps]=[tx L,.fn g caps]:=by simp [Au,wkZ,wk,tx,NM]
 rw [hz0]
 simp only [Au,go_sem,AE,AA,AD,AC,KB_n,KB_x,Nat.reduceBEq,Nat.reduceAdd,Nat.reduceLT,Nat.reduceLeDiff,Nat.reduceEqDiff,reduceIte,Int.reduceEq,reduceCtorEq,tx,List.length_map]
 refine CJ (fun x e q=>∃ i:Nat,i+x=L.length∧q=s.enter∧(∀ j,j < i→∀ y,L[j]? = some y→P y=false)∧e.get 0=tx L∧e.get 1=.fn g caps∧e.get 7=.i .i64 (L.length:Nat)∧e.get 8=.i .i64 (i:Nat)) ?_ L.length _ _ ?_
 · rintro x e q ⟨i,hi,rfl,hb,g0,g1,g7,g8⟩
   by_cases h:i < L.length
   · have h1:((i:Int) < (L.length:Int))=True:=eq_true (by omega)
     obtain ⟨z,hz⟩:∃ z,L[i]? = some z:=⟨_,List.getElem?_eq_getElem h⟩
     have hz2:(L.map AV.s)[i]? = some (.s z):=by rw [List.getElem?_map,hz]; rfl
     have hc:=hP z (List.mem_of_getElem? hz)
     have hw1:=Af (show i+1 < 2^63 by omega)
     cases hp:P z with
     | true =>
       rw [hp] at hc
       have hix:RO P L=(i:Int):=by
        unfold RO
        have:L.findIdx? P=some i:=by
         rw [List.findIdx?_eq_some_iff_getElem]
         rw [List.getElem?_eq_some_iff] at hz
         obtain ⟨h1,hz⟩:=hz
         exact ⟨h1,by rw [hz]; exact hp,fun j hj=>by simpa using hb j hj _ (List.getElem?_eq_getElem (by omega))⟩
        rw [this]
       rw [hix]
       simp only [go_sem,AE,AA,AD,AC,KB_n,KB_x,Nat.reduceBEq,Nat.reduceAdd,Nat.reduceLT,Nat.reduceLeDiff,Nat.reduceEqDiff,reduceIte,Int.reduceEq,reduceCtorEq,g0,g1,g7,g8,tx,h1,AH,hz2,BP,C6,hc]
       exact AK (Over.enter s) rfl rfl
     | false =>
       rw [hp] at hc
       simp only [go_sem,AE,AA,AD,AC,KB_n,KB_x,Nat.reduceBEq,Nat.reduceAdd,Nat.reduceLT,Nat.reduceLeDiff,Nat.reduceEqDiff,reduceIte,Int.reduceEq,reduceCtorEq,g0,g1,g7,g8,tx,h1,AH,hz2,BP,C6,hc,hw1]
       refine ⟨x - 1,by omega,i+1,by omega,fun j hj y hy=>?_,rfl⟩
       rcases Nat.lt_or_ge j i with hlt | hge
       · exact hb j hlt y hy
       · obtain rfl:j=i:=by omega
         rw [hz] at hy; cases hy; exact hp
   · have h1:((i:Int) < (L.length:Int))=False:=eq_false (by omega)
     have hix:RO P L = -1:=by
      unfold RO
      have:L.findIdx? P=none:=by
       rw [List.findIdx?_eq_none_iff]
       intro z hz
       obtain ⟨j,hj⟩:=List.mem_iff_getElem?.1 hz
       exact hb j (by rw [List.getElem?_eq_some_iff] at hj; have:=hj.1; omega) z hj
      rw [this]
     rw [hix]
     simp only [go_sem,AE,AA,AD,AC,KB_n,KB_x,Nat.reduceBEq,Nat.reduceAdd,Nat.reduceLT,Nat.reduceLeDiff,Nat.reduceEqDiff,reduceIte,Int.reduceEq,reduceCtorEq,g0,g1,g7,g8,h1]
     exact AK (Over.enter s) rfl rfl
 · simp only [go_sem,AE,AA,AD,AC,KB_n,KB_x,Nat.reduceBEq,Nat.reduceAdd,Nat.reduceLT,Nat.reduceLeDiff,Nat.reduceEqDiff,reduceIte,Int.reduceEq,reduceCtorEq]
   exact ⟨0,by omega,fun j hj=>by omega,rfl⟩
theorem Hq (L:List (List Nat)) (hL:L.length < 2^62) (g:Nat) (caps:List AV) (P:List Nat→Bool) (s:St) (hw:Wf s) (hP:∀ z∈L,Di (lim prog) (.fn g caps) [.s z] s.enter.enter=some (.b (P z),s.enter.enter)) :
    (lim prog).call BC [tx L,.fn g caps] s=some (.b (L.any P),s):=by
 refine fn_W Eg rfl rfl ?_
 have hz0:wkZ Aj.cin [tx L,.fn g caps]=[tx L,.fn g caps]:=by simp [Aj,wkZ,wk,tx,NM]
 have h1:=O6 L hL g caps P s.enter hw.enter hP
 rw [hz0]
 unfold tx at h1
 simp only [Aj,go_sem,AE,AA,AD,AC,KB_n,KB_x,Nat.reduceBEq,Nat.reduceAdd,Nat.reduceLT,Nat.reduceLeDiff,Nat.reduceEqDiff,reduceIte,Int.reduceEq,reduceCtorEq,h1,tx,Vp]
 exact AK (Over.enter s) rfl (by cases h:L.any P<;>rfl)
theorem Vq (L:List Int) (hL:L.length < 2^62) (k:Int) {a:AV} (ha:BR 1 a (L.map iv)) (s:St) (hw:Wf s) :
    (lim prog).call Dc [a,.i .i64 k] s=some (.i .i64 (Ox (fun z=>decide (k=z)) L),s):=by
 refine fn_W IA rfl rfl ?_
 have hz0:wkZ BZ.cin [a,.i .i64 k]=[zx L,.i .i64 k]:=by simp [BZ,wkZ,wk,ha.wk (Qw L),zx]
 rw [hz0]
 simp only [BZ,go_sem,AE,AA,AD,AC,KB_n,KB_x,Nat.reduceBEq,Nat.reduceAdd,Nat.reduceLT,Nat.reduceLeDiff,Nat.reduceEqDiff,reduceIte,Int.reduceEq,reduceCtorEq,zx,List.length_map]
 refine CJ (fun x e q=>∃ i:Nat,i+x=L.length∧q=s.enter∧(∀ j,j < i→∀ y,L[j]? = some y→decide (k=y)=false)∧e.get 0=zx L∧e.get 1=.i .i64 k∧e.get 7=.i .i64 (L.length:Nat)∧e.get 8=.i .i64 (i:Nat)) ?_ L.length _ _ ?_
 · rintro x e q ⟨i,hi,rfl,hb,g0,g1,g7,g8⟩
   by_cases h:i < L.length
   · have h1:((i:Int) < (L.length:Int))=True:=eq_true (by omega)
     obtain ⟨z,hz⟩:∃ z,L[i]? = some z:=⟨_,List.getElem?_eq_getElem h⟩
     have hz2:=LG hz
     have hw1:=Af (show i+1 < 2^63 by omega)
     by_cases hp:k=z
     · have e1:(k=z)=True:=by simp [hp]
       rw [Oy hz (by simp [hp]) hb]
       simp only [go_sem,AE,AA,AD,AC,KB_n,KB_x,Nat.reduceBEq,Nat.reduceAdd,Nat.reduceLT,Nat.reduceLeDiff,Nat.reduceEqDiff,reduceIte,Int.reduceEq,reduceCtorEq,g0,g1,g7,g8,zx,h1,AH,hz2,EC,C6,e1]
       exact AK (Over.enter s) rfl rfl
     · have e1:(k=z)=False:=by simp [hp]
       simp only [go_sem,AE,AA,AD,AC,KB_n,KB_x,Nat.reduceBEq,Nat.reduceAdd,Nat.reduceLT,Nat.reduceLeDiff,Nat.reduceEqDiff,reduceIte,Int.reduceEq,reduceCtorEq,g0,g1,g7,g8,zx,h1,AH,hz2,EC,C6,e1,hw1]
       refine ⟨x - 1,by omega,i+1,by omega,fun j hj y hy=>?_,rfl⟩
       rcases Nat.lt_or_ge j i with hlt | hge
       · exact hb j hlt y hy
       · obtain rfl:j=i:=by omega
         rw [hz] at hy; cases hy; simpa using hp
   · have h1:((i:Int) < (L.length:Int))=False:=eq_false (by omega)
     rw [Oz fun j hj=>hb j (by omega)]
     simp only [go_sem,AE,AA,AD,AC,KB_n,KB_x,Nat.reduceBEq,Nat.reduceAdd,Nat.reduceLT,Nat.reduceLeDiff,Nat.reduceEqDiff,reduceIte,Int.reduceEq,reduceCtorEq,g0,g1,g7,g8,h1]
     exact AK (Over.enter s) rfl rfl
 · simp only [go_sem,AE,AA,AD,AC,KB_n,KB_x,Nat.reduceBEq,Nat.reduceAdd,Nat.reduceLT,Nat.reduceLeDiff,Nat.reduceEqDiff,reduceIte,Int.reduceEq,reduceCtorEq]
   exact ⟨0,by omega,fun j hj=>by omega,rfl,rfl⟩
theorem QN (L:List Int) (hL:L.length < 2^62) (k:Int) {a:AV} (ha:BR 1 a (L.map iv)) (s:St) (hw:Wf s) :
    (lim prog).call C1 [a,.i .i64 k] s=some (.b (decide (k∈L)),s):=by
 refine fn_W Gr rfl rfl ?_
 have hz0:wkZ BF.cin [a,.i .i64 k]=[zx L,.i .i64 k]:=by simp [BF,wkZ,wk,ha.wk (Qw L),zx]
 have h1:=Vq L hL k (a:=zx L) .ws s.enter hw.enter
 rw [hz0]
 unfold zx at h1
 have hany:(L.any (fun z=>decide (k=z))=true)=(k∈L):=by simp [List.any_eq_true]
 simp only [BF,go_sem,AE,AA,AD,AC,KB_n,KB_x,Nat.reduceBEq,Nat.reduceAdd,Nat.reduceLT,Nat.reduceLeDiff,Nat.reduceEqDiff,reduceIte,Int.reduceEq,reduceCtorEq,h1,zx,Mq,hany]
 exact AK (Over.enter s) rfl rfl
def Ea (f:FT) (m:Nat) (x:List Nat):Bool:=match f.names.findIdx? (·==x) with
 | some i=>match f.kids[i]? with
   | some k=>decide (k∈(sortZ f.kids).take m)
   | none=>false
 | none=>false
theorem Sl:∀ (p:Option (List Nat)) (L:List (List Nat)),ascN p L=true→Asc L∧∀ q,p=some q→∀ x∈L,ltN q x=true
 | p,[],_=>⟨fun _ h=>by simp at h,fun _ _ x hx=>by simp at hx⟩
 | p,s::ns,h=>by
   simp only [ascN,Bool.and_eq_true] at h
   obtain ⟨h1,h2,h3⟩:=h
   obtain ⟨k1,k2⟩:=Sl (some s) ns h3
   refine ⟨fun {i j a b} hij ha hb=>?_,fun q hq x hx=>?_⟩
   · cases j with
     | zero=>omega
     | succ j =>
       simp only [List.getElem?_cons_succ] at hb
       cases i with
       | zero =>
         simp only [List.getElem?_cons_zero,Option.some.injEq] at ha
         subst ha
         exact k2 s rfl b (List.mem_of_getElem? hb)
       | succ i =>
         simp only [List.getElem?_cons_succ] at ha
         exact k1 (by omega) ha hb
   · subst hq
     simp only at h2
     rcases List.mem_cons.1 hx with rfl | hx
     · exact h2
     · exact J2 h2 (k2 s rfl x hx)
theorem JP {f:FT} (h:f.one=true):Asc f.names:=by
 unfold FT.one at h
 simp only [Bool.and_eq_true] at h
 split at h
 · simp only [Bool.and_eq_true] at h
   exact (Sl none _ h.2.1).1
 · simp only [Bool.and_eq_true,decide_eq_true_eq,List.length_eq_zero_iff] at h
   rw [h.2.1]
   exact fun _ h=>by simp at h
theorem QO {f:FT} (ho:f.Ok) (h1:f.one=true) {m:Nat} {q:St} (hw:Wf q) {b b2:Nat} (hb:q.box? b=some (.cells 48 f.cells)) (lb:b < q.nb) {a:AV} (ha:BR 1 a (((sortZ f.kids).take m).map iv)) (hb2:q.box? b2=some (.cells 46 [a])) (lb2:b2 < q.nb) (x:List Nat) :
    Di (lim prog) (.fn Ax [.p b 0,.p b2 0]) [.s x] q=some (.b (Ea f m x),q):=by
 show (lim prog).call Ax [.s x,.p b 0,.p b2 0] q=_
 refine fn_W Mn rfl rfl ?_
 have hz0:wkZ Cj.cin [.s x,.p b 0,.p b2 0]=[.s x,.p b 0,.p b2 0]:=by simp only [Cj,wkZ,wk]
 rw [hz0]
 have ln:=Fs (Over.enter q) (off:=2) (v:=tx f.names) lb hb rfl
 have lk:=Fs (Over.enter q) (off:=3) (v:=zx f.kids) lb hb rfl
 have lr:=Fs (Over.enter q) (off:=0) (v:=a) lb2 hb2 rfl
 obtain ⟨p,hp,hbs⟩:=N2 f.names x (JP h1) (by have:=ho.nlen; omega) q.enter
 have hidx:=Vv (JP h1) hp
 have hnk:=Cf h1
 unfold tx at hbs
 by_cases hx:f.names[p]? = some x
 · rw [decide_eq_true hx] at hbs
   rw [if_pos hx] at hidx
   obtain ⟨k,hk⟩:∃ k,f.kids[p]? = some k:=⟨_,List.getElem?_eq_getElem (by rw [List.getElem?_eq_some_iff] at hx; have:=hx.1; omega)⟩
   have hk2:=LG hk
   have hci:=QN ((sortZ f.kids).take m) (by have:=ho.klen; rw [List.length_take,Fe]; omega) k ha q.enter hw.enter
   have hap:Ea f m x=decide (k∈(sortZ f.kids).take m):=by unfold Ea; rw [hidx]; simp only [hk]
   rw [hap]
   have hld:=ha.ld
   have hpu:=ha.pub q.enter
   have hnt:=ha.noTok
   simp only [Cj,go_sem,AE,AA,AD,AC,KB_n,KB_x,Nat.reduceBEq,Nat.reduceAdd,Nat.reduceLT,Nat.reduceLeDiff,Nat.reduceEqDiff,reduceIte,Int.reduceEq,reduceCtorEq,Nat.zero_add,tx,zx,ln,lk,lr,hbs,AH,hk2,EC,C6,hld.1,hld.2,hpu,hnt,hci]
   exact AK (Over.enter q) rfl rfl
 · rw [decide_eq_false hx] at hbs
   rw [if_neg hx] at hidx
   have hap:Ea f m x=false:=by unfold Ea; rw [hidx]
   rw [hap]
   simp only [Cj,go_sem,AE,AA,AD,AC,KB_n,KB_x,Nat.reduceBEq,Nat.reduceAdd,Nat.reduceLT,Nat.reduceLeDiff,Nat.reduceEqDiff,reduceIte,Int.reduceEq,reduceCtorEq,Nat.zero_add,tx,ln,hbs]
   exact AK (Over.enter q) rfl rfl
theorem slc_zx {L:List Int} {m:Nat} (hm:m≤L.length) (q:St):∃ a,A8 q false 1 (.ws false 1 (L.map iv)) none (some (.i .i64 (m:Nat))) none=some (a,q)∧BR 1 a ((L.take m).map iv):=by
 unfold A8 Bl
 simp only [AH,List.length_map,if_true,Nat.zero_le,hm,and_self,List.drop_zero,Nat.sub_zero]
 split
 · rename_i h
   exact ⟨_,rfl,by rw [h.2,List.take_length]; exact .ws⟩
 · rw [← List.map_take]
   first
    | exact ⟨_,rfl,.ws⟩
    | exact ⟨_,rfl,.inr (.inr (.inr (.inl rfl)))⟩
    | (split<;>first | exact ⟨_,rfl,.ws⟩ | exact ⟨_,rfl,.inr (.inr (.inr (.inl rfl)))⟩ | exact ⟨_,rfl,.inr (.inr (.inl rfl))⟩)
theorem X5 {f:FT} (ho:f.Ok) {m:Nat} (hm:m≤f.kids.length) {s0 q:St} {n:En} {R:List RA} {B:List (Nat×Box)} (H:Hp s0 q n R B) :
    ∃ q' a b b2,(lim prog).call D7 [.agg f.cells,.i .i64 (m:Nat)] q=some (.fn Ax [.p b 0,.p b2 0],q')∧Hp s0 q' n R ((b2,.cells 46 [a])::(b,.cells 48 f.cells)::B)∧BR 1 a (((sortZ f.kids).take m).map iv):=by
 obtain ⟨r,q',h,b,b2,a,rfl,H',ht⟩:=fn_G (f:=D7) (args:=[.agg f.cells,.i .i64 (m:Nat)]) (s:=q) (Post:=fun r q'=>∃ b b2 a,r=.fn Ax [.p b 0,.p b2 0]∧Hp s0 q' n R ((b2,.cells 46 [a])::(b,.cells 48 f.cells)::B)∧BR 1 a (((sortZ f.kids).take m).map iv)) Ot rfl rfl (by
  have hz0:wkZ EB.cin [.agg f.cells,.i .i64 (m:Nat)]=[.agg f.cells,.i .i64 (m:Nat)]:=by simp only [EB,wkZ,wk,QC]
  rw [hz0]
  have c6:f.cells.length=6:=rfl
  have H1:=H.enter.new (.cells 48 f.cells)
  obtain ⟨q1,hq1⟩:∃ q1,q.enter.new (.cells 48 f.cells)=q1:=⟨_,rfl⟩
  have e0:q.enter.nb=q.nb:=rfl
  rw [hq1,e0] at H1
  have lk:=H1.ld 0 (off:=3) (v:=zx f.kids) rfl rfl
  have hv:=QH f.kids q1
  have H2:=(H1.new (.cells 46 [zx f.kids])).setLo (m:=min q1.lo q1.nb) (Nat.le_trans (Nat.min_le_left _ _) H1.lo) (by have:=H1.over.lo; have:=H1.over.nb; omega)
  obtain ⟨q2,hq2⟩:∃ q2,{ q1.new (.cells 46 [zx f.kids]) with lo:=min q1.lo q1.nb }=q2:=⟨_,rfl⟩
  rw [hq2] at H2 hv
  have hbx:=H2.box (i:=0) rfl
  have hs:=QG (L:=f.kids) (by have:=ho.klen; omega) H2.wf (a:=q1.nb) hbx.1 hbx.2.2
  obtain ⟨a,d3,ta⟩:=slc_zx (L:=sortZ f.kids) (m:=m) (by rw [Fe]; exact hm) q2
  have H3:=H2.new (.cells 46 [.nsl])
  have tc:=ta.cells
  obtain ⟨q4,d4,H4,n4,_⟩:=H3.st 0 (off:=0) (v:=a) rfl (by simp) ⟨tc.1,tc.2.1⟩
  simp only [zx] at hv hs
  simp only [EB,go_sem,AE,AA,AD,AC,KB_n,KB_x,Nat.reduceBEq,Nat.reduceAdd,Nat.reduceLT,Nat.reduceLeDiff,Nat.reduceEqDiff,reduceIte,Int.reduceEq,reduceCtorEq,Bh,c6,hq1,e0,zx,lk,hv,hs,d3,d4]
  simp only [List.set_cons_zero] at H4
  refine ⟨_,_,rfl,q.nb,q2.nb,a,rfl,?_,ta⟩
  have H5:=H4.sel (List.range R.length) (0::2::(List.range' 3 B.length)) List.nodup_range (by
   refine List.nodup_cons.2 ⟨by simp,List.nodup_cons.2 ⟨by simp,List.nodup_range'⟩⟩)
  rw [Ej] at H5
  have hpk:∀ (x y z:Nat×Box),pick (x::y::z::B) (0::2::List.range' 3 B.length)=x::z::B:=fun x y z=>by
   have:pick (x::y::z::B) (List.range' 3 B.length)=B:=by
    have h1:List.range' 3 B.length=(((List.range B.length).map (·+1)).map (·+1)).map (·+1):=by
     apply List.ext_getElem<;>simp; omega
    rw [h1,Fc,Fc,Fc,Ej]
   simp only [pick,List.getElem?_cons_zero,List.getElem?_cons_succ,this]
  rw [hpk] at H5
  exact H.leaveR (n1:=q.en) (v:=Bj [AV.fn Ax [.p q.nb 0,.p q2.nb 0]]) H5 rfl)
 exact ⟨q',a,b,b2,h,H',ht⟩
def Be (f:FT) (L:List (List Nat)):Bool :=
 if f.rest=1 then !(L.any fun x=>!Ea f f.names.length x) else if f.rest=2 then L.any fun x=>!Ea f f.beside.toNat x else true
theorem RQ {f:FT} (ho:f.Ok) (h1:f.one=true) {m:Nat} {q:St} (hw:Wf q) {b b2 b3:Nat} (hb:q.box? b=some (.cells 48 f.cells)) (lb:b < q.nb) {a:AV} (ha:BR 1 a (((sortZ f.kids).take m).map iv)) (hb2:q.box? b2=some (.cells 46 [a])) (lb2:b2 < q.nb) (hb3:q.box? b3=some (.cells 55 [.fn Ax [.p b 0,.p b2 0]])) (lb3:b3 < q.nb) (x:List Nat) :
    Di (lim prog) (.fn C8 [.p b3 0]) [.s x] q=some (.b (!Ea f m x),q):=by
 show (lim prog).call C8 [.s x,.p b3 0] q=_
 refine fn_W Kq rfl rfl ?_
 have hz0:wkZ Cd.cin [.s x,.p b3 0]=[.s x,.p b3 0]:=by simp only [Cd,wkZ,wk]
 rw [hz0]
 have l0:=Fs (Over.enter q) (off:=0) (v:=.fn Ax [.p b 0,.p b2 0]) lb3 hb3 rfl
 have hc:=QO ho h1 hw.enter (m:=m) (b:=b) (b2:=b2) (a:=a) (q:=q.enter) hb lb ha hb2 lb2 x
 simp only [Cd,go_sem,AE,AA,AD,AC,KB_n,KB_x,Nat.reduceBEq,Nat.reduceAdd,Nat.reduceLT,Nat.reduceLeDiff,Nat.reduceEqDiff,reduceIte,Int.reduceEq,reduceCtorEq,Nat.zero_add,l0,hc]
 exact AK (Over.enter q) rfl rfl
theorem RR {f:FT} (ho:f.Ok) (h1:f.one=true) {m:Nat} {q:St} (hw:Wf q) {b b2 b3:Nat} (hb:q.box? b=some (.cells 48 f.cells)) (lb:b < q.nb) {a:AV} (ha:BR 1 a (((sortZ f.kids).take m).map iv)) (hb2:q.box? b2=some (.cells 46 [a])) (lb2:b2 < q.nb) (hb3:q.box? b3=some (.cells 55 [.fn Ax [.p b 0,.p b2 0]])) (lb3:b3 < q.nb) (x:List Nat) :
    Di (lim prog) (.fn C9 [.p b3 0]) [.s x] q=some (.b (!Ea f m x),q):=by
 show (lim prog).call C9 [.s x,.p b3 0] q=_
 refine fn_W Kr rfl rfl ?_
 have hz0:wkZ Ce.cin [.s x,.p b3 0]=[.s x,.p b3 0]:=by simp only [Ce,wkZ,wk]
 rw [hz0]
 have l0:=Fs (Over.enter q) (off:=0) (v:=.fn Ax [.p b 0,.p b2 0]) lb3 hb3 rfl
 have hc:=QO ho h1 hw.enter (m:=m) (b:=b) (b2:=b2) (a:=a) (q:=q.enter) hb lb ha hb2 lb2 x
 simp only [Ce,go_sem,AE,AA,AD,AC,KB_n,KB_x,Nat.reduceBEq,Nat.reduceAdd,Nat.reduceLT,Nat.reduceLeDiff,Nat.reduceEqDiff,reduceIte,Int.reduceEq,reduceCtorEq,Nat.zero_add,l0,hc]
 exact AK (Over.enter q) rfl rfl
theorem Tn {f:FT} (h:f.one=true) (h2:f.rest=2):0≤f.beside∧f.beside≤(f.kids.length:Int):=by
 have hnk:=Cf h
 unfold FT.one at h
 simp only [Bool.and_eq_true] at h
 split at h
 · simp only [Bool.and_eq_true,FT.restB,if_pos h2,decide_eq_true_eq] at h
   omega
 · simp only [Bool.and_eq_true,decide_eq_true_eq] at h
   omega
theorem To (f:FT) (ho:f.Ok) (h1:f.one=true) (L:List (List Nat)) (hL:L.length < 2^62) (s:St) (hw:Wf s):(lim prog).call GN [.agg f.cells,tx L] s=some (.b (Be f L),s):=by
 refine fn_W Mm rfl rfl ?_
 have hz0:wkZ CM.cin [.agg f.cells,tx L]=[.agg f.cells,tx L]:=by simp only [CM,wkZ,wk,QC,tx,NM]
 rw [hz0]
 have c6:f.cells.length=6:=rfl
 have e0:s.enter.nb=s.nb:=rfl
 have H1:=(Hp.begin hw).new (.cells 48 f.cells)
 obtain ⟨q1,hq1⟩:∃ q1,s.enter.new (.cells 48 f.cells)=q1:=⟨_,rfl⟩
 rw [hq1,e0] at H1
 have lw:=H1.ldw (m:=6) 0 rfl rfl
 have ln:=H1.ld 0 (off:=2) (v:=tx f.names) rfl rfl
 have lr:=H1.ld 0 (off:=4) (v:=.i .i64 f.rest) rfl rfl
 have lbs:=H1.ld 0 (off:=5) (v:=.i .i64 f.beside) rfl rfl
 have hnk:=Cf h1
 have pvf:=Aw f
 have key:∀ m:Nat,m≤f.kids.length→∃ q2 q4 b b2 b3 a,(lim prog).call D7 [.agg f.cells,.i .i64 (m:Nat)] q1=some (.fn Ax [.p b 0,.p b2 0],q2)∧b3=q2.nb∧stA (q2.new (.cells 55 [.nf])) 1 (.p q2.nb 0) (.fn Ax [.p b 0,.p b2 0])=some q4∧Hp s q4 s.en [] [(b3,.cells 55 [.fn Ax [.p b 0,.p b2 0]]),(b2,.cells 46 [a]),(b,.cells 48 f.cells),(s.nb,.cells 48 f.cells)]∧BR 1 a (((sortZ f.kids).take m).map iv):=by
  intro m hm
  obtain ⟨q2,a,b,b2,d2,H2,ta⟩:=X5 ho hm H1
  have H3:=H2.new (.cells 55 [.nf])
  obtain ⟨q4,d4,H4,n4,_⟩:=H3.st 0 (off:=0) (v:=.fn Ax [.p b 0,.p b2 0]) rfl (by simp) ⟨rfl,rfl⟩
  exact ⟨q2,q4,b,b2,q2.nb,a,d2,rfl,d4,H4,ta⟩
 by_cases r1:f.rest=1
 · have e1:(f.rest=1)=True:=by simp [r1]
   obtain ⟨q2,q4,b,b2,b3,a,d2,rfl,d4,H4,ta⟩:=key f.names.length (by omega)
   have x0:=H4.box (i:=0) rfl
   have x1:=H4.box (i:=1) rfl
   have x2:=H4.box (i:=2) rfl
   have hcf:=Hq L hL C8 [.p q2.nb 0] (fun x=>!Ea f f.names.length x) q4 H4.wf fun z hz=>RQ ho h1 H4.wf.enter.enter (q:=q4.enter.enter) x2.1 x2.2.2 ta x1.1 x1.2.2 x0.1 x0.2.2 z
   have hep:Be f L=!(L.any fun x=>!Ea f f.names.length x):=by unfold Be; rw [if_pos r1]
   rw [hep]
   unfold tx at hcf
   simp only [CM,go_sem,AE,AA,AD,AC,KB_n,KB_x,Nat.reduceBEq,Nat.reduceAdd,Nat.reduceLT,Nat.reduceLeDiff,Nat.reduceEqDiff,reduceIte,Int.reduceEq,reduceCtorEq,Bh,c6,hq1,e0,Nat.zero_add,lw,ln,lr,pvf,tx,List.length_map,e1,d2,d4,hcf]
   exact AK H4.over rfl rfl
 · have e1:(f.rest=1)=False:=by simp [r1]
   by_cases r2:f.rest=2
   · have e2:(f.rest=2)=True:=by simp [r2]
     have hbb:=Tn h1 r2
     obtain ⟨m,hm⟩:∃ m:Nat,f.beside=(m:Int):=⟨f.beside.toNat,by omega⟩
     obtain ⟨q2,q4,b,b2,b3,a,d2,rfl,d4,H4,ta⟩:=key m (by omega)
     have x0:=H4.box (i:=0) rfl
     have x1:=H4.box (i:=1) rfl
     have x2:=H4.box (i:=2) rfl
     have hcf:=Hq L hL C9 [.p q2.nb 0] (fun x=>!Ea f m x) q4 H4.wf fun z hz=>RR ho h1 H4.wf.enter.enter (q:=q4.enter.enter) x2.1 x2.2.2 ta x1.1 x1.2.2 x0.1 x0.2.2 z
     have hep:Be f L=(L.any fun x=>!Ea f m x):=by unfold Be; rw [if_neg r1,if_pos r2,hm,Int.toNat_natCast]
     rw [hep]
     unfold tx at hcf
     simp only [CM,go_sem,AE,AA,AD,AC,KB_n,KB_x,Nat.reduceBEq,Nat.reduceAdd,Nat.reduceLT,Nat.reduceLeDiff,Nat.reduceEqDiff,reduceIte,Int.reduceEq,reduceCtorEq,Bh,c6,hq1,e0,Nat.zero_add,lw,lr,lbs,hm,pvf,tx,e1,e2,d2,d4,hcf]
     exact AK H4.over rfl rfl
   · have e2:(f.rest=2)=False:=by simp [r2]
     have hep:Be f L=true:=by unfold Be; rw [if_neg r1,if_neg r2]
     rw [hep]
     simp only [CM,go_sem,AE,AA,AD,AC,KB_n,KB_x,Nat.reduceBEq,Nat.reduceAdd,Nat.reduceLT,Nat.reduceLeDiff,Nat.reduceEqDiff,reduceIte,Int.reduceEq,reduceCtorEq,Bh,c6,hq1,e0,Nat.zero_add,lr,e1,e2]
     exact AK H1.over rfl rfl

def JQ (l:List FT) (root:ND) (n:Int):Option ND:=if (Gg l n).2=0 then FE root (Gg l n).1 else none
theorem Vr {l:List FT} (ho:FOk l) (n:Int):(Gg l n).1.length < 2^34:=by
 unfold Gg
 cases hm:mayP l
 · rw [if_neg (by simp)]; simp
 · rw [if_pos rfl]
   split
   · have:=QU (mayD hm) n.toNat (by omega)
     have:=ho.len
     simp only; omega
   · simp
theorem X6 {root:ND} (hr:root.Ok) (l:List FT) (n:Int):(GR (JQ l root n)).Ok:=by
 unfold JQ
 split
 · exact O5 hr _
 · exact Yt
theorem Mu {n:ND} (h:mayN n=true):E6 n=true:=by
 unfold mayN at h
 simp only [Bool.and_eq_true] at h
 exact h.2.1
theorem aZ (l:List FT) (ho:FOk l) (root:ND) (hr:root.Ok) (hwl:E6 root=true) (n:Int) (s:St) (hw:Wf s) :
    (lim prog).call IV [fx l,.agg root.cells,.i .i64 n] s=some (.tup [.agg (GR (JQ l root n)).cells,.b (JQ l root n).isSome],s):=by
 refine fn_W P3 rfl rfl ?_
 have hz0:wkZ Dx.cin [fx l,.agg root.cells,.i .i64 n]=[fx l,.agg root.cells,.i .i64 n]:=by
  simp only [Dx,wkZ,Ft .ws,wk]
  simp [ND.cells,wkZ,wk,fx]
 rw [hz0]
 have e0:s.enter.nb=s.nb:=rfl
 have H1:=((Hp.begin hw).new (.cells 37 root.cells)).new (.cells 37 [.i .u8 0,.s [],.nsl,.nsl])
 have e1:(s.enter.new (.cells 37 root.cells)).nb=s.nb+1:=rfl
 obtain ⟨q1,hq1⟩:∃ q1,(s.enter.new (.cells 37 root.cells)).new (.cells 37 [.i .u8 0,.s [],.nsl,.nsl])=q1:=⟨_,rfl⟩
 rw [hq1,e1,e0] at H1
 have lw:=H1.ldw (m:=4) 1 rfl rfl
 have hp:=YI l ho n q1 H1.wf
 unfold fx tx at hp
 by_cases hz:(Gg l n).2=0
 · have e2:((Gg l n).2≠0)=False:=by simp [hz]
   have hx0:JQ l root n=FE root (Gg l n).1:=by unfold JQ; rw [if_pos hz]
   have hat:=Tm root hr hwl (Gg l n).1 (by have:=Vr ho n; omega) q1 H1.wf
   rw [← hx0] at hat
   obtain ⟨x,hx⟩:∃ x,GR (JQ l root n)=x:=⟨_,rfl⟩
   rw [hx] at hat ⊢
   obtain ⟨q3,d3,H3,n3,_⟩:=H1.stw 0 (m:=4) (v:=.agg x.cells) rfl rfl ⟨Ay x,O8 x⟩
   have lr:=H3.ldw (m:=4) 0 rfl rfl
   simp only [Bh] at lr
   simp only [tx] at hat
   simp only [Dx,go_sem,AE,AA,AD,AC,KB_n,KB_x,Nat.reduceBEq,Nat.reduceAdd,Nat.reduceLT,Nat.reduceLeDiff,Nat.reduceEqDiff,reduceIte,Int.reduceEq,reduceCtorEq,Ay,hq1,e1,e0,fx,hp,e2,lw,hat,d3,lr,AY,My]
   exact KR_N H3.over x _
 · have e2:((Gg l n).2≠0)=True:=by simp [hz]
   have hx0:JQ l root n=none:=by unfold JQ; rw [if_neg hz]
   rw [hx0]
   obtain ⟨q3,d3,H3,n3,_⟩:=H1.stw 0 (m:=4) (v:=.agg [.i .u8 0,.s [],.nsl,.nsl]) rfl rfl ⟨rfl,rfl⟩
   have lr:=H3.ldw (m:=4) 0 rfl rfl
   simp only [Bh] at lr
   simp only [Dx,go_sem,AE,AA,AD,AC,KB_n,KB_x,Nat.reduceBEq,Nat.reduceAdd,Nat.reduceLT,Nat.reduceLeDiff,Nat.reduceEqDiff,reduceIte,Int.reduceEq,reduceCtorEq,Ay,hq1,e1,e0,fx,hp,e2,EO,d3,lr]
   exact AK H3.over rfl rfl
def Iw (l:List FT) (root:ND) (i:Nat):Bool:=match l[i]? with
 | some f=>f.known&&(decide ((GR (JQ l root i)).kind≠f.kind)||(decide ((GR (JQ l root i)).kind=2)&&!Be f (GR (JQ l root i)).names))
 | none=>false
def Fv (l:List FT) (root:ND):Int×Int:=if mayP l&&mayN root then (match (List.range l.length).find? (Iw l root) with
 | some i=>((i:Int),0)
 | none=>(-1,0)) else (0,4)
theorem Tp {P:Nat→Bool} {n i:Nat} (hi:i < n) (hp:P i=true) (hno:∀ j,j < i→P j=false):(List.range n).find? P=some i:=by
 rw [List.find?_range_eq_some]
 exact ⟨hp,by simpa using hi,fun j hj=>by simpa using hno j hj⟩
theorem Mv {P:Nat→Bool} {n:Nat} (hno:∀ j,j < n→P j=false):(List.range n).find? P=none:=by
 rw [List.find?_eq_none]
 intro x hx
 rw [List.mem_range] at hx
 simpa using hno x hx
theorem X7 {s q:St} (ov:Over s q) (a b:Int):KR s [.id,.id] (.tup [.i .i64 a,.i .i64 b]) (some ([.i .i64 a,.i .i64 b],q)):=AK ov rfl rfl
theorem X8 (l : List FT) (ho:FOk l) (root:ND) (hr:root.Ok) (hb:nodesN root < 2^62) (s:St) (hw:Wf s) :
    (lim prog).call He [fx l,.agg root.cells] s=some (.tup [.i .i64 (Fv l root).1,.i .i64 (Fv l root).2],s):=by
 refine fn_W Om rfl rfl ?_
 have hz0:wkZ Cu.cin [fx l,.agg root.cells]=[fx l,.agg root.cells]:=by
  simp only [Cu,wkZ,Ft .ws,wk]
  simp [ND.cells,wkZ,wk,fx]
 rw [hz0]
 have e0:s.enter.nb=s.nb:=rfl
 have H1:=(Hp.begin hw).new (.cells 37 root.cells)
 obtain ⟨q1,hq1⟩:∃ q1,s.enter.new (.cells 37 root.cells)=q1:=⟨_,rfl⟩
 rw [hq1,e0] at H1
 have lw:=H1.ldw (m:=4) 0 rfl rfl
 have hmay:=Ms l ho.ok ho.len ho.fl q1 H1.wf
 have hmn:=aa root hr hb q1 H1.wf
 unfold fx at hmay
 cases hm:mayP l with
 | false =>
   rw [hm] at hmay
   simp only [Cu,go_sem,AE,AA,AD,AC,KB_n,KB_x,Nat.reduceBEq,Nat.reduceAdd,Nat.reduceLT,Nat.reduceLeDiff,Nat.reduceEqDiff,reduceIte,Int.reduceEq,reduceCtorEq,Ay,hq1,e0,fx,hmay]
   unfold Fv
   rw [hm,if_neg (by simp)]
   exact X7 H1.over 0 4
 | true =>
   rw [hm] at hmay
   cases hn:mayN root with
   | false =>
     rw [hn] at hmn
     simp only [Cu,go_sem,AE,AA,AD,AC,KB_n,KB_x,Nat.reduceBEq,Nat.reduceAdd,Nat.reduceLT,Nat.reduceLeDiff,Nat.reduceEqDiff,reduceIte,Int.reduceEq,reduceCtorEq,Ay,hq1,e0,fx,hmay,lw,AY,hmn]
     unfold Fv
     rw [hn,if_neg (by simp)]
     exact X7 H1.over 0 4
   | true =>
     rw [hn] at hmn
     have hwl:=Mu hn
     simp only [Cu,go_sem,AE,AA,AD,AC,KB_n,KB_x,Nat.reduceBEq,Nat.reduceAdd,Nat.reduceLT,Nat.reduceLeDiff,Nat.reduceEqDiff,reduceIte,Int.reduceEq,reduceCtorEq,Ay,hq1,e0,fx,hmay,lw,AY,hmn,List.length_map]
     refine CJ (fun x e q=>∃ (i:Nat) (B:List (Nat×Box)),i+x=l.length∧Hp s q s.en [] ((s.nb,.cells 37 root.cells)::B)∧(∀ j,j < i→Iw l root j=false)∧e.get 0=fx l∧e.get 3=.p s.nb 0∧e.get 18=.i .i64 (l.length:Nat)∧e.get 19=.i .i64 (i:Nat)) ?_ l.length _ _ ?_
     · rintro x e q ⟨i,B,hix,H,hno,g0,g3,g18,g19⟩
       by_cases h:i < l.length
       · have h1 : ((i:Int) < (l.length:Int))=True:=eq_true (by omega)
         obtain ⟨f,hf⟩:∃ f,l[i]? = some f:=⟨_,List.getElem?_eq_getElem h⟩
         have hfm:=List.mem_of_getElem? hf
         have hg:=G9 hf
         have hth:∀ u:St,Fx u (.ws false 6 (l.map FT.av))=some (.ws false 6 (l.map FT.av),u):=fun _=>rfl
         have lk0:∀ u:St,ldA u false 1 (.ep f.cells 0 .shut)=some (.b f.known):=fun _=>rfl
         have lk1:∀ u:St,ldA u false 1 (.ep f.cells 1 .shut)=some (.i .u8 (f.kind:Nat)):=fun _=>rfl
         have ldf:=Dz f
         have pvf:=Aw f
         have hall6:f.cells.all noTok=true:=rfl
         have hw1:=Af (show i+1 < 2^63 by have:=ho.len; omega)
         cases hkn:f.known with
         | false =>
           rw [hkn] at lk0
           have hfb:Iw l root i=false:=by unfold Iw; rw [hf]; simp [hkn]
           simp only [go_sem,AE,AA,AD,AC,KB_n,KB_x,Nat.reduceBEq,Nat.reduceAdd,Nat.reduceLT,Nat.reduceLeDiff,Nat.reduceEqDiff,reduceIte,Int.reduceEq,reduceCtorEq,g0,g3,g18,g19,fx,h1,hth,AH,hg,Bh,Nat.zero_add,lk0,hw1]
           refine ⟨x - 1,by omega,i+1,B,by omega,H,fun j hj=>?_,rfl⟩
           by_cases hji:j < i
           · exact hno j hji
           · obtain rfl:j=i:=by omega
             exact hfb
         | true =>
           rw [hkn] at lk0
           have lw2:=H.ldw (m:=4) 0 rfl rfl
           have hnd:=aZ l ho root hr hwl (i:Int) q H.wf
           have hxo:=X6 hr l (i:Int)
           obtain ⟨x',hx⟩:∃ x',GR (JQ l root (i:Int))=x':=⟨_,rfl⟩
           have hfb:Iw l root i=(decide (x'.kind≠f.kind)||(decide (x'.kind=2)&&!Be f x'.names)):=by unfold Iw; rw [hf]; simp only [hkn,Bool.true_and,hx]
           rw [hx] at hnd hxo
           obtain ⟨q2,d2,H2,n2⟩:=H.adp (T:=37) (m:=4) (z:=[.i .u8 0,.s [],.nsl,.nsl]) (v:=.agg x'.cells) rfl ⟨Ay x',O8 x'⟩
           have lx0:=H2.ld 0 (off:=0) (v:=.i .u8 (x'.kind:Nat)) rfl rfl
           have lx2:=H2.ld 0 (off:=2) (v:=tx x'.names) rfl rfl
           have hent:=To f (ho.ok f hfm) (O3 hm hfm) x'.names (by have:=hxo.names.2; omega) q2 H2.wf
           simp only [fx] at hnd
           simp only [tx] at hent lx2
           have hsel:=H2.sel [] (1::0::List.range' 2 B.length) (by simp) (by
            refine List.nodup_cons.2 ⟨by simp,List.nodup_cons.2 ⟨by simp,List.nodup_range'⟩⟩)
           have hpk:∀ (x y:Nat×Box),pick (x::y::B) (1::0::List.range' 2 B.length)=y::x::B:=fun x y=>by
            have:pick (x::y::B) (List.range' 2 B.length)=B:=by
             have h1:List.range' 2 B.length=((List.range B.length).map (·+1)).map (·+1):=by
              apply List.ext_getElem<;>simp; omega
             rw [h1,Fc,Fc,Ej]
            simp only [pick,List.getElem?_cons_zero,List.getElem?_cons_succ,this]
           rw [hpk] at hsel
           simp only [pick] at hsel
           have hstep:Iw l root i=false→∃ m,m < x∧∃ (i':Nat) (B':List (Nat×Box)),i'+m=l.length∧Hp s q2 s.en [] ((s.nb,.cells 37 root.cells)::B')∧(∀ j,j < i'→Iw l root j=false)∧i'=i+1:=fun hfb=>by
            refine ⟨x - 1,by omega,i+1,_,by omega,hsel,fun j hj=>?_,rfl⟩
            by_cases hji:j < i
            · exact hno j hji
            · obtain rfl:j=i:=by omega
              exact hfb
           have hfail:Iw l root i=true→KR s [.id,.id] (.tup [.i .i64 (Fv l root).1,.i .i64 (Fv l root).2]) (some ([.i .i64 (i:Nat),.i .i64 0],q2)):=fun hfb=>by
            have hfp:Fv l root=((i:Int),0):=by
             unfold Fv
             rw [hm,hn]
             simp only [Bool.and_self,if_true,Tp h hfb hno]
            rw [hfp]
            exact X7 H2.over _ 0
           by_cases hk:x'.kind=f.kind
           · have e1:((x'.kind:Int)≠(f.kind:Int))=False:=by simp [hk]
             by_cases hk2:x'.kind=2
             · have e2:((x'.kind:Int)=2)=True:=by simp [hk2]
               cases hen:Be f x'.names with
               | true =>
                 rw [hen] at hent
                 obtain ⟨m,hm1,i',B',k1,k2,k3,rfl⟩:=hstep (by rw [hfb]; simp [hk,hen])
                 simp only [go_sem,AE,AA,AD,AC,KB_n,KB_x,Nat.reduceBEq,Nat.reduceAdd,Nat.reduceLT,Nat.reduceLeDiff,Nat.reduceEqDiff,reduceIte,Int.reduceEq,reduceCtorEq,g0,g3,g18,g19,fx,h1,hth,AH,hg,Bh,Nat.zero_add,lk0,lk1,lw2,AY,hnd,Ay,d2,lx0,lx2,e1,e2,ldf,pvf,hall6,hent,hw1]
                 exact ⟨m,hm1,i+1,B',k1,k2,k3,rfl⟩
               | false =>
                 rw [hen] at hent
                 simp only [go_sem,AE,AA,AD,AC,KB_n,KB_x,Nat.reduceBEq,Nat.reduceAdd,Nat.reduceLT,Nat.reduceLeDiff,Nat.reduceEqDiff,reduceIte,Int.reduceEq,reduceCtorEq,g0,g3,g18,g19,fx,h1,hth,AH,hg,Bh,Nat.zero_add,lk0,lk1,lw2,AY,hnd,Ay,d2,lx0,lx2,e1,e2,ldf,pvf,hall6,hent]
                 exact hfail (by rw [hfb]; simp [hk2,hen])
             · have e2:((x'.kind:Int)=2)=False:=eq_false (by omega)
               obtain ⟨m,hm1,i',B',k1,k2,k3,rfl⟩:=hstep (by rw [hfb]; simp [hk,hk2]; intro hh; exact absurd (hk.trans hh) hk2)
               simp only [go_sem,AE,AA,AD,AC,KB_n,KB_x,Nat.reduceBEq,Nat.reduceAdd,Nat.reduceLT,Nat.reduceLeDiff,Nat.reduceEqDiff,reduceIte,Int.reduceEq,reduceCtorEq,g0,g3,g18,g19,fx,h1,hth,AH,hg,Bh,Nat.zero_add,lk0,lk1,lw2,AY,hnd,Ay,d2,lx0,e1,e2,hw1]
               exact ⟨m,hm1,i+1,B',k1,k2,k3,rfl⟩
           · have e1:((x'.kind:Int)≠(f.kind:Int))=True:=by simp only [ne_eq,eq_iff_iff,iff_true]; omega
             simp only [go_sem,AE,AA,AD,AC,KB_n,KB_x,Nat.reduceBEq,Nat.reduceAdd,Nat.reduceLT,Nat.reduceLeDiff,Nat.reduceEqDiff,reduceIte,Int.reduceEq,reduceCtorEq,g0,g3,g18,g19,fx,h1,hth,AH,hg,Bh,Nat.zero_add,lk0,lk1,lw2,AY,hnd,Ay,d2,lx0,e1]
             exact hfail (by rw [hfb]; simp [hk])
       · have h1:((i:Int) < (l.length:Int))=False:=eq_false (by omega)
         simp only [go_sem,AE,AA,AD,AC,KB_n,KB_x,Nat.reduceBEq,Nat.reduceAdd,Nat.reduceLT,Nat.reduceLeDiff,Nat.reduceEqDiff,reduceIte,Int.reduceEq,reduceCtorEq,g18,g19,h1]
         have hfp:Fv l root=(-1,0):=by
          unfold Fv
          rw [hm,hn]
          simp only [Bool.and_self,if_true,Mv fun j (hj:j < l.length)=>hno j (by omega)]
         rw [hfp]
         exact X7 H.over (-1) 0
     · simp only [go_sem,AE,AA,AD,AC,KB_n,KB_x,Nat.reduceBEq,Nat.reduceAdd,Nat.reduceLT,Nat.reduceLeDiff,Nat.reduceEqDiff,reduceIte,Int.reduceEq,reduceCtorEq]
       exact ⟨0,[],by omega,H1,fun j hj=>by omega,rfl,rfl⟩
end Go.Proofs.YtgloinighjdhlaaGreat

namespace Go.Proofs.YtgloinighjdhlaaGreat
open Go.Proofs.YtgloinighjdhlaaGreat.Am
theorem FX (L:List Int):(sortZ L).Perm L:=by
 unfold sortZ; exact List.mergeSort_perm _ _
theorem Sn (L:List Int):(sortZ L).Pairwise (·≤·):=by
 have:=List.pairwise_mergeSort (le:=fun x y:Int=>decide (x≤y)) (by intro a b c; simp; omega) (by intro a b; simp; omega) L
 unfold sortZ
 exact this.imp (by simp)
theorem X9 {L:List Int} (h:L.Nodup):(sortZ L).Pairwise (· < ·):=by
 have h1:=Sn L
 have h2:(sortZ L).Pairwise (·≠·):=(FX L).nodup_iff.2 h
 exact (h1.and h2).imp (by intro a b hab; omega)
theorem Mw {L:List (List Nat)} {x:List Nat} {i:Nat} (h:L[i]? = some x) (hno:∀ j,j < i→∀ y,L[j]? = some y→y≠x):L.findIdx? (·==x)=some i:=by
 rw [List.findIdx?_eq_some_iff_getElem]
 rw [List.getElem?_eq_some_iff] at h
 obtain ⟨hi,h⟩:=h
 exact ⟨hi,by simp [h],fun j hj=>by simpa using hno j hj _ (List.getElem?_eq_getElem (by omega))⟩

attribute [local irreducible] W WO WE WQ WD Tr.get Tr.set
def QV (t:List Nat):Bool:=decide (t.length≤256)&&!t.contains 0
theorem Rd (t:List Nat) (hl:t.length < 2^62) (s:St):(lim prog).call Db [.s t] s=some (.b (QV t),s):=by
 refine fn_W Hy rfl rfl ?_
 simp only [Co,go_sem,AE,AA,AD,AC,KB_n,KB_x,Nat.reduceBEq,Nat.reduceAdd,Nat.reduceLT,Nat.reduceLeDiff,Nat.reduceEqDiff,reduceIte,Int.reduceEq,reduceCtorEq]
 refine CJ (fun x e q=>∃ i:Nat,i+x=t.length∧q=s.enter∧(t.take i).contains 0=false∧e.get 0=.s t∧e.get 3=.i .i64 (i:Nat)) ?_ t.length _ _ ⟨0,by omega,rfl,by simp,by simp only [go_sem,AE,AA,AD,AC,KB_n,KB_x,Nat.reduceBEq,Nat.reduceAdd,Nat.reduceLT,Nat.reduceLeDiff,Nat.reduceEqDiff,reduceIte,Int.reduceEq,reduceCtorEq],by simp only [go_sem,AE,AA,AD,AC,KB_n,KB_x,Nat.reduceBEq,Nat.reduceAdd,Nat.reduceLT,Nat.reduceLeDiff,Nat.reduceEqDiff,reduceIte,Int.reduceEq,reduceCtorEq]; rfl⟩
 rintro x e q ⟨i,hi,rfl,hn,g0,g3⟩
 by_cases h:i < t.length
 · have e1:((i:Int) < (t.length:Int))=True:=eq_true (by omega)
   have hw1:=Af (show i+1 < 2^63 by omega)
   have hc:t[i]? = some t[i]:=List.getElem?_eq_getElem h
   have htk:t.take (i+1)=t.take i++[t[i]]:=by rw [List.take_add_one,hc]; rfl
   by_cases h0:t[i]=0
   · have e2:((t[i]:Int)=0)=True:=by simp [h0]
     simp only [go_sem,AE,AA,AD,AC,KB_n,KB_x,Nat.reduceBEq,Nat.reduceAdd,Nat.reduceLT,Nat.reduceLeDiff,Nat.reduceEqDiff,reduceIte,Int.reduceEq,reduceCtorEq,g0,g3,e1,AH,hw1,hc,e2]
     refine AK (Over.enter s) rfl ?_
     have:QV t=false:=by
      have:t.contains 0=true:=by rw [List.contains_iff_mem,← h0]; exact List.getElem_mem h
      rw [QV,this]; simp
     rw [this]; rfl
   · have e2:((t[i]:Int)=0)=False:=eq_false (by omega)
     simp only [go_sem,AE,AA,AD,AC,KB_n,KB_x,Nat.reduceBEq,Nat.reduceAdd,Nat.reduceLT,Nat.reduceLeDiff,Nat.reduceEqDiff,reduceIte,Int.reduceEq,reduceCtorEq,g0,g3,e1,AH,hw1,hc,e2]
     refine ⟨x - 1,by omega,i+1,by omega,?_,rfl⟩
     have hb:(0==t[i])=false:=by simp only [beq_eq_false_iff_ne,ne_eq]; omega
     rw [htk]
     simp only [List.contains_append,hn,List.contains_cons,List.contains_nil,hb,Bool.or_self]
 · have e1:((i:Int) < (t.length:Int))=False:=eq_false (by omega)
   have e2:((t.length:Int)≤256)=(t.length≤256):=by simp only [eq_iff_iff]; omega
   rw [List.take_of_length_le (by omega)] at hn
   simp only [go_sem,AE,AA,AD,AC,KB_n,KB_x,Nat.reduceBEq,Nat.reduceAdd,Nat.reduceLT,Nat.reduceLeDiff,Nat.reduceEqDiff,reduceIte,Int.reduceEq,reduceCtorEq,g0,g3,e1,e2]
   refine AK (Over.enter s) rfl ?_
   simp only [QV,hn,Bj,wkZ,wk,Bool.not_false,Bool.and_true]
def W1 (n:ND):Bool:=decide (n.names.length=0)&&(decide (n.kids.length=0)&&(QV n.text&&(decide (n.kind=1)||decide (0 < n.text.length))))
theorem W1_eq (n:ND):(decide (n.names=[])&&(decide (n.kids.length=0)&&(decide (n.text.length≤256)&&(!n.text.contains 0&&(decide (n.kind=1)||decide (n.text≠[]))))))=W1 n:=by
 have h1:decide (n.names=[])=decide (n.names.length=0):=by simp
 have h2:decide (n.text≠[])=decide (0 < n.text.length):=by simp [List.length_pos_iff]
 unfold W1 QV
 rw [h1,h2,Bool.and_assoc]
theorem Re : ∀ n : ND,n.Ok→∀ s,Wf s→(lim prog).call Cl [.agg n.cells] s=some (.b (E6 n),s):=by
 refine ND.ind fun n ih ho s hw=>?_
 refine fn_W Hw rfl rfl ?_
 have H1:=(Hp.begin hw).new (.cells 37 n.cells)
 generalize hq:s.enter.new (.cells 37 n.cells)=q at H1
 generalize hm:s.enter.nb=m at H1
 have l0:=H1.ld 0 (off:=0) (v:=.i .u8 (n.kind:Nat)) rfl rfl
 have l1:=H1.ld 0 (off:=1) (v:=.s n.text) rfl rfl
 have l2:=H1.ld 0 (off:=2) (v:=tx n.names) rfl rfl
 have l3:=H1.ld 0 (off:=3) (v:=.ws false 4 (n.kids.map ND.av)) rfl rfl
 have hz0:wkZ AO.cin [.agg n.cells]=[.agg n.cells]:=by simp [AO,wkZ,wk,ND.cells]
 have ht:=Rd n.text ho.text.2 q
 rw [hz0,Ls,W1_eq]
 have hbr:∀ b,KR s [.id] (.b b) (some ([.b b],q)):=fun b=>AK H1.over rfl rfl
 by_cases c1:n.kind=1∨n.kind=3
 · rw [if_pos c1]
   by_cases k1:n.kind=1
   · have e1:((n.kind:Int)=1)=True:=eq_true (by omega)
     by_cases d1:n.names.length=0
     · have f1:((n.names.length:Int)=0)=True:=eq_true (by omega)
       by_cases d2:n.kids.length=0
       · have f2:((n.kids.length:Int)=0)=True:=eq_true (by omega)
         cases d3:QV n.text
         · rw [d3] at ht
           simp only [AO,go_sem,AE,AA,AD,AC,KB_n,KB_x,Nat.reduceBEq,Nat.reduceAdd,Nat.reduceLT,Nat.reduceLeDiff,Nat.reduceEqDiff,reduceIte,Int.reduceEq,reduceCtorEq,Ay,hq,hm,l0,l1,l2,l3,Nat.zero_add,List.length_map,ht,e1,f1,f2]
           rw [show W1 n=false by simp [W1,d3]]
           exact hbr _
         · rw [d3] at ht
           simp only [AO,go_sem,AE,AA,AD,AC,KB_n,KB_x,Nat.reduceBEq,Nat.reduceAdd,Nat.reduceLT,Nat.reduceLeDiff,Nat.reduceEqDiff,reduceIte,Int.reduceEq,reduceCtorEq,Ay,hq,hm,l0,l1,l2,l3,Nat.zero_add,List.length_map,ht,e1,f1,f2]
           rw [show W1 n=true by simp [W1,d1,d2,d3,k1]]
           exact hbr _
       · have f2:((n.kids.length:Int)=0)=False:=eq_false (by omega)
         simp only [AO,go_sem,AE,AA,AD,AC,KB_n,KB_x,Nat.reduceBEq,Nat.reduceAdd,Nat.reduceLT,Nat.reduceLeDiff,Nat.reduceEqDiff,reduceIte,Int.reduceEq,reduceCtorEq,Ay,hq,hm,l0,l1,l2,l3,Nat.zero_add,List.length_map,ht,e1,f1,f2]
         rw [show W1 n=false by simp [W1,d2]]
         exact hbr _
     · have f1:((n.names.length:Int)=0)=False:=eq_false (by omega)
       simp only [AO,go_sem,AE,AA,AD,AC,KB_n,KB_x,Nat.reduceBEq,Nat.reduceAdd,Nat.reduceLT,Nat.reduceLeDiff,Nat.reduceEqDiff,reduceIte,Int.reduceEq,reduceCtorEq,Ay,hq,hm,l0,l1,l2,l3,Nat.zero_add,List.length_map,ht,e1,f1]
       rw [show W1 n=false by simp [W1,d1]]
       exact hbr _
   · have e1 : ((n.kind:Int)=1)=False:=eq_false (by omega)
     have e3:((n.kind:Int)=3)=True:=eq_true (by omega)
     by_cases d1:n.names.length=0
     · have f1:((n.names.length:Int)=0)=True:=eq_true (by omega)
       by_cases d2:n.kids.length=0
       · have f2:((n.kids.length:Int)=0)=True:=eq_true (by omega)
         cases d3:QV n.text
         · rw [d3] at ht
           simp only [AO,go_sem,AE,AA,AD,AC,KB_n,KB_x,Nat.reduceBEq,Nat.reduceAdd,Nat.reduceLT,Nat.reduceLeDiff,Nat.reduceEqDiff,reduceIte,Int.reduceEq,reduceCtorEq,Ay,hq,hm,l0,l1,l2,l3,Nat.zero_add,List.length_map,ht,e1,e3,f1,f2]
           rw [show W1 n=false by simp [W1,d3]]
           exact hbr _
         · rw [d3] at ht
           by_cases d4:0 < n.text.length
           · have f4:((0:Int) < (n.text.length:Int))=True:=eq_true (by omega)
             simp only [AO,go_sem,AE,AA,AD,AC,KB_n,KB_x,Nat.reduceBEq,Nat.reduceAdd,Nat.reduceLT,Nat.reduceLeDiff,Nat.reduceEqDiff,reduceIte,Int.reduceEq,reduceCtorEq,Ay,hq,hm,l0,l1,l2,l3,Nat.zero_add,List.length_map,ht,e1,e3,f1,f2,f4]
             rw [show W1 n=true by simp [W1,d1,d2,d3,d4,k1]]
             exact hbr _
           · have f4:((0:Int) < (n.text.length:Int))=False:=eq_false (by omega)
             simp only [AO,go_sem,AE,AA,AD,AC,KB_n,KB_x,Nat.reduceBEq,Nat.reduceAdd,Nat.reduceLT,Nat.reduceLeDiff,Nat.reduceEqDiff,reduceIte,Int.reduceEq,reduceCtorEq,Ay,hq,hm,l0,l1,l2,l3,Nat.zero_add,List.length_map,ht,e1,e3,f1,f2,f4]
             rw [show W1 n=false by simp [W1,d1,d2,d3,d4,k1]]
             exact hbr _
       · have f2:((n.kids.length:Int)=0)=False:=eq_false (by omega)
         simp only [AO,go_sem,AE,AA,AD,AC,KB_n,KB_x,Nat.reduceBEq,Nat.reduceAdd,Nat.reduceLT,Nat.reduceLeDiff,Nat.reduceEqDiff,reduceIte,Int.reduceEq,reduceCtorEq,Ay,hq,hm,l0,l1,l2,l3,Nat.zero_add,List.length_map,ht,e1,e3,f1,f2]
         rw [show W1 n=false by simp [W1,d2]]
         exact hbr _
     · have f1:((n.names.length:Int)=0)=False:=eq_false (by omega)
       simp only [AO,go_sem,AE,AA,AD,AC,KB_n,KB_x,Nat.reduceBEq,Nat.reduceAdd,Nat.reduceLT,Nat.reduceLeDiff,Nat.reduceEqDiff,reduceIte,Int.reduceEq,reduceCtorEq,Ay,hq,hm,l0,l1,l2,l3,Nat.zero_add,List.length_map,ht,e1,e3,f1]
       rw [show W1 n=false by simp [W1,d1]]
       exact hbr _
 · rw [if_neg c1]
   have e1:((n.kind:Int)=1)=False:=eq_false (by omega)
   have e3:((n.kind:Int)=3)=False:=eq_false (by omega)
   by_cases c2:n.kind=2
   · rw [if_pos c2]
     have e2:((n.kind:Int)≠2)=False:=by simp [c2]
     by_cases d1:n.text=[]
     · have f1 : (n.text≠[])=False:=by simp [d1]
       by_cases d2:n.names.length=n.kids.length
       · have f2 : ((n.names.length:Int)≠(n.kids.length:Int))=False:=by simp only [ne_eq,eq_iff_iff,iff_false]; omega
         rw [decide_eq_true d1,decide_eq_true d2]
         simp only [AO,go_sem,AE,AA,AD,AC,KB_n,KB_x,Nat.reduceBEq,Nat.reduceAdd,Nat.reduceLT,Nat.reduceLeDiff,Nat.reduceEqDiff,reduceIte,Int.reduceEq,reduceCtorEq,Ay,hq,hm,l0,l1,l2,l3,Nat.zero_add,List.length_map,ht,e1,e2,e3,f1,f2]
         refine CJ (fun x e q'=>∃ i:Nat,i+x=n.names.length∧q'=q∧FY none (n.names.take i) (n.kids.take i)=true∧e.get 1=.p m 0∧e.get 3=.i .i64 (i:Nat)) ?_ n.names.length _ _ ⟨0,by omega,rfl,by simp [FY],by simp only [go_sem,AE,AA,AD,AC,KB_n,KB_x,Nat.reduceBEq,Nat.reduceAdd,Nat.reduceLT,Nat.reduceLeDiff,Nat.reduceEqDiff,reduceIte,Int.reduceEq,reduceCtorEq],by simp only [go_sem,AE,AA,AD,AC,KB_n,KB_x,Nat.reduceBEq,Nat.reduceAdd,Nat.reduceLT,Nat.reduceLeDiff,Nat.reduceEqDiff,reduceIte,Int.reduceEq,reduceCtorEq]; rfl⟩
         rintro x e q' ⟨i,hi,rfl,hwl,g1,g3⟩
         have hnl:=ho.names.2
         by_cases h:i < n.names.length
         · have h1:((i:Int) < (n.names.length:Int))=True:=eq_true (by omega)
           obtain ⟨y,hy⟩:∃ y,n.names[i]? = some y:=⟨_,List.getElem?_eq_getElem h⟩
           obtain ⟨k,hk⟩:∃ k,n.kids[i]? = some k:=⟨_,List.getElem?_eq_getElem (by omega)⟩
           have hy2:(n.names.map AV.s)[i]? = some (.s y):=by rw [List.getElem?_map,hy]; rfl
           have hk2:=Ia hk
           have hkm:k∈n.kids:=List.mem_of_getElem? hk
           have hym:y∈n.names:=List.mem_of_getElem? hy
           have hnm:=Tt y (ho.names.1 y hym).len q'
           have hkc:=ih k hkm (ho.kids.1 k hkm) q' H1.wf
           have hld:ldA q' true 4 (.ep k.cells 0 .shut)=some (.agg k.cells):=rfl
           have hw1:=Af (show i+1 < 2^63 by omega)
           have htk:n.names.take (i+1)=n.names.take i++[y]:=by rw [List.take_add_one,hy]; rfl
           have htk2:n.kids.take (i+1)=n.kids.take i++[k]:=by rw [List.take_add_one,hk]; rfl
           have hsn:=Ku none (n.names.take i) (n.kids.take i) y k (by rw [List.length_take,List.length_take]; omega)
           rw [← htk,← htk2,hwl,Bool.true_and] at hsn
           have hno:FY none (n.names.take (i+1)) (n.kids.take (i+1))=false→FY none n.names n.kids=false:=fun hf=>by
            rw [Bool.eq_false_iff]
            intro ht
            rw [Kv n none n.names n.kids (i+1) ht] at hf
            cases hf
           cases hn1:Dh y with
           | false =>
             rw [hn1] at hnm hsn
             rw [hno hsn]
             simp only [go_sem,AE,AA,AD,AC,KB_n,KB_x,Nat.reduceBEq,Nat.reduceAdd,Nat.reduceLT,Nat.reduceLeDiff,Nat.reduceEqDiff,reduceIte,Int.reduceEq,reduceCtorEq,g1,g3,l2,List.length_map,h1,AH,hy2,BP,C6,hnm,Nat.zero_add]
             exact hbr _
           | true =>
           rw [hn1] at hnm hsn
           cases i with
           | zero =>
             have h2:((0:Int) < ((0:Nat):Int))=False:=by simp
             have hsn:FY none (n.names.take (0+1)) (n.kids.take (0+1))=E6 k:=by rw [hsn]; simp
             cases hwk:E6 k with
             | false =>
               rw [hwk] at hkc hsn
               rw [hno hsn]
               simp only [go_sem,AE,AA,AD,AC,KB_n,KB_x,Nat.reduceBEq,Nat.reduceAdd,Nat.reduceLT,Nat.reduceLeDiff,Nat.reduceEqDiff,reduceIte,Int.reduceEq,reduceCtorEq,g1,g3,l2,List.length_map,h1,AH,hy2,BP,C6,hnm,h2,l3,hk2,hld,AY,hkc,Nat.zero_add]
               exact ⟨rfl,hbr _⟩
             | true =>
               rw [hwk] at hkc hsn
               simp only [go_sem,AE,AA,AD,AC,KB_n,KB_x,Nat.reduceBEq,Nat.reduceAdd,Nat.reduceLT,Nat.reduceLeDiff,Nat.reduceEqDiff,reduceIte,Int.reduceEq,reduceCtorEq,g1,g3,l2,List.length_map,h1,AH,hy2,BP,C6,hnm,h2,l3,hk2,hld,AY,hkc,hw1,Nat.zero_add]
               exact ⟨rfl,x - 1,by omega,0+1,by omega,hsn,by first | trivial | rfl⟩
           | succ i =>
             have h2:((0:Int) < ((i+1:Nat):Int))=True:=eq_true (by omega)
             obtain ⟨z,hz⟩:∃ z,n.names[i]? = some z:=⟨_,List.getElem?_eq_getElem (by omega)⟩
             have hz2:(n.names.map AV.s)[i]? = some (.s z):=by rw [List.getElem?_map,hz]; rfl
             have hsb:IntKind.i64.wrap (((i+1:Nat):Int) - 1)=(i:Int):=by
              rw [show ((i+1:Nat):Int) - 1=(i:Int) by omega]; exact Cx (by omega)
             rw [LJ hz] at hsn
             have hsn:FY none (n.names.take (i+1+1)) (n.kids.take (i+1+1))=(ltN z y&&E6 k):=by rw [hsn]; simp
             have hle:(ltN y z||beqN y z)=!ltN z y:=J1 y z
             cases hzy:ltN z y with
             | false =>
               rw [hzy] at hle hsn
               rw [hno hsn]
               simp only [go_sem,AE,AA,AD,AC,KB_n,KB_x,Nat.reduceBEq,Nat.reduceAdd,Nat.reduceLT,Nat.reduceLeDiff,Nat.reduceEqDiff,reduceIte,Int.reduceEq,reduceCtorEq,g1,g3,List.length_map,h1,AH,hy2,BP,C6,hnm,h2,l2,hsb,hz2,LI,hle,Nat.zero_add]
               exact hbr _
             | true =>
               rw [hzy] at hle hsn
               cases hwk:E6 k with
               | false =>
                 rw [hwk] at hkc hsn
                 rw [hno hsn]
                 simp only [go_sem,AE,AA,AD,AC,KB_n,KB_x,Nat.reduceBEq,Nat.reduceAdd,Nat.reduceLT,Nat.reduceLeDiff,Nat.reduceEqDiff,reduceIte,Int.reduceEq,reduceCtorEq,g1,g3,List.length_map,h1,AH,hy2,BP,C6,hnm,h2,l2,hsb,hz2,LI,hle,l3,hk2,hld,AY,hkc,Nat.zero_add]
                 exact ⟨rfl,hbr _⟩
               | true =>
                 rw [hwk] at hkc hsn
                 simp only [go_sem,AE,AA,AD,AC,KB_n,KB_x,Nat.reduceBEq,Nat.reduceAdd,Nat.reduceLT,Nat.reduceLeDiff,Nat.reduceEqDiff,reduceIte,Int.reduceEq,reduceCtorEq,g1,g3,List.length_map,h1,AH,hy2,BP,C6,hnm,h2,l2,hsb,hz2,LI,hle,l3,hk2,hld,AY,hkc,hw1,Nat.zero_add]
                 exact ⟨rfl,x - 1,by omega,i+1+1,by omega,hsn,by first | trivial | rfl⟩
         · have h1:((i:Int) < (n.names.length:Int))=False:=eq_false (by omega)
           rw [List.take_of_length_le (by omega),List.take_of_length_le (by omega)] at hwl
           rw [hwl]
           simp only [go_sem,AE,AA,AD,AC,KB_n,KB_x,Nat.reduceBEq,Nat.reduceAdd,Nat.reduceLT,Nat.reduceLeDiff,Nat.reduceEqDiff,reduceIte,Int.reduceEq,reduceCtorEq,g1,g3,l2,List.length_map,h1,Nat.zero_add]
           exact hbr _
       · have f2:((n.names.length:Int)≠(n.kids.length:Int))=True:=by simp only [ne_eq,eq_iff_iff,iff_true]; omega
         rw [decide_eq_true d1,decide_eq_false d2]
         simp only [AO,go_sem,AE,AA,AD,AC,KB_n,KB_x,Nat.reduceBEq,Nat.reduceAdd,Nat.reduceLT,Nat.reduceLeDiff,Nat.reduceEqDiff,reduceIte,Int.reduceEq,reduceCtorEq,Ay,hq,hm,l0,l1,l2,l3,Nat.zero_add,List.length_map,ht,e1,e2,e3,f1,f2]
         exact hbr _
     · have f1:(n.text≠[])=True:=by simp [d1]
       rw [decide_eq_false d1]
       simp only [AO,go_sem,AE,AA,AD,AC,KB_n,KB_x,Nat.reduceBEq,Nat.reduceAdd,Nat.reduceLT,Nat.reduceLeDiff,Nat.reduceEqDiff,reduceIte,Int.reduceEq,reduceCtorEq,Ay,hq,hm,l0,l1,l2,l3,Nat.zero_add,List.length_map,ht,e1,e2,e3,f1]
       exact hbr _
   · rw [if_neg c2]
     have e2:((n.kind:Int)≠2)=True:=by simp only [ne_eq,eq_iff_iff,iff_true]; omega
     simp only [AO,go_sem,AE,AA,AD,AC,KB_n,KB_x,Nat.reduceBEq,Nat.reduceAdd,Nat.reduceLT,Nat.reduceLeDiff,Nat.reduceEqDiff,reduceIte,Int.reduceEq,reduceCtorEq,Ay,hq,hm,l0,l1,l2,l3,Nat.zero_add,List.length_map,ht,e1,e2,e3]
     exact hbr _
theorem LM:∀ n:ND,n.Ok→nodesN n < 2^62→∀ s,Wf s→(lim prog).call Bn [.agg n.cells] s=some (.i .i64 (nodesN n:Nat),s):=by
 refine ND.ind fun n ih ho hb s hw=>?_
 refine fn_W Hi rfl rfl ?_
 have H1:=(Hp.begin hw).new (.cells 37 n.cells)
 generalize hq:s.enter.new (.cells 37 n.cells)=q at H1
 generalize hm:s.enter.nb=m at H1
 have l3:=H1.ld 0 (off:=3) (v:=.ws false 4 (n.kids.map ND.av)) rfl rfl
 have hN:=E5 n
 have hkl:=ho.kids.2
 have hz0:wkZ BS.cin [.agg n.cells]=[.agg n.cells]:=by simp [BS,wkZ,wk,ND.cells]
 rw [hz0]
 simp only [BS,go_sem,AE,AA,AD,AC,KB_n,KB_x,Nat.reduceBEq,Nat.reduceAdd,Nat.reduceLT,Nat.reduceLeDiff,Nat.reduceEqDiff,reduceIte,Int.reduceEq,reduceCtorEq,Ay,hq,hm]
 refine CJ (fun x e q'=>∃ i:Nat,i+x=n.kids.length∧q'=q∧e.get 1=.p m 0∧e.get 3=.i .i64 ((1+((n.kids.take i).map nodesN).sum:Nat):Int)∧e.get 4=.i .i64 (i:Nat)) ?_ n.kids.length _ _ ⟨0,by omega,rfl,by simp only [go_sem,AE,AA,AD,AC,KB_n,KB_x,Nat.reduceBEq,Nat.reduceAdd,Nat.reduceLT,Nat.reduceLeDiff,Nat.reduceEqDiff,reduceIte,Int.reduceEq,reduceCtorEq],by simp only [go_sem,AE,AA,AD,AC,KB_n,KB_x,Nat.reduceBEq,Nat.reduceAdd,Nat.reduceLT,Nat.reduceLeDiff,Nat.reduceEqDiff,reduceIte,Int.reduceEq,reduceCtorEq]; rfl,by simp only [go_sem,AE,AA,AD,AC,KB_n,KB_x,Nat.reduceBEq,Nat.reduceAdd,Nat.reduceLT,Nat.reduceLeDiff,Nat.reduceEqDiff,reduceIte,Int.reduceEq,reduceCtorEq]; rfl⟩
 rintro x e q' ⟨i,hi,rfl,g1,g3,g4⟩
 by_cases h:i < n.kids.length
 · have e1:((i:Int) < (n.kids.length:Int))=True:=eq_true (by omega)
   obtain ⟨k,hk1⟩:∃ k,n.kids[i]? = some k:=⟨_,List.getElem?_eq_getElem h⟩
   have hmem:k∈n.kids:=List.mem_of_getElem? hk1
   have hget:=Ia hk1
   have hle:=HD (f:=nodesN) hmem
   have hts:=J0 nodesN hk1
   have htl:=Mx nodesN n.kids (i+1)
   have hc:=ih k hmem (ho.kids.1 k hmem) (by omega) q' H1.wf
   have hsum:IntKind.i64.wrap (((1+((n.kids.take i).map nodesN).sum:Nat):Int)+((nodesN k:Nat):Int))=((1+((n.kids.take (i+1)).map nodesN).sum:Nat):Int):=by
    rw [hts,show ((1+((n.kids.take i).map nodesN).sum:Nat):Int)+((nodesN k:Nat):Int)=((1+(((n.kids.take i).map nodesN).sum+nodesN k):Nat):Int) by omega]
    exact Cx (by omega)
   have hw1:=Af (show i+1 < 2^63 by omega)
   have hld:ldA q' true 4 (.ep k.cells 0 .shut)=some (.agg k.cells):=rfl
   simp only [go_sem,AE,AA,AD,AC,KB_n,KB_x,Nat.reduceBEq,Nat.reduceAdd,Nat.reduceLT,Nat.reduceLeDiff,Nat.reduceEqDiff,reduceIte,Int.reduceEq,reduceCtorEq,g1,g3,g4,l3,List.length_map,e1,AH,hget,hld,AY,hc,hsum,hw1,Nat.zero_add]
   exact ⟨x - 1,by omega,i+1,by omega,rfl,rfl⟩
 · have e1:((i:Int) < (n.kids.length:Int))=False:=eq_false (by omega)
   obtain rfl:i=n.kids.length:=by omega
   simp only [go_sem,AE,AA,AD,AC,KB_n,KB_x,Nat.reduceBEq,Nat.reduceAdd,Nat.reduceLT,Nat.reduceLeDiff,Nat.reduceEqDiff,reduceIte,Int.reduceEq,reduceCtorEq,g1,g3,g4,l3,List.length_map,e1,Nat.zero_add]
   refine AK H1.over rfl ?_
   rw [hN,List.take_length]; rfl
theorem Rf:∀ n:ND,n.Ok→nodesN n < 2^62→∀ s,Wf s→(lim prog).call Cm [.agg n.cells] s=some (.i .i64 (deepN n:Nat),s):=by
 refine ND.ind fun n ih ho hb s hw=>?_
 refine fn_W Hx rfl rfl ?_
 have H1:=(Hp.begin hw).new (.cells 37 n.cells)
 generalize hq:s.enter.new (.cells 37 n.cells)=q at H1
 generalize hm:s.enter.nb=m at H1
 have l3:=H1.ld 0 (off:=3) (v:=.ws false 4 (n.kids.map ND.av)) rfl rfl
 have hN:=E5 n
 have hkl:=ho.kids.2
 have hz0:wkZ BX.cin [.agg n.cells]=[.agg n.cells]:=by simp [BX,wkZ,wk,ND.cells]
 rw [hz0]
 simp only [BX,go_sem,AE,AA,AD,AC,KB_n,KB_x,Nat.reduceBEq,Nat.reduceAdd,Nat.reduceLT,Nat.reduceLeDiff,Nat.reduceEqDiff,reduceIte,Int.reduceEq,reduceCtorEq,Ay,hq,hm]
 refine CJ (fun x e q'=>∃ i:Nat,i+x=n.kids.length∧q'=q∧e.get 1=.p m 0∧e.get 3=.i .i64 ((((n.kids.take i).map fun k=>1+deepN k).foldr max 0:Nat):Int)∧e.get 4=.i .i64 (i:Nat)) ?_ n.kids.length _ _ ⟨0,by omega,rfl,by simp only [go_sem,AE,AA,AD,AC,KB_n,KB_x,Nat.reduceBEq,Nat.reduceAdd,Nat.reduceLT,Nat.reduceLeDiff,Nat.reduceEqDiff,reduceIte,Int.reduceEq,reduceCtorEq],by simp only [go_sem,AE,AA,AD,AC,KB_n,KB_x,Nat.reduceBEq,Nat.reduceAdd,Nat.reduceLT,Nat.reduceLeDiff,Nat.reduceEqDiff,reduceIte,Int.reduceEq,reduceCtorEq]; rfl,by simp only [go_sem,AE,AA,AD,AC,KB_n,KB_x,Nat.reduceBEq,Nat.reduceAdd,Nat.reduceLT,Nat.reduceLeDiff,Nat.reduceEqDiff,reduceIte,Int.reduceEq,reduceCtorEq]; rfl⟩
 rintro x e q' ⟨i,hi,rfl,g1,g3,g4⟩
 by_cases h:i < n.kids.length
 · have e1:((i:Int) < (n.kids.length:Int))=True:=eq_true (by omega)
   obtain ⟨k,hk1⟩:∃ k,n.kids[i]? = some k:=⟨_,List.getElem?_eq_getElem h⟩
   have hmem:k∈n.kids:=List.mem_of_getElem? hk1
   have hget:=Ia hk1
   have hle:=HD (f:=nodesN) hmem
   have hdn:=N1 k
   have hmt:=So (fun k=>1+deepN k) hk1
   have hc:=ih k hmem (ho.kids.1 k hmem) (by omega) q' H1.wf
   have hsum:IntKind.i64.wrap (((deepN k:Nat):Int)+1)=((1+deepN k:Nat):Int):=by
    rw [show ((deepN k:Nat):Int)+1=((1+deepN k:Nat):Int) by omega]
    exact Cx (by omega)
   have hmx:(if ((1+deepN k:Nat):Int) > ((((n.kids.take i).map fun k=>1+deepN k).foldr max 0:Nat):Int) then ((1+deepN k:Nat):Int) else ((((n.kids.take i).map fun k=>1+deepN k).foldr max 0:Nat):Int))=((((n.kids.take (i+1)).map fun k=>1+deepN k).foldr max 0:Nat):Int):=by
    rw [hmt]
    split<;>omega
   have hw1:=Af (show i+1 < 2^63 by omega)
   have hld:ldA q' true 4 (.ep k.cells 0 .shut)=some (.agg k.cells):=rfl
   simp only [go_sem,AE,AA,AD,AC,KB_n,KB_x,Nat.reduceBEq,Nat.reduceAdd,Nat.reduceLT,Nat.reduceLeDiff,Nat.reduceEqDiff,reduceIte,Int.reduceEq,reduceCtorEq,g1,g3,g4,l3,List.length_map,e1,AH,hget,hld,AY,hc,hsum,hmx,hw1,Nat.zero_add]
   exact ⟨x - 1,by omega,i+1,by omega,rfl,rfl⟩
 · have e1:((i:Int) < (n.kids.length:Int))=False:=eq_false (by omega)
   obtain rfl:i=n.kids.length:=by omega
   simp only [go_sem,AE,AA,AD,AC,KB_n,KB_x,Nat.reduceBEq,Nat.reduceAdd,Nat.reduceLT,Nat.reduceLeDiff,Nat.reduceEqDiff,reduceIte,Int.reduceEq,reduceCtorEq,g1,g3,g4,l3,List.length_map,e1,Nat.zero_add]
   refine AK H1.over rfl ?_
   rw [O7,List.take_length]; rfl
theorem Ts (n:ND) (ho:n.Ok) (hb:nodesN n < 2^62) (s:St) (hw:Wf s):(lim prog).call Dm [.agg n.cells] s=some (.b (mayN n),s):=by
 refine fn_W IX rfl rfl ?_
 have H1:=(Hp.begin hw).new (.cells 37 n.cells)
 generalize hq:s.enter.new (.cells 37 n.cells)=q at H1
 generalize hm:s.enter.nb=m at H1
 have l0:=H1.ld 0 (off:=0) (v:=.i .u8 (n.kind:Nat)) rfl rfl
 have lw:=H1.ldw 0 (m:=4) rfl rfl
 have h1:=Re n ho q H1.wf
 have h2:=LM n ho hb q H1.wf
 have h3:=Rf n ho hb q H1.wf
 have hbr:∀ b,KR s [.id] (.b b) (some ([.b b],q)):=fun b=>AK H1.over rfl rfl
 have hz0:wkZ Az.cin [.agg n.cells]=[.agg n.cells]:=by simp [Az,wkZ,wk,ND.cells]
 rw [hz0]
 unfold mayN
 have e4:((deepN n:Int)≤24)=(deepN n≤24):=by simp only [eq_iff_iff]; omega
 by_cases c1:n.kind=2
 · have e1:((n.kind:Int)=2)=True:=eq_true (by omega)
   rw [decide_eq_true c1]
   cases c2:E6 n with
   | false =>
     rw [c2] at h1
     simp only [Az,go_sem,AE,AA,AD,AC,KB_n,KB_x,Nat.reduceBEq,Nat.reduceAdd,Nat.reduceLT,Nat.reduceLeDiff,Nat.reduceEqDiff,reduceIte,Int.reduceEq,reduceCtorEq,Ay,hq,hm,l0,lw,AY,Nat.zero_add,e1,h1]
     exact hbr _
   | true =>
     rw [c2] at h1
     by_cases c3:nodesN n≤1024
     · have e3:((nodesN n:Int)≤1024)=True:=eq_true (by omega)
       rw [decide_eq_true c3]
       simp only [Az,go_sem,AE,AA,AD,AC,KB_n,KB_x,Nat.reduceBEq,Nat.reduceAdd,Nat.reduceLT,Nat.reduceLeDiff,Nat.reduceEqDiff,reduceIte,Int.reduceEq,reduceCtorEq,Ay,hq,hm,l0,lw,AY,Nat.zero_add,e1,h1,h2,h3,e3,e4]
       exact hbr _
     · have e3:((nodesN n:Int)≤1024)=False:=eq_false (by omega)
       rw [decide_eq_false c3]
       simp only [Az,go_sem,AE,AA,AD,AC,KB_n,KB_x,Nat.reduceBEq,Nat.reduceAdd,Nat.reduceLT,Nat.reduceLeDiff,Nat.reduceEqDiff,reduceIte,Int.reduceEq,reduceCtorEq,Ay,hq,hm,l0,lw,AY,Nat.zero_add,e1,h1,h2,h3,e3]
       exact hbr _
 · have e1:((n.kind:Int)=2)=False:=eq_false (by omega)
   rw [decide_eq_false c1]
   simp only [Az,go_sem,AE,AA,AD,AC,KB_n,KB_x,Nat.reduceBEq,Nat.reduceAdd,Nat.reduceLT,Nat.reduceLeDiff,Nat.reduceEqDiff,reduceIte,Int.reduceEq,reduceCtorEq,Ay,hq,hm,l0,Nat.zero_add,e1]
   exact hbr _
end Go.Proofs.YtgloinighjdhlaaGreat

namespace Go.Proofs.YtgloinighjdhlaaGreat
open Go.Proofs.YtgloinighjdhlaaGreat.Am

attribute [local irreducible] W WO WE WQ WD Tr.get Tr.set
theorem wkFN (l:List FT) (root:ND):wkZ [(.sl 6 (.agg [.id,.id,(.sl 1 .id),(.sl 1 .id),.id,.id])),ctN] [fx l,.agg root.cells]=[fx l,.agg root.cells]:=by
 simp only [wkZ,Ft .ws,wk]
 simp [ND.cells,wkZ,wk,fx]
def Bw (l:List FT) (root:ND):Bool:=decide ((Fv l root).2=0)&&decide ((Fv l root).1 < 0)
theorem holds_ok (l:List FT) (ho:FOk l) (root:ND) (hr:root.Ok) (hb:nodesN root < 2^62) (s:St) (hw:Wf s) :
    (lim prog).call DI [fx l,.agg root.cells] s=some (.b (Bw l root),s):=by
 refine fn_W Oh rfl rfl ?_
 have hz0:wkZ D8.cin [fx l,.agg root.cells]=[fx l,.agg root.cells]:=wkFN l root
 rw [hz0]
 have e0:s.enter.nb=s.nb:=rfl
 have H1:=(Hp.begin hw).new (.cells 37 root.cells)
 obtain ⟨q1,hq1⟩:∃ q1,s.enter.new (.cells 37 root.cells)=q1:=⟨_,rfl⟩
 rw [hq1,e0] at H1
 have lw:=H1.ldw (m:=4) 0 rfl rfl
 have hf:=X8 l ho root hr hb q1 H1.wf
 unfold fx at hf
 unfold Bw
 by_cases hz:(Fv l root).2=0
 · have e1:((Fv l root).2=0)=True:=by simp [hz]
   simp only [D8,go_sem,AE,AA,AD,AC,KB_n,KB_x,Nat.reduceBEq,Nat.reduceAdd,Nat.reduceLT,Nat.reduceLeDiff,Nat.reduceEqDiff,reduceIte,Int.reduceEq,reduceCtorEq,Ay,hq1,e0,fx,lw,AY,hf,e1]
   exact AK H1.over rfl (by simp [Bj,wkZ,wk])
 · have e1:((Fv l root).2=0)=False:=by simp [hz]
   simp only [D8,go_sem,AE,AA,AD,AC,KB_n,KB_x,Nat.reduceBEq,Nat.reduceAdd,Nat.reduceLT,Nat.reduceLeDiff,Nat.reduceEqDiff,reduceIte,Int.reduceEq,reduceCtorEq,Ay,hq1,e0,fx,lw,AY,hf,e1]
   exact AK H1.over rfl (by simp [Bj,wkZ,wk])
end Go.Proofs.YtgloinighjdhlaaGreat

namespace Go.Proofs.YtgloinighjdhlaaGreat
open Go.Proofs.YtgloinighjdhlaaGreat.Am
def posS:List ND→Nat→List Int
 | [],_=>[]
 | k::ks,n=>(n:Int)::posS ks (n+nodesN k)
def bE (x:ND) (n:Nat):FT:=⟨true,x.kind,x.names,posS x.kids (n+1),if x.kind=2 then 1 else 0,0⟩
mutual
def allF:ND→Nat→List FT
 | .mk k t ns ks,n=>⟨true,k,ns,posS ks (n+1),if k=2 then 1 else 0,0⟩::NY ks (n+1)
def NY:List ND→Nat→List FT
 | [],_=>[]
 | k::ks,n=>allF k n++NY ks (n+nodesN k)
end
theorem Rt (x:ND) (n:Nat):allF x n=bE x n::NY x.kids (n+1):=by
 cases x with
 | mk k t ns ks=>rw [allF]; rfl
theorem N9:∀ (ks:List ND),(∀ k∈ks,∀ n,(allF k n).length=nodesN k)→∀ n,(NY ks n).length=(ks.map nodesN).sum
 | [],_,n=>by simp [NY]
 | k::ks,h,n=>by
   rw [NY,List.length_append,h k (by simp),N9 ks (fun x hx=>h x (by simp [hx])),List.map_cons,List.sum_cons]
theorem TE:∀ (x:ND) (n:Nat),(allF x n).length=nodesN x:=by
 refine ND.ind fun x ih n=>?_
 rw [Rt,List.length_cons,N9 x.kids ih,E5]; omega
def Sits (l:List FT) (x:ND) (n:Nat):Prop:=∃ pre post,l=pre++(allF x n++post)∧pre.length=n
def YZ (l:List FT) (ks:List ND) (n:Nat):Prop:=∃ pre post,l=pre++(NY ks n++post)∧pre.length=n
theorem Sits.fact {l:List FT} {x:ND} {n:Nat} (h:Sits l x n):l[n]? = some (bE x n)∧YZ l x.kids (n+1)∧n+nodesN x≤l.length:=by
 obtain ⟨pre,post,rfl,rfl⟩:=h
 refine ⟨?_,⟨pre++[bE x pre.length],post,?_,by simp⟩,?_⟩
 · rw [List.getElem?_append_right (Nat.le_refl _),Nat.sub_self,Rt]; rfl
 · rw [Rt]; simp
 · rw [List.length_append,List.length_append,TE]; omega
theorem YZ.cons {l:List FT} {k:ND} {ks:List ND} {n:Nat} (h:YZ l (k::ks) n):Sits l k n∧YZ l ks (n+nodesN k):=by
 obtain ⟨pre,post,rfl,rfl⟩:=h
 refine ⟨⟨pre,NY ks (pre.length+nodesN k)++post,?_,rfl⟩,⟨pre++allF k pre.length,post,?_,by rw [List.length_append,TE]⟩⟩
 · rw [NY]; simp
 · rw [NY]; simp
theorem Qb {x:ND} (h:E6 x=true):x.kind=1∨x.kind=2∨x.kind=3:=by
 rw [Ls] at h
 split at h
 · omega
 · split at h
   · omega
   · cases h

theorem OA:∀ (b:ND) (p:List (List Nat)) (s:List Nat),FE b (p++[s])=(FE b p).bind fun y=>kidN y s
 | b,[],s=>by
   simp only [List.nil_append,FE,Option.bind_some]
   cases kidN b s<;>rfl
 | b,a::p,s=>by
   simp only [List.cons_append,FE]
   cases h:kidN b a with
   | none=>rfl
   | some k=>exact OA k p s
theorem bF {l:List FT} (h:mayP l=true) {j:Nat} (hj:j < l.length) (b:ND):JQ l b (j:Int)=FE b (climb l j):=by
 have hc:0≤(j:Int)∧(j:Int) < (l.length:Int):=⟨by omega,by omega⟩
 simp only [JQ,Gg,h,if_true,hc,and_self,Int.toNat_natCast]
theorem Qc {f:FT} (hl:f.names.length=f.kids.length) (y:List Nat):Ea f f.names.length y=decide (y∈f.names):=by
 unfold Ea
 cases h:f.names.findIdx? (·==y) with
 | none =>
   rw [List.findIdx?_eq_none_iff] at h
   simp only
   rw [eq_comm,decide_eq_false_iff_not]
   intro hm
   have:=h y hm
   simp at this
 | some i =>
   rw [List.findIdx?_eq_some_iff_getElem] at h
   obtain ⟨h1,h2,_⟩:=h
   have hm:y∈f.names:=by
    simp only [beq_iff_eq] at h2
    rw [← h2]; exact List.getElem_mem h1
   have hk:=List.getElem?_eq_getElem (show i < f.kids.length by omega)
   simp only [hk]
   rw [decide_eq_true hm,decide_eq_true_eq,List.take_of_length_le (by rw [Fe]; omega)]
   exact (FX f.kids).mem_iff.2 (List.getElem_mem _)
theorem kid_at {y:ND} (hy:E6 y=true) (hk:y.kind=2) {i:Nat} {s:List Nat} (hs:y.names[i]? = some s):kidN y s=y.kids[i]? := by
 unfold kidN
 rw [if_pos hk]
 have:y.names.findIdx? (·==s)=some i:=by
  refine Mw hs fun j hj z hz=>?_
  rintro rfl
  have:=(Vu hy).asc hj hz hs
  rw [M0] at this; cases this
 rw [this]
theorem Kz (l:List FT) (b:ND):Bw l b=true↔(mayP l=true∧mayN b=true∧∀ j,j < l.length→Iw l b j=false):=by
 unfold Bw Fv
 cases hm:mayP l with
 | false=>simp
 | true =>
   cases hb:mayN b with
   | false=>simp
   | true =>
     simp only [Bool.and_self,if_true,true_and]
     cases hf:(List.range l.length).find? (Iw l b) with
     | some i =>
       simp only [Bool.and_eq_true,decide_eq_true_eq]
       rw [List.find?_range_eq_some] at hf
       constructor
       · intro h; omega
       · intro h
         have:=h i (by simpa using hf.2.1)
         rw [hf.1] at this; cases this
     | none =>
       simp only [Bool.and_eq_true,decide_eq_true_eq]
       rw [List.find?_eq_none] at hf
       constructor
       · intro _ j hj
         have:=hf j (by simpa using hj)
         simpa using this
       · intro _; simp

/-! ### Facts that say less -/
theorem LO {l l':List FT} (hk:l.map FT.kids=l'.map FT.kids) (hn:l.map FT.names=l'.map FT.names):∀ (d n:Nat),Hr l' d n=Hr l d n
 | 0,_=>rfl
 | d + 1,n=>by
   have hc:∀ j,cntK l' j=cntK l j:=fun j=>by unfold cntK flatK; rw [hk]
   have ha:∀ j,Fk l' j=Fk l j:=fun j=>by
    unfold Fk
    rw [hc]
    have h:∀ L:List FT,(L.findIdx? fun f=>f.kids.contains j)=(L.map FT.kids).findIdx? fun k=>k.contains j:=fun L=>by rw [List.findIdx?_map]; rfl
    rw [h l',h l,hk]
   rw [Hr,Hr,ha]
   split
   · rfl
   · cases Fk l (n:Int) with
     | none=>rfl
     | some u =>
       have h1:(l.map FT.kids)[u]? = (l'.map FT.kids)[u]? := by rw [hk]
       have h2:(l.map FT.names)[u]? = (l'.map FT.names)[u]? := by rw [hn]
       rw [List.getElem?_map,List.getElem?_map] at h1 h2
       simp only
       cases hl:l[u]? with
       | none =>
         rw [hl] at h1
         cases hl':l'[u]? with
         | none=>rfl
         | some f'=>rw [hl'] at h1; cases h1
       | some f =>
         rw [hl] at h1 h2
         cases hl':l'[u]? with
         | none=>rw [hl'] at h1; cases h1
         | some f' =>
           rw [hl'] at h1 h2
           have e1:f.kids=f'.kids:=Option.some.inj h1
           have e2:f.names=f'.names:=Option.some.inj h2
           simp only
           rw [LO hk hn d u]
           unfold Ra
           rw [e1,e2]
theorem M9 {l l':List FT} (hk:l.map FT.kids=l'.map FT.kids) (hn:l.map FT.names=l'.map FT.names) (n:Nat):climb l' n=climb l n:=LO hk hn _ _
theorem Ru {α β:Type} (g:α→β) {l:List α} {n:Nat} {f f':α} (h:l[n]? = some f) (e:g f'=g f):l.map g=(l.set n f').map g:=by
 rw [List.map_set,e]
 rw [List.getElem?_eq_some_iff] at h
 obtain ⟨hn,rfl⟩:=h
 rw [← List.getElem_map g (h:=by simpa using hn),List.set_getElem_self]

section
variable {s0 s q:St} {n:En} {R R':List RA} {B B':List (Nat×Box)}
theorem Ss {α:Type} {P:α→α→Prop} (hs:∀ x y,P x y→P y x) {l:List α} (h:l.Pairwise P) {i j:Nat} {x y:α} (hne:i≠j) (hx:l[i]? = some x) (hy:l[j]? = some y):P x y:=by
 rw [List.pairwise_iff_getElem] at h
 obtain ⟨h1,rfl⟩:=List.getElem?_eq_some_iff.1 hx
 obtain ⟨h2,rfl⟩:=List.getElem?_eq_some_iff.1 hy
 rcases Nat.lt_or_gt_of_ne hne with hl | hl
 · exact h i j h1 h2 hl
 · exact hs _ _ (h j i h2 h1 hl)
theorem WF {α:Type} {P:α→α→Prop} {l:List α} (h:∀ {i j:Nat} {x y:α},i≠j→l[i]? = some x→l[j]? = some y→P x y):l.Pairwise P:=by
 rw [List.pairwise_iff_getElem]
 intro i j hi hj hl
 exact h (by omega) (List.getElem?_eq_getElem hi) (List.getElem?_eq_getElem hj)
theorem _root_.Go.Proofs.YtgloinighjdhlaaGreat.Am.Hp.perm (H:Hp s0 s n R B) (hR:R.Perm R') (hB:B.Perm B'):Hp s0 s n R' B' where
 wf:=H.wf
 over:=H.over
 lo:=H.lo
 nb:=H.nb
 nt:=H.nt
 rows:=fun {i r} hr=>by
  have hm:=hR.symm.subset (List.mem_of_getElem? hr)
  obtain ⟨j,hj,rfl⟩:=List.mem_iff_getElem.1 hm
  exact H.rows (List.getElem?_eq_getElem hj)
 apart:=fun {i j r r' k} hne h1 h2 hk=>by
  have hp:R.Pairwise (fun r r'=>∀ k,Ad r.a=some k→Ad r'.a≠some k):=WF fun hne h1 h2 k hk=>H.apart hne h1 h2 hk
  have hs:∀ (r r':RA),(∀ k,Ad r.a=some k→Ad r'.a≠some k)→(∀ k,Ad r'.a=some k→Ad r.a≠some k):=fun r r' h k h1 h2=>h k h2 h1
  exact Ss hs (hR.pairwise hp fun {x y} h=>hs x y h) hne h1 h2 k hk
 box:=fun {i p} hp=>by
  have hm:=hB.symm.subset (List.mem_of_getElem? hp)
  obtain ⟨j,hj,rfl⟩:=List.mem_iff_getElem.1 hm
  exact H.box (List.getElem?_eq_getElem hj)
 bapart:=fun {i j p q} hne h1 h2=>by
  have hp:B.Pairwise (fun p q=>p.1≠q.1):=WF fun hne h1 h2=>H.bapart hne h1 h2
  exact Ss (P:=fun p q:Nat×Box=>p.1≠q.1) (fun p q h e=>h e.symm) (hB.pairwise hp fun {x y} h e=>h e.symm) hne h1 h2
theorem _root_.Go.Proofs.YtgloinighjdhlaaGreat.Am.Hp.back {R0:List RA} {B0:List (Nat×Box)} (H0:Hp s0 s n R0 B0) (H:Hp s0 q s.en R B):Hp s0 { q with lo:=min s.lo q.lo } n R B where
 wf:=H.wf.lo _
 over:=H.over.setLo (by have:=H0.over.lo; have:=H.over.lo; omega)
 lo:=by have:=H0.lo; simp only; omega
 nb:=by have h1:=H0.nb; have h2:=H.nb; simp only [St.en] at h2 ⊢; omega
 nt:=by have h1:=H0.nt; have h2:=H.nt; simp only [St.en] at h2 ⊢; omega
 rows:=fun h=>(H.rows h).mono (Nat.le_refl _) fun _ _=>rfl
 apart:=H.apart
 box:=H.box
 bapart:=H.bapart
theorem Rg:∀ {a b:List AV},ones a=true→ones b=true→ones (a++b)=true
 | [],_,_,h=>h
 | x::a,b,h,k=>by
   cases x<;>first | (simp [ones] at h; done) | exact Rg (a:=a) (by simpa only [ones] using h) k
theorem Yx {es:Nat}:∀ {xs:List AV},(∀ x∈xs,x.cells.length=es∧ones x.cells=true)→(Bc xs).length=xs.length*es∧ones (Bc xs)=true
 | [],_=>by simp [Bc,ones]
 | x::xs,h=>by
   obtain ⟨h1,h2⟩:=Yx (xs:=xs) fun y hy=>h y (by simp [hy])
   obtain ⟨h3,h4⟩:=h x (by simp)
   simp only [Bc]
   refine ⟨by rw [List.length_append,h1,h3,List.length_cons,Nat.add_mul]; omega,?_⟩
   exact Rg h4 h2
theorem _root_.Go.Proofs.YtgloinighjdhlaaGreat.Am.Hp.stR (H:Hp s0 s n R B) (i:Nat) {id T off:Nat} {cs:List AV} {v:AV} (h:B[i]? = some (id,.row T cs false 0)) (hoff:off < cs.length) (hv:v.cells=[v]∧ones [v]=true) :
    ∃ s',stA s 1 (.p id off) v=some s'∧Hp s0 s' n R (B.set i (id,.row T (cs.set off v) false 0)):=by
 have hb:(B.set i (id,Box.row T (cs.set off v) false 0))[i]? = some (id,.row T (cs.set off v) false 0):=by
  rw [List.getElem?_set,if_pos rfl,if_pos (by rw [List.getElem?_eq_some_iff] at h; exact h.1)]
 obtain ⟨h1,h2,h3⟩:=(H.setBox h (.row T (cs.set off v) false 0)).esc hb v
 refine ⟨_,?_,h1⟩
 have hbx:=(H.box h).1
 simp only at hbx
 have:Am.overR cs off [v] 0=some (cs.set off v):=by
  unfold Am.overR
  rw [if_pos ⟨by omega,by simp; omega⟩,List.set_eq_take_append_cons_drop,if_pos hoff]; rfl
 simp only [stA,hbx,hv.1,hv.2,List.length_cons,List.length_nil,Nat.zero_add,and_self,if_true,this]
theorem _root_.Go.Proofs.YtgloinighjdhlaaGreat.Am.Hp.ldR (H:Hp s0 s n R B) (i:Nat) {id T off:Nat} {cs:List AV} {v:AV} (h:B[i]? = some (id,.row T cs false 0)) (hc:cs[off]? = some v):ldA s false 1 (.p id off)=some v:=by
 have hbx:=(H.box h).1
 simp only at hbx
 simp only [ldA,St.cells?,hbx,cut]
 have:(cs.drop off).take 1=[v]:=by
  rw [List.take_one,List.head?_drop,hc]; rfl
 simp [this,scal]
end
structure KQ where
 f:FT
 nm:AV
 a:AV
def KQ.cells (p:KQ):List AV:=[.b p.f.known,.i .u8 (p.f.kind:Nat),p.nm,p.a,.i .i64 p.f.rest,.i .i64 p.f.beside]
def KQ.av (p:KQ):AV:=.agg p.cells
def cr (T:Nat) (a:AV) (xs:List AV):List RA:=match Ad a with
 | some _=>[⟨1,T,a,xs,true⟩]
 | none=>[]
def KQ.ras (p:KQ):List RA:=cr 9 p.nm (p.f.names.map .s)++cr 3 p.a (p.f.kids.map iv)
def ras (K:List KQ):List RA:=K.flatMap KQ.ras
def Cok (a:AV) (xs:List AV):Prop:=Ad a=none→BR 1 a xs
def QW (a:AV) (xs:List AV):Prop:=Ad a=none→a=.ws true 1 []∧xs=[]
def KQ.ok (p:KQ):Prop:=Cok p.nm (p.f.names.map .s)∧Cok p.a (p.f.kids.map iv)
def KOk (K:List KQ):Prop:=∀ p∈K,p.ok
def M3 (f:FT):KQ:=⟨f,tx f.names,zx f.kids⟩
theorem M4 {T:Nat} {a:AV} {xs:List AV} (h:Ad a=none):cr T a xs=[]:=by unfold cr; rw [h]
theorem WG {T:Nat} {a:AV} {xs ys:List AV} (h:BR 1 a ys):cr T a xs=[]:=M4 h.cells.2.2
theorem Su {a:AV} {xs:List AV} (h:Cok a xs) (l:List AV):ones (a::l)=ones l:=by
 cases hr:Ad a with
 | none=>exact (h hr).ones l
 | some k =>
   unfold Ad at hr
   split at hr
   · rfl
   · cases hr
theorem QX {a:AV} {xs:List AV} (h:Cok a xs):a.cells=[a]∧ones [a]=true:=by
 cases hr:Ad a with
 | none=>exact ⟨(h hr).cells.1,(h hr).cells.2.1⟩
 | some k =>
   unfold Ad at hr
   split at hr
   · exact ⟨rfl,rfl⟩
   · cases hr
def KFr (K:List KQ):Prop:=∀ p∈K,QW p.nm (p.f.names.map .s)∧QW p.a (p.f.kids.map iv)
theorem Sv {a:AV} {xs:List AV} (h:BR 1 a xs):Cok a xs:=fun _=>h
theorem Sw (l:List FT):ras (l.map M3)=[]:=by
 induction l with
 | nil=>rfl
 | cons f l ih =>
   show (M3 f).ras++ras (l.map M3)=[]
   rw [ih]; rfl
theorem YJ (l:List FT):KOk (l.map M3):=fun p hp=>by
 obtain ⟨f,_,rfl⟩:=List.mem_map.1 hp
 exact ⟨fun _=>.ws,fun _=>.ws⟩
theorem ao (l:List FT):(l.map M3).map KQ.av=l.map FT.av:=by
 rw [List.map_map]; rfl
theorem base_f (l:List FT):(l.map M3).map KQ.f=l:=by
 rw [List.map_map]
 show l.map (fun f=>f)=l
 simp
theorem KOk.cells {K:List KQ} (h:KOk K):∀ x∈K.map KQ.av,x.cells.length=6∧ones x.cells=true:=by
 intro x hx
 obtain ⟨p,hp,rfl⟩:=List.mem_map.1 hx
 obtain ⟨h1,h2⟩:=h p hp
 refine ⟨rfl,?_⟩
 show ones (AV.b p.f.known::AV.i .u8 (p.f.kind:Nat)::p.nm::p.a::[.i .i64 p.f.rest,.i .i64 p.f.beside])=true
 simp only [ones,Su h1,Su h2]
theorem KOk.set {K:List KQ} (h:KOk K) {i:Nat} {p:KQ} (hp:p.ok):KOk (K.set i p):=fun q hq=>by
 rcases List.mem_or_eq_of_mem_set hq with hq | rfl
 · exact h q hq
 · exact hp
theorem Sx {K:List KQ} {i:Nat} {p:KQ} (h:K[i]? = some p):(ras K).Perm (p.ras++ras (K.eraseIdx i)):=by
 induction K generalizing i with
 | nil=>simp at h
 | cons q K ih =>
   cases i with
   | zero =>
     simp only [List.getElem?_cons_zero,Option.some.injEq] at h
     subst h
     exact .refl _
   | succ i =>
     have:=ih (i:=i) (by simpa using h)
     show (q.ras++ras K).Perm (p.ras++(q.ras++ras (K.eraseIdx i)))
     refine (List.Perm.append_left _ this).trans ?_
     rw [← List.append_assoc,← List.append_assoc]
     exact List.Perm.append_right _ List.perm_append_comm
theorem WH {K:List KQ} {i:Nat} {p g:KQ} (h:K[i]? = some p):(ras (K.set i g)).Perm (g.ras++ras (K.eraseIdx i)):=by
 have h1:(K.set i g)[i]? = some g:=by
  rw [List.getElem?_set,if_pos rfl,if_pos (List.getElem?_eq_some_iff.1 h).1]
 have:=Sx h1
 rwa [List.eraseIdx_set_eq] at this
theorem Yy:∀ K:List KQ,Gl 6 K.length (Bc (K.map KQ.av))=K.map KQ.av
 | []=>rfl
 | p::K=>by
   have h:=Yy K
   rw [List.map_cons,Bc,List.length_cons,Gl,if_neg (by decide)]
   have h1:(p.av.cells++Bc (K.map KQ.av)).take 6=p.cells:=rfl
   have h2:(p.av.cells++Bc (K.map KQ.av)).drop 6=Bc (K.map KQ.av):=rfl
   rw [h1,h2,h]; rfl
theorem HI {K:List KQ} {i j:Nat} {p:KQ} {v:AV} (h:K[i]? = some p) (hj:p.cells[j]? = some v):(Bc (K.map KQ.av))[i*6+j]? = some v:=by
 induction K generalizing i with
 | nil=>simp at h
 | cons p0 K ih =>
   rw [List.map_cons,Bc]
   have hj6:j < 6:=(List.getElem?_eq_some_iff.1 hj).1
   cases i with
   | zero =>
     simp only [List.getElem?_cons_zero,Option.some.injEq] at h; subst h
     rw [Nat.zero_mul,Nat.zero_add,List.getElem?_append_left (by exact hj6)]
     exact hj
   | succ i =>
     rw [List.getElem?_append_right (by show 6≤_; omega)]
     rw [show (i+1)*6+j - p0.av.cells.length=i*6+j by show (i+1)*6+j - 6=_; omega]
     exact ih (by simpa using h)
theorem Lv {K:List KQ} {i j:Nat} {p g:KQ} {v:AV} (h:K[i]? = some p) (hj:j < 6) (hg:p.cells.set j v=g.cells):(Bc (K.map KQ.av)).set (i*6+j) v=Bc ((K.set i g).map KQ.av):=by
 induction K generalizing i with
 | nil=>simp at h
 | cons p0 K ih =>
   rw [List.map_cons,Bc]
   cases i with
   | zero =>
     simp only [List.getElem?_cons_zero,Option.some.injEq] at h; subst h
     rw [Nat.zero_mul,Nat.zero_add,List.set_append,if_pos (by exact hj),List.set_cons_zero,List.map_cons,Bc]
     congr 1
   | succ i =>
     rw [List.set_append,if_neg (by show ¬ _ < 6; omega),List.set_cons_succ,List.map_cons,Bc]
     rw [show (i+1)*6+j - p0.av.cells.length=i*6+j by show (i+1)*6+j - 6=_; omega]
     rw [ih (by simpa using h)]
theorem J3 (K:List KQ):(Bc (K.map KQ.av)).length=K.length*6:=by
 induction K with
 | nil=>rfl
 | cons p K ih=>rw [List.map_cons,Bc,List.length_append,ih,List.length_cons]; show 6+_=_; omega
section
variable {s0 s:St} {n:En} {R:List RA} {B:List (Nat×Box)}
theorem _root_.Go.Proofs.YtgloinighjdhlaaGreat.Am.Hp.cr {T:Nat} {a:AV} {xs:List AV} (H:Hp s0 s n (⟨1,T,a,xs,true⟩::R) B):Hp s0 s n (cr T a xs++R) B∧Cok a xs:=by
 rcases H.rows (i:=0) rfl with h | ⟨k,v,t,h,_⟩
 · have h1:Ad a=none:=D4 h
   refine ⟨?_,fun _=>h.told⟩
   rw [M4 h1]
   exact H.dropR
 · have h':a=.sl 1 xs (.tok k v):=h
   subst h'
   exact ⟨H,fun h=>by simp [Ad] at h⟩
theorem _root_.Go.Proofs.YtgloinighjdhlaaGreat.Am.Hp.crShape {T:Nat} {a:AV} {xs:List AV} (H:Hp s0 s n (Go.Proofs.YtgloinighjdhlaaGreat.cr T a xs++R) B) (hc:Cok a xs):BR 1 a xs∨∃ k v,a=.sl 1 xs (.tok k v)∧s.ok (.tok k v)=true:=by
 cases hr:Ad a with
 | none=>exact .inl (hc hr)
 | some k0 =>
   have he:Go.Proofs.YtgloinighjdhlaaGreat.cr T a xs=[⟨1,T,a,xs,true⟩]:=by unfold Go.Proofs.YtgloinighjdhlaaGreat.cr; rw [hr]
   rw [he] at H
   rcases H.rows (i:=0) rfl with h | ⟨k,v,t,h,_,_,h2,h3,_⟩
   · exact .inl h.told
   · refine .inr ⟨k,v,h,?_⟩
     simp only [St.ok,h2,h3,Nat.beq_refl]
end
end Go.Proofs.YtgloinighjdhlaaGreat

namespace Go.Proofs.YtgloinighjdhlaaGreat
open Go.Proofs.YtgloinighjdhlaaGreat.Am
attribute [local irreducible] W WO WE WQ WD Tr.get Tr.set
def RowQ (s0 q:St) (n:En) (v:AV) (l:List FT) (K:List KQ):Prop:=(Hp s0 q n (⟨6,48,v,l.map FT.av,true⟩::ras K) []∧Ad v≠none∧K=l.map M3)∨(∃ id,v=.bl id 6 0 l.length (l.length*6,false)∧Hp s0 q n (ras K) [(id,.row 48 (Bc (K.map KQ.av)) false 0)])
theorem RowQ.thaw {s0 q:St} {n:En} {v:AV} {l:List FT} {K:List KQ} (h:RowQ s0 q n v l K) (f:FT) :
    ∃ q1,stA (q.new (.cells 48 [.b false,.i .u8 0,.nsl,.nsl,.i .i64 0,.i .i64 0])) 6 (.p q.nb 0) (.agg f.cells)=some q1∧∃ id q2,Fx q1 v=some (.bl id 6 0 l.length (l.length*6,false),q2)∧Hp s0 q2 n (ras K) [(id,.row 48 (Bc (K.map KQ.av)) false 0),(q.nb,.cells 48 f.cells)]:=by
 rcases h with ⟨H,hv,rfl⟩ | ⟨id,rfl,H⟩
 · obtain ⟨q1,d1,H1,n1⟩:=H.adp (T:=48) (m:=6) (z:=[.b false,.i .u8 0,.nsl,.nsl,.i .i64 0,.i .i64 0]) (v:=.agg f.cells) rfl ⟨rfl,rfl⟩
   obtain ⟨q2,d2,H2,n2⟩:=H1.thaw 0 rfl hv [] (by simp) (by simp)
   rw [List.length_map] at d2
   rw [ao,Sw]
   exact ⟨q1,d1,_,q2,d2,H2⟩
 · obtain ⟨q1,d1,H1,n1⟩:=H.adp (T:=48) (m:=6) (z:=[.b false,.i .u8 0,.nsl,.nsl,.i .i64 0,.i .i64 0]) (v:=.agg f.cells) rfl ⟨rfl,rfl⟩
   refine ⟨q1,d1,id,q1,rfl,H1.perm (.refl _) (.swap _ _ _)⟩
theorem YL {s0 s:St} {n:En} {R:List RA} {B:List (Nat×Box)} (H:Hp s0 s n R B) (L:List (List Nat)) (hL:L.length < 2^38) :
    ∃ r s',(lim prog).call Ai [tx L] s=some (r,s')∧Hp s0 s' n (⟨1,9,r,L.map .s,true⟩::R) B∧s'.nb=s.nb∧QW r (L.map .s):=by
 obtain ⟨r,s',h,H',e⟩:=Ov H L hL
 refine ⟨r,s',h,H',e,fun hr=>?_⟩
 cases L with
 | nil =>
   rw [P6] at h
   cases h; exact ⟨rfl,rfl⟩
 | cons x L =>
   rw [Nw x L hL] at h
   cases h; cases hr
theorem WI {s0 s:St} {n:En} {R:List RA} {B:List (Nat×Box)} (H:Hp s0 s n R B) (L:List Int) (hL:L.length < 2^38) :
    ∃ r s',(lim prog).call BW [zx L] s=some (r,s')∧Hp s0 s' n (⟨1,3,r,L.map iv,true⟩::R) B∧s'.nb=s.nb∧QW r (L.map iv):=by
 obtain ⟨r,s',h,H',e⟩:=Vf H L hL
 refine ⟨r,s',h,H',e,fun hr=>?_⟩
 cases L with
 | nil =>
   rw [Nx] at h
   cases h; exact ⟨rfl,rfl⟩
 | cons x L =>
   rw [Mo x L hL] at h
   cases h; cases hr
theorem Yz {s0 s:St} {n:En} (H:Hp s0 s n [] []) (l:List FT) (hne:l≠[]) (ho:FOk l) :
    ∃ r s',(lim prog).call JH [fx l] s=some (r,s')∧∃ id K,r=.bl id 6 0 l.length (l.length*6,false)∧Hp s0 s' n (ras K) [(id,.row 48 (Bc (K.map KQ.av)) false 0)]∧KOk K∧K.map KQ.f=l∧KFr K:=by
 have hpos:=List.length_pos_iff.2 hne
 have hll:=ho.len
 have hz0:wkZ Ef.cin [fx l]=[fx l]:=by simp only [Ef,wkZ,fx,wk]
 refine fn_K (t:=2) (s:=s) (args:=[fx l]) (Post:=fun r s'=>∃ id K,r=.bl id 6 0 l.length (l.length*6,false)∧Hp s0 s' n (ras K) [(id,.row 48 (Bc (K.map KQ.av)) false 0)]∧KOk K∧K.map KQ.f=l∧KFr K) RF rfl rfl rfl (by
     rw [hz0]
     cases l with
     | nil=>exact absurd rfl hne
     | cons f t=>rfl) ?_
 rw [hz0]
 have HE:=H.enter
 obtain ⟨r1,q1,d1,H1,n1,hr1⟩:=Vk HE l hne hll
 unfold fx at d1
 simp only [Ef,go_sem,AE,AA,AD,AC,KB_n,KB_x,Nat.reduceBEq,Nat.reduceAdd,Nat.reduceLT,Nat.reduceLeDiff,Nat.reduceEqDiff,reduceIte,Int.reduceEq,reduceCtorEq,fx,List.length_map,d1]
 refine CJ (fun x e q=>∃ (i:Nat) (v:AV) (K:List KQ),i+x=l.length∧RowQ s0 q s.en v l K∧(0 < i→Ad v=none)∧KOk K∧K.map KQ.f=l∧(∀ j f,i≤j→l[j]? = some f→K[j]? = some (M3 f))∧(∀ j p,j < i→K[j]? = some p→QW p.nm (p.f.names.map .s)∧QW p.a (p.f.kids.map iv))∧e.get 3=v∧e.get 8=fx l∧e.get 9=.i .i64 (l.length:Nat)∧e.get 10=.i .i64 (i:Nat)) ?_ l.length _ _ ?_
 · rintro x e q ⟨i,v,K,hix,hro,hiv,hK,hKf,hKb,hFr,g3,g8,g9,g10⟩
   by_cases h:i < l.length
   · have h1:((i:Int) < (l.length:Int))=True:=eq_true (by omega)
     obtain ⟨f,hf⟩:∃ f,l[i]? = some f:=⟨_,List.getElem?_eq_getElem h⟩
     have hfo:=ho.ok f (List.mem_of_getElem? hf)
     have hg2:=G9 hf
     have hw1:=Af (show i+1 < 2^63 by omega)
     have hlt:(i < l.length)=True:=by simp [h]
     have hKi:=hKb i f (Nat.le_refl _) hf
     have hlK:K.length=l.length:=by rw [← hKf,List.length_map]
     obtain ⟨q2,d2,id,q3,d3,H3⟩:=hro.thaw f
     generalize hb:q.nb=b at d2 H3
     obtain ⟨ra,q4,d4,H4,n4,fr4⟩:=YL H3 f.names (by have:=hfo.nlen; omega)
     obtain ⟨H4c,ok4⟩:=H4.cr
     obtain ⟨rb,q5,d6,H5,n5,fr5⟩:=WI H4c f.kids (by have:=hfo.klen; omega)
     obtain ⟨H5c,ok5⟩:=H5.cr
     have l2:=H3.ld 1 (off:=2) (v:=tx f.names) rfl rfl
     have l3a:=H3.ld 1 (off:=3) (v:=zx f.kids) rfl rfl
     have l3b:=H4.ld 1 (off:=3) (v:=zx f.kids) rfl rfl
     have hfl:=J3 K
     obtain ⟨q6,d8,H6⟩:=H5c.stR 0 (off:=i*6+2) (v:=ra) rfl (by rw [hfl,hlK]; omega) (QX ok4)
     have e6:(M3 f).cells.set 2 ra=(⟨f,ra,zx f.kids⟩:KQ).cells:=rfl
     rw [Lv hKi (by omega) e6] at H6
     have hK1:(K.set i ⟨f,ra,zx f.kids⟩)[i]? = some ⟨f,ra,zx f.kids⟩:=by rw [List.getElem?_set,if_pos rfl,if_pos (by omega)]
     obtain ⟨q7,d9,H7⟩:=H6.stR 0 (off:=i*6+3) (v:=rb) rfl (by rw [J3,List.length_set,hlK]; omega) (QX ok5)
     have e7:(⟨f,ra,zx f.kids⟩:KQ).cells.set 3 rb=(⟨f,ra,rb⟩:KQ).cells:=rfl
     have hss:(K.set i ⟨f,ra,zx f.kids⟩).set i ⟨f,ra,rb⟩=K.set i ⟨f,ra,rb⟩:=List.set_set ..
     rw [Lv hK1 (by omega) e7,hss] at H7
     have hperm:(cr 3 rb (f.kids.map iv)++(cr 9 ra (f.names.map .s)++ras K)).Perm (ras (K.set i ⟨f,ra,rb⟩)):=by
      refine .trans ?_ (WH hKi (g:=⟨f,ra,rb⟩)).symm
      have h0:=Sx hKi
      have hb0:(M3 f).ras=[]:=rfl
      rw [hb0,List.nil_append] at h0
      rw [← List.append_assoc]
      exact (List.perm_append_comm).append h0
     have H8:Hp s0 q7 s.en (ras (K.set i ⟨f,ra,rb⟩)) [(id,.row 48 (Bc ((K.set i ⟨f,ra,rb⟩).map KQ.av)) false 0)]:=(H7.perm hperm (.refl _)).sel (List.range _) [0] List.nodup_range (by simp) |> fun h=>by rw [Ej] at h; exact h
     have hst:=Xz f.kids
     unfold zx at l3a l3b d6 hst
     unfold tx at l2 d4
     simp only [go_sem,AE,AA,AD,AC,KB_n,KB_x,Nat.reduceBEq,Nat.reduceAdd,Nat.reduceLT,Nat.reduceLeDiff,Nat.reduceEqDiff,reduceIte,Int.reduceEq,reduceCtorEq,g3,g8,g9,g10,fx,h1,AH,hg2,Bh,Dz,Aw,d2,hb,d3]
     refine VZ rfl ?_
     simp only [go_sem,AE,AA,AD,AC,KB_n,KB_x,Nat.reduceBEq,Nat.reduceAdd,Nat.reduceLT,Nat.reduceLeDiff,Nat.reduceEqDiff,reduceIte,Int.reduceEq,reduceCtorEq,l2,d4,l3b,d6,AH,hlt,Nat.zero_add,d8,d9]
     refine aL rfl ?_ hst ⟨⟨_,rfl,l3b⟩,⟨_,rfl,l3a⟩,⟨_,rfl,l3b⟩,⟨_,rfl,l3b⟩,trivial⟩ (Vb ?_)
     · simp only [go_sem,AE,AA,AD,AC,KB_n,KB_x,Nat.reduceBEq,Nat.reduceAdd,Nat.reduceLT,Nat.reduceLeDiff,Nat.reduceEqDiff,reduceIte,Int.reduceEq,reduceCtorEq]
     simp only [go_sem,AE,AA,AD,AC,KB_n,KB_x,Nat.reduceBEq,Nat.reduceAdd,Nat.reduceLT,Nat.reduceLeDiff,Nat.reduceEqDiff,reduceIte,Int.reduceEq,reduceCtorEq,g8,g9,g10,fx,hw1]
     refine ⟨x - 1,by omega,i+1,_,_,by omega,.inr ⟨id,rfl,H8⟩,fun _=>rfl,hK.set ⟨ok4,ok5⟩,?_,?_,?_,rfl,rfl⟩
     · rw [List.map_set,hKf]; exact Jz hf
     · intro j g hij hg
       rw [List.getElem?_set,if_neg (by omega)]
       exact hKb j g (by omega) hg
     · intro j p hji hp
       rw [List.getElem?_set] at hp
       by_cases hij:i=j
       · rw [if_pos hij,if_pos (by omega)] at hp
         cases hp; exact ⟨fr4,fr5⟩
       · rw [if_neg hij] at hp
         exact hFr j p (by omega) hp
   · have h1:((i:Int) < (l.length:Int))=False:=eq_false (by omega)
     simp only [go_sem,AE,AA,AD,AC,KB_n,KB_x,Nat.reduceBEq,Nat.reduceAdd,Nat.reduceLT,Nat.reduceLeDiff,Nat.reduceEqDiff,reduceIte,Int.reduceEq,reduceCtorEq,g3,g8,g9,g10,h1,KK_n,KK_r]
     rcases hro with ⟨_,hv,_⟩ | ⟨id,rfl,H9⟩
     · exact absurd (hiv (by omega)) hv
     · refine ⟨id,K,rfl,H.back H9,hK,hKf,fun p hp=>?_⟩
       obtain ⟨j,hj,rfl⟩:=List.mem_iff_getElem.1 hp
       exact hFr j _ (by rw [← hKf,List.length_map] at h; omega) (List.getElem?_eq_getElem hj)
 · simp only [go_sem,AE,AA,AD,AC,KB_n,KB_x,Nat.reduceBEq,Nat.reduceAdd,Nat.reduceLT,Nat.reduceLeDiff,Nat.reduceEqDiff,reduceIte,Int.reduceEq,reduceCtorEq]
   refine ⟨0,r1,l.map M3,by omega,.inl ⟨?_,hr1,rfl⟩,fun h=>absurd h (by omega),YJ l,base_f l,?_,fun j p h=>absurd h (by omega),rfl,rfl,rfl⟩
   · rw [Sw]; exact H1
   · intro j f _ hf
     rw [List.getElem?_map,hf]; rfl

def TOk (K:List KQ):Prop:=∀ p∈K,BR 1 p.nm (p.f.names.map .s)∧BR 1 p.a (p.f.kids.map iv)
theorem TOk.kok {K:List KQ} (h:TOk K):KOk K:=fun p hp=>⟨fun _=>(h p hp).1,fun _=>(h p hp).2⟩
theorem TOk.all {K:List KQ} (h:TOk K):Ar 6 (K.map KQ.av)=true:=by
 have hk:=h.kok.cells
 generalize K.map KQ.av=xs at hk
 induction xs with
 | nil=>rfl
 | cons x xs ih =>
   obtain ⟨h1,h2⟩:=hk x (by simp)
   rw [Ar,ih fun y hy=>hk y (by simp [hy])]
   simp [h1,h2]
theorem WJ:∀ L:List Int,wkM .id (L.map iv)=L.map iv
 | []=>rfl
 | x::L=>by rw [List.map_cons,wkM,WJ L,wk]
theorem TOk.wk {K:List KQ} (h:TOk K):wkM (.agg [.id,.id,.sl 1 .id,.sl 1 .id,.id,.id]) (K.map KQ.av)=(K.map KQ.f).map FT.av:=by
 induction K with
 | nil=>rfl
 | cons p K ih =>
   obtain ⟨h1,h2⟩:=h p (by simp)
   rw [List.map_cons,wkM,ih fun q hq=>h q (by simp [hq]),List.map_cons,List.map_cons]
   congr 1
   show Am.wk _ (.agg p.cells)=_
   simp only [KQ.cells,Am.wk,wkZ,h1.wk (NM _),h2.wk (WJ _)]
   rfl
theorem TOk.refs {K:List KQ} (h:TOk K):AV.refs.go (K.map KQ.av)=false:=by
 induction K with
 | nil=>rfl
 | cons p K ih =>
   obtain ⟨h1,h2⟩:=h p (by simp)
   rw [List.map_cons,AV.refs.go,ih fun q hq=>h q (by simp [hq]),Bool.or_false]
   show AV.refs (.agg p.cells)=false
   have e1:p.nm.refs=false:=h1.refs (Ev _)
   have e2:p.a.refs=false:=h2.refs (HQ _)
   simp only [KQ.cells,AV.refs,AV.refs.go,e1,e2,Bool.or_self]
theorem Y0 {a:AV} {xs:List AV} (h:Cok a xs) (ht:(Ad a).isSome=false):BR 1 a xs:=h (by cases hr:Ad a with
 | none=>rfl
 | some k=>rw [hr] at ht; cases ht)
def tokB:AV→Bool
 | .sl _ _ (.tok _ _)=>true
 | _=>false
theorem Sy (a:AV):tokB a=(Ad a).isSome:=by
 unfold tokB Ad
 split
 · rfl
 · rename_i hne
   split
   · exact absurd rfl (hne _ _ _ _)
   · rfl
theorem Rh (p:KQ):Qr (.agg p.cells)=((Ad p.nm).isSome||(Ad p.a).isSome):=by
 show p.cells.any tokB=_
 have h:p.cells.any tokB=(false||(false||(tokB p.nm||(tokB p.a||(false||(false||false)))))):=rfl
 rw [h,Sy,Sy]
 simp
theorem WK {K:List KQ} (hK:KOk K) (ht:(K.map KQ.av).any Qr=false):TOk K:=by
 intro p hp
 rw [List.any_eq_false] at ht
 have h:=ht p.av (List.mem_map.2 ⟨p,hp,rfl⟩)
 have h2:Qr (.agg p.cells)=false:=by
  cases hc:Qr (.agg p.cells)
  · rfl
  · exact absurd hc h
 rw [Rh,Bool.or_eq_false_iff] at h2
 exact ⟨Y0 (hK p hp).1 h2.1,Y0 (hK p hp).2 h2.2⟩
section
variable {s0 s:St} {n:En} {R:List RA} {B:List (Nat×Box)}
theorem Y1 {T:Nat} {a:AV} {xs:List AV} (H:Hp s0 s n (cr T a xs++R) B) (hc:Cok a xs):∃ a' s',Am.pub s a=some (a',s')∧BR 1 a' xs∧Hp s0 s' n R B:=by
 cases hr:Ad a with
 | none =>
   rw [M4 hr] at H
   exact ⟨a,s,(hc hr).pub s,hc hr,H⟩
 | some k =>
   have he:cr T a xs=[⟨1,T,a,xs,true⟩]:=by unfold cr; rw [hr]
   rw [he] at H
   obtain ⟨a',s',d,t,H',_⟩:=H.pub 0 rfl
   exact ⟨a',s',d,t,H'.dropR⟩
theorem WL:∀ (K:List KQ) {s:St},Hp s0 s n (ras K) B→KOk K→∃ K' s',LU s (K.map KQ.av)=some (K'.map KQ.av,s')∧Hp s0 s' n [] B∧K'.map KQ.f=K.map KQ.f∧TOk K'
 | [],s,H,_=>⟨[],s,rfl,H,rfl,fun p hp=>by simp at hp⟩
 | p :: K,s,H,hK=>by
   have H0:Hp s0 s n (cr 9 p.nm (p.f.names.map .s)++(cr 3 p.a (p.f.kids.map iv)++ras K)) B:=by
    rw [← List.append_assoc]; exact H
   have hp:=hK p (by simp)
   obtain ⟨b',s1,d1,t1,H1⟩:=Y1 H0 hp.1
   obtain ⟨a',s2,d2,t2,H2⟩:=Y1 H1 hp.2
   obtain ⟨K',s3,d3,H3,h3,h4⟩:=WL K H2 fun q hq=>hK q (by simp [hq])
   refine ⟨⟨p.f,b',a'⟩::K',s3,?_,H3,by simp [h3],?_⟩
   · have:pubL s p.cells=some ((⟨p.f,b',a'⟩:KQ).cells,s2):=by
      simp only [KQ.cells,pubL,Sa,Yn,d1,d2]
     rw [List.map_cons]
     show LU s (.agg p.cells::_)=_
     simp only [LU,this,d3]
     rfl
   · intro q hq
     rcases List.mem_cons.1 hq with rfl | hq
     · exact ⟨t1,t2⟩
     · exact h4 q hq
theorem Sz {id:Nat} {K:List KQ} (H:Hp s0 s n (ras K) ((id,.row 48 (Bc (K.map KQ.av)) false 0)::B)) (hK:KOk K) (p:Nat×Bool) :
    ∃ K' s',pubA s (.bl id 6 0 K.length p)=some (.sl 6 (K'.map KQ.av) .shut,s')∧Hp s0 s' n [] B∧K'.map KQ.f=K.map KQ.f∧TOk K':=by
 have hb:=(H.box (i:=0) rfl).1
 simp only at hb
 obtain ⟨h1,h2⟩:=Yx hK.cells
 rw [List.length_map] at h1
 have hc:cut (Bc (K.map KQ.av)) 0 (K.length*6)=some (Bc (K.map KQ.av)):=by
  unfold cut
  rw [List.drop_zero,List.take_of_length_le (by omega),if_pos h1]
 have hfz:frz s (.bl id 6 0 K.length p)=some (.sl 6 (K.map KQ.av) .shut,s.setBox id (.row 48 (Bc (K.map KQ.av)) true 0)):=by
  simp only [frz,hb,hc]
  rw [if_pos ⟨Nat.zero_le _,h2,by decide⟩,Yy]
 have H2:=H.setBox (i:=0) rfl (.row 48 (Bc (K.map KQ.av)) true 0)
 have hp:pubA s (.bl id 6 0 K.length p)=TN (some (.sl 6 (K.map KQ.av) .shut,s.setBox id (.row 48 (Bc (K.map KQ.av)) true 0))):=by
  rw [← hfz]; rfl
 rw [hp]
 cases ht:(K.map KQ.av).any Qr with
 | false=>exact ⟨K,_,by simp only [TN,ht]; rfl,(H2.sel [] (List.range' 1 B.length) (by simp) List.nodup_range') |> fun h=>by rw [show ((id,Box.row 48 (Bc (K.map KQ.av)) false 0)::B).set 0 (id,.row 48 (Bc (K.map KQ.av)) true 0)=(id,.row 48 (Bc (K.map KQ.av)) true 0)::B from rfl,MC] at h; exact h,rfl,WK hK ht⟩
 | true =>
   obtain ⟨K',s',d,H3,h3,h4⟩:=WL K H2 hK
   refine ⟨K',s',?_,Hp.dropB H3,h3,h4⟩
   simp only [TN,ht,d,h4.all,if_true]
end
def RowB (s0 s:St) (n:En) (id:Nat) (l:List FT):Prop:=∃ K,Hp s0 s n (ras K) [(id,.row 48 (Bc (K.map KQ.av)) false 0)]∧KOk K∧K.map KQ.f=l
theorem S0 {K:List KQ} {i:Nat} {p:KQ} (h:K[i]? = some p) {g:FT} (hn:g.names=p.f.names) (hk:g.kids=p.f.kids):ras (K.set i ⟨g,p.nm,p.a⟩)=ras K:=by
 induction K generalizing i with
 | nil=>simp at h
 | cons q K ih =>
   cases i with
   | zero =>
     simp only [List.getElem?_cons_zero,Option.some.injEq] at h
     subst h
     show (⟨g,q.nm,q.a⟩:KQ).ras++ras K=q.ras++ras K
     unfold KQ.ras
     rw [hn,hk]
   | succ i =>
     show q.ras++ras (K.set i ⟨g,p.nm,p.a⟩)=q.ras++ras K
     rw [ih (by simpa using h)]
theorem PB {K:List KQ} {i:Nat} {p:KQ} (h:K[i]? = some p) {g:FT} (hn:g.names=p.f.names) (hk:g.kids=p.f.kids):∀ r∈ras (K.set i ⟨g,p.nm,p.a⟩),r∈ras K:=fun r hr=>by rw [S0 h hn hk] at hr; exact hr
theorem WM {s0 s s1:St} {n:En} {id:Nat} {K K':List KQ} {X X':Box} (H:Hp s0 s n (ras K) [(id,X)]) (H':Hp s0 s1 s.en (ras K') [(id,X')]) (hsub:∀ r∈ras K',r∈ras K) (v:AV):Hp s0 (Am.leave s s1 v) n (ras K') [(id,X')]:=by
 have hid:=(H.box (i:=0) rfl).2.2
 refine H.leave (n1:=s.en) H' v (fun {i p} hp=>?_) (.inr fun {i r k} hr hk=>?_)
 · cases i with
   | zero =>
     simp only [List.getElem?_cons_zero,Option.some.injEq] at hp
     subst hp; exact hid
   | succ i=>simp at hp
 · obtain ⟨j,hj,rfl⟩:=List.mem_iff_getElem.1 (hsub r (List.mem_of_getElem? hr))
   exact (H.rows (List.getElem?_eq_getElem hj)).tok_lt hk
theorem stK {s0 s:St} {n:En} {id:Nat} {K:List KQ} (H:Hp s0 s n (ras K) [(id,.row 48 (Bc (K.map KQ.av)) false 0)]) {i j:Nat} {p:KQ} {g:FT} (hp:K[i]? = some p) (hj:j < 6) {v:AV} (hv:v.cells=[v]∧ones [v]=true) (hn:g.names=p.f.names) (hk:g.kids=p.f.kids) (hc:p.cells.set j v=(⟨g,p.nm,p.a⟩:KQ).cells) :
    ∃ s',stA s 1 (.p id (i*6+j)) v=some s'∧Hp s0 s' n (ras (K.set i ⟨g,p.nm,p.a⟩)) [(id,.row 48 (Bc ((K.set i ⟨g,p.nm,p.a⟩).map KQ.av)) false 0)]:=by
 have hil:=(List.getElem?_eq_some_iff.1 hp).1
 obtain ⟨s',d,H'⟩:=H.stR 0 (off:=i*6+j) (v:=v) rfl (by rw [J3]; omega) hv
 rw [Lv hp hj hc] at H'
 rw [S0 hp hn hk]
 exact ⟨s',d,H'⟩
theorem KOk.setF {K:List KQ} (h:KOk K) {i:Nat} {p:KQ} (hp:K[i]? = some p) {g:FT} (hn:g.names=p.f.names) (hk:g.kids=p.f.kids):KOk (K.set i ⟨g,p.nm,p.a⟩):=h.set (by
 have:=h p (List.mem_of_getElem? hp)
 unfold KQ.ok at this ⊢
 rw [hn,hk]; exact this)
theorem YM {K:List KQ} {l:List FT} (hl:K.map KQ.f=l) {i:Nat} {f:FT} (hf:l[i]? = some f):∃ p,K[i]? = some p∧p.f=f:=by
 subst hl
 rw [List.getElem?_map] at hf
 cases hp:K[i]? with
 | none=>rw [hp] at hf; cases hf
 | some p=>rw [hp] at hf; exact ⟨p,rfl,Option.some.inj hf⟩
theorem set_get {α:Type} {K:List α} {i:Nat} {p:α} (h:K[i]? = some p) (g:α):(K.set i g)[i]? = some g:=by
 rw [List.getElem?_set,if_pos rfl,if_pos (List.getElem?_eq_some_iff.1 h).1]
theorem WN {s0 s:St} {n:En} {id:Nat} {l:List FT} (h:RowB s0 s n id l) {i:Nat} {f:FT} (hf:l[i]? = some f) :
    ∃ s',Di (lim prog) (.fn Dp []) [.p id (i*6)] s=some (.tup [],s')∧RowB s0 s' n id (l.set i { f with rest:=1,beside:=0 }):=by
 obtain ⟨r,s',hc,rfl,hP⟩:=fn_G (f:=Dp) (args:=[.p id (i*6)]) (s:=s) (Post:=fun r s'=>r=.tup []∧RowB s0 s' n id (l.set i { f with rest:=1,beside:=0 })) Mj rfl rfl (by
  obtain ⟨K,H,hK,hl⟩:=h
  obtain ⟨p,hp,rfl⟩:=YM hl hf
  obtain ⟨q1,d1,H1⟩:=stK H.enter hp (j:=4) (g:={ p.f with rest:=1 }) (v:=.i .i64 1) (by omega) ⟨rfl,rfl⟩ rfl rfl rfl
  obtain ⟨q2,d2,H2⟩:=stK H1 (set_get hp _) (j:=5) (g:={ p.f with rest:=1,beside:=0 }) (v:=.i .i64 0) (by omega) ⟨rfl,rfl⟩ rfl rfl rfl
  rw [List.set_set] at H2
  simp only [Dw,go_sem,AE,AA,AD,AC,KB_n,KB_x,Nat.reduceBEq,Nat.reduceAdd,Nat.reduceLT,Nat.reduceLeDiff,Nat.reduceEqDiff,reduceIte,Int.reduceEq,reduceCtorEq,d1,d2]
  refine ⟨_,_,rfl,rfl,_,WM H H2 (PB hp rfl rfl) _,hK.setF hp rfl rfl,?_⟩
  rw [List.map_set,hl])
 exact ⟨s',hc,hP⟩
theorem aq {s0 s:St} {n:En} {R:List RA} {B:List (Nat×Box)} {T:Nat} {a:AV} {xs:List AV} (H:Hp s0 s n (cr T a xs++R) B) (hc:Cok a xs) (q:St):lenA q 1 a=some (.i .i64 (xs.length:Nat))∧ldR q (some a)=some (a,q):=by
 rcases H.crShape hc with h | ⟨k,v,rfl,_⟩
 · refine ⟨h.len q,?_⟩
   rcases h with ⟨rfl,_⟩ | ⟨rfl,_⟩ | rfl | rfl | rfl | rfl<;>rfl
 · exact ⟨rfl,rfl⟩
theorem ar {s0 s:St} {n:En} {K:List KQ} {B:List (Nat×Box)} (H:Hp s0 s n (ras K) B) {i:Nat} {p:KQ} (hp:K[i]? = some p):Hp s0 s n (cr 9 p.nm (p.f.names.map .s)++(cr 3 p.a (p.f.kids.map iv)++ras (K.eraseIdx i))) B:=by
 rw [← List.append_assoc]
 exact H.perm (Sx hp) (.refl _)
theorem YN {s0 s:St} {n:En} {id:Nat} {l:List FT} (h:RowB s0 s n id l) {i:Nat} {f:FT} (hf:l[i]? = some f) :
    ∃ s',Di (lim prog) (.fn EW []) [.p id (i*6)] s=some (.tup [],s')∧RowB s0 s' n id (l.set i { f with rest:=2,beside:=(f.names.length:Int) }):=by
 obtain ⟨r,s',hc,rfl,hP⟩:=fn_G (f:=EW) (args:=[.p id (i*6)]) (s:=s) (Post:=fun r s'=>r=.tup []∧RowB s0 s' n id (l.set i { f with rest:=2,beside:=(f.names.length:Int) })) NU rfl rfl (by
  obtain ⟨K,H,hK,hl⟩:=h
  obtain ⟨p,hp,rfl⟩:=YM hl hf
  obtain ⟨hln,hpu⟩:=aq (ar H.enter hp) (hK p (List.mem_of_getElem? hp)).1 s.enter
  rw [List.length_map] at hln
  have la:=H.enter.ldR 0 (off:=i*6+2) (v:=p.nm) rfl (HI hp rfl)
  obtain ⟨q1,d1,H1⟩:=stK H.enter hp (j:=4) (g:={ p.f with rest:=2 }) (v:=.i .i64 2) (by omega) ⟨rfl,rfl⟩ rfl rfl rfl
  obtain ⟨q2,d2,H2⟩:=stK H1 (set_get hp _) (j:=5) (g:={ p.f with rest:=2,beside:=(p.f.names.length:Int) }) (v:=.i .i64 (p.f.names.length:Nat)) (by omega) ⟨rfl,rfl⟩ rfl rfl rfl
  rw [List.set_set] at H2
  simp only [EZ,go_sem,AE,AA,AD,AC,KB_n,KB_x,Nat.reduceBEq,Nat.reduceAdd,Nat.reduceLT,Nat.reduceLeDiff,Nat.reduceEqDiff,reduceIte,Int.reduceEq,reduceCtorEq,la,hpu,hln,d1,d2]
  refine ⟨_,_,rfl,rfl,_,WM H H2 (PB hp rfl rfl) _,hK.setF hp rfl rfl,?_⟩
  rw [List.map_set,hl])
 exact ⟨s',hc,hP⟩
theorem YO {s0 s:St} {n:En} {id:Nat} {l:List FT} (h:RowB s0 s n id l) {i:Nat} {f:FT} (hf:l[i]? = some f) {kb kind:Nat} (hk:s0.box? kb=some (.cells 5 [.i .u8 (kind:Nat)])) (lk:kb < s0.nb) :
    ∃ s',Di (lim prog) (.fn ET [.p kb 0]) [.p id (i*6)] s=some (.tup [],s')∧RowB s0 s' n id (l.set i { f with known:=true,kind:=kind }):=by
 obtain ⟨r,s',hc,rfl,hP⟩:=fn_G (f:=ET) (args:=[.p id (i*6),.p kb 0]) (s:=s) (Post:=fun r s'=>r=.tup []∧RowB s0 s' n id (l.set i { f with known:=true,kind:=kind })) NS rfl rfl (by
  obtain ⟨K,H,hK,hl⟩:=h
  obtain ⟨p,hp,rfl⟩:=YM hl hf
  have HE:=H.enter
  obtain ⟨q1,d1,H1⟩:=stK H.enter hp (j:=0) (g:={ p.f with known:=true }) (v:=.b true) (by omega) ⟨rfl,rfl⟩ rfl rfl rfl
  obtain ⟨q2,d2,H2⟩:=stK H1 (set_get hp _) (j:=1) (g:={ p.f with known:=true,kind:=kind }) (v:=.i .u8 (kind:Nat)) (by omega) ⟨rfl,rfl⟩ rfl rfl rfl
  rw [List.set_set] at H2
  have l0:=Fs HE.over (off:=0) (v:=.i .u8 (kind:Nat)) lk hk rfl
  have l1:=Fs H1.over (off:=0) (v:=.i .u8 (kind:Nat)) lk hk rfl
  simp only [EY,go_sem,AE,AA,AD,AC,KB_n,KB_x,Nat.reduceBEq,Nat.reduceAdd,Nat.reduceLT,Nat.reduceLeDiff,Nat.reduceEqDiff,reduceIte,Int.reduceEq,reduceCtorEq]
  refine VZ rfl ?_
  simp only [Nat.add_zero] at d1
  simp only [go_sem,AE,AA,AD,AC,KB_n,KB_x,Nat.reduceBEq,Nat.reduceAdd,Nat.reduceLT,Nat.reduceLeDiff,Nat.reduceEqDiff,reduceIte,Int.reduceEq,reduceCtorEq,l0,d1,d2,Nat.add_zero]
  refine aL rfl ?_ (aM _ _) ⟨⟨_,rfl,l0⟩,⟨_,rfl,l0⟩,⟨_,rfl,l0⟩,⟨_,rfl,l0⟩,⟨_,rfl,l0⟩,⟨_,rfl,l1⟩,trivial⟩ (Vb ?_)
  · simp only [go_sem,AE,AA,AD,AC,KB_n,KB_x,Nat.reduceBEq,Nat.reduceAdd,Nat.reduceLT,Nat.reduceLeDiff,Nat.reduceEqDiff,reduceIte,Int.reduceEq,reduceCtorEq]
  simp only [go_sem,AE,AA,AD,AC,KB_n,KB_x,Nat.reduceBEq,Nat.reduceAdd,Nat.reduceLT,Nat.reduceLeDiff,Nat.reduceEqDiff,reduceIte,Int.reduceEq,reduceCtorEq]
  refine ⟨_,_,rfl,rfl,_,WM H H2 (PB hp rfl rfl) _,hK.setF hp rfl rfl,?_⟩
  rw [List.map_set,hl])
 exact ⟨s',hc,hP⟩
end Go.Proofs.YtgloinighjdhlaaGreat

namespace Go.Proofs.YtgloinighjdhlaaGreat
open Go.Proofs.YtgloinighjdhlaaGreat.Am
attribute [local irreducible] W WO WE WQ WD Tr.get Tr.set
def Vm (kind:Nat) (f:FT):Int:=if f.known then 6 else if 3 < kind then 1 else 0
def Vn (f:FT):Int:=if f.isDir then (if f.rest=1 then 6 else 0) else 1
def QI (l:List FT) (f:FT):Int:=if f.isDir then (if f.rest=1 then 6 else if f.rest=2∧I0 l f=false then 67 else 0) else 1
theorem X3 {kind:Nat} {q:St} (hw:Wf q) {b:Nat} (hb:q.box? b=some (.cells 5 [.i .u8 (kind:Nat)])) (lb:b < q.nb) (f:FT) :
    Di (lim prog) (.fn ES [.p b 0]) [.agg f.cells] q=some (.i .i64 (Vm kind f),q):=by
 show (lim prog).call ES [.agg f.cells,.p b 0] q=_
 refine fn_W NR rfl rfl ?_
 have hz0:wkZ CH.cin [.agg f.cells,.p b 0]=[.agg f.cells,.p b 0]:=by
  have:=QC f
  simp only [CH,wkZ,wk] at this ⊢
  rw [this]
 rw [hz0]
 have H1:=(Hp.begin hw).new (.cells 48 f.cells)
 generalize hq:q.enter.new (.cells 48 f.cells)=q1 at H1
 generalize hm:q.enter.nb=m at H1
 have l0:=H1.ld 0 (off:=0) (v:=.b f.known) rfl rfl
 have lb0:=Fs H1.over (off:=0) (v:=.i .u8 (kind:Nat)) lb hb rfl
 have hbr:∀ z,KR q [.id] (.i .i64 z) (some ([.i .i64 z],q1)):=fun z=>AK H1.over rfl rfl
 unfold Vm
 cases hk:f.known
 · rw [hk] at l0
   rw [if_neg (by simp)]
   by_cases k3:3 < kind
   · have e1:((3:Int) < (kind:Int))=True:=eq_true (by omega)
     rw [if_pos k3]
     simp only [CH,go_sem,AE,AA,AD,AC,KB_n,KB_x,Nat.reduceBEq,Nat.reduceAdd,Nat.reduceLT,Nat.reduceLeDiff,Nat.reduceEqDiff,reduceIte,Int.reduceEq,reduceCtorEq,DD,hq,hm,l0,lb0,Nat.zero_add,e1]
     exact hbr _
   · have e1:((3:Int) < (kind:Int))=False:=eq_false (by omega)
     rw [if_neg k3]
     simp only [CH,go_sem,AE,AA,AD,AC,KB_n,KB_x,Nat.reduceBEq,Nat.reduceAdd,Nat.reduceLT,Nat.reduceLeDiff,Nat.reduceEqDiff,reduceIte,Int.reduceEq,reduceCtorEq,DD,hq,hm,l0,lb0,Nat.zero_add,e1]
     exact hbr _
 · rw [hk] at l0
   rw [if_pos rfl]
   simp only [CH,go_sem,AE,AA,AD,AC,KB_n,KB_x,Nat.reduceBEq,Nat.reduceAdd,Nat.reduceLT,Nat.reduceLeDiff,Nat.reduceEqDiff,reduceIte,Int.reduceEq,reduceCtorEq,DD,hq,hm,l0,Nat.zero_add]
   exact hbr _
theorem X4 {q:St} (hw:Wf q) (f:FT):Di (lim prog) (.fn EU []) [.agg f.cells] q=some (.i .i64 (Vn f),q):=by
 show (lim prog).call EU [.agg f.cells] q=_
 refine fn_W NT rfl rfl ?_
 have hz0:wkZ CI.cin [.agg f.cells]=[.agg f.cells]:=by
  have:=QC f
  simp only [CI,wkZ,wk] at this ⊢
  rw [this]
 rw [hz0]
 have H1:=(Hp.begin hw).new (.cells 48 f.cells)
 generalize hq:q.enter.new (.cells 48 f.cells)=q1 at H1
 generalize hm:q.enter.nb=m at H1
 have l4:=H1.ld 0 (off:=4) (v:=.i .i64 f.rest) rfl rfl
 have lw:=H1.ldw (m:=6) 0 rfl rfl
 have hd:=JN f q1 H1.wf
 have hbr:∀ z,KR q [.id] (.i .i64 z) (some ([.i .i64 z],q1)):=fun z=>AK H1.over rfl rfl
 unfold Vn
 cases hi:f.isDir
 · rw [hi] at hd
   simp only [CI,go_sem,AE,AA,AD,AC,KB_n,KB_x,Nat.reduceBEq,Nat.reduceAdd,Nat.reduceLT,Nat.reduceLeDiff,Nat.reduceEqDiff,reduceIte,Int.reduceEq,reduceCtorEq,DD,hq,hm,l4,lw,Aw,hd,Nat.zero_add]
   exact hbr _
 · rw [hi] at hd
   rw [if_pos rfl]
   by_cases r1:f.rest=1
   · have e1:(f.rest=1)=True:=by simp [r1]
     rw [if_pos r1]
     simp only [CI,go_sem,AE,AA,AD,AC,KB_n,KB_x,Nat.reduceBEq,Nat.reduceAdd,Nat.reduceLT,Nat.reduceLeDiff,Nat.reduceEqDiff,reduceIte,Int.reduceEq,reduceCtorEq,DD,hq,hm,l4,lw,Aw,hd,Nat.zero_add,e1]
     exact hbr _
   · have e1:(f.rest=1)=False:=by simp [r1]
     rw [if_neg r1]
     simp only [CI,go_sem,AE,AA,AD,AC,KB_n,KB_x,Nat.reduceBEq,Nat.reduceAdd,Nat.reduceLT,Nat.reduceLeDiff,Nat.reduceEqDiff,reduceIte,Int.reduceEq,reduceCtorEq,DD,hq,hm,l4,lw,Aw,hd,Nat.zero_add,e1]
     exact hbr _
theorem Vo {l:List FT} (hmay:mayP l=true) {i:Nat} {f:FT} (hf:l[i]? = some f) (hfo:f.Ok) {q:St} (hw:Wf q) {b:Nat} (hb:q.box? b=some (.cells 22 [fx l])) (lb:b < q.nb) :
    Di (lim prog) (.fn Dn [.p b 0]) [.agg f.cells] q=some (.i .i64 (QI l f),q):=by
 show (lim prog).call Dn [.agg f.cells,.p b 0] q=_
 refine fn_W Mi rfl rfl ?_
 have hz0:wkZ BL.cin [.agg f.cells,.p b 0]=[.agg f.cells,.p b 0]:=by
  have:=QC f
  simp only [BL,wkZ,wk] at this ⊢
  rw [this]
 rw [hz0]
 have H1:=(Hp.begin hw).new (.cells 48 f.cells)
 generalize hq:q.enter.new (.cells 48 f.cells)=q1 at H1
 generalize hm:q.enter.nb=m at H1
 have l4:=H1.ld 0 (off:=4) (v:=.i .i64 f.rest) rfl rfl
 have lw:=H1.ldw (m:=6) 0 rfl rfl
 have lb0:=Fs H1.over (off:=0) (v:=fx l) lb hb rfl
 have hd:=JN f q1 H1.wf
 have hbr:∀ z,KR q [.id] (.i .i64 z) (some ([.i .i64 z],q1)):=fun z=>AK H1.over rfl rfl
 unfold QI
 cases hi:f.isDir
 · rw [hi] at hd
   simp only [BL,go_sem,AE,AA,AD,AC,KB_n,KB_x,Nat.reduceBEq,Nat.reduceAdd,Nat.reduceLT,Nat.reduceLeDiff,Nat.reduceEqDiff,reduceIte,Int.reduceEq,reduceCtorEq,DD,hq,hm,l4,lw,Aw,hd,Nat.zero_add]
   exact hbr _
 · rw [hi] at hd
   rw [if_pos rfl]
   by_cases r1:f.rest=1
   · have e1:(f.rest=1)=True:=by simp [r1]
     rw [if_pos r1]
     simp only [BL,go_sem,AE,AA,AD,AC,KB_n,KB_x,Nat.reduceBEq,Nat.reduceAdd,Nat.reduceLT,Nat.reduceLeDiff,Nat.reduceEqDiff,reduceIte,Int.reduceEq,reduceCtorEq,DD,hq,hm,l4,lw,Aw,hd,Nat.zero_add,e1]
     exact hbr _
   · have e1:(f.rest=1)=False:=by simp [r1]
     rw [if_neg r1]
     by_cases r2:f.rest=2
     · have e2:(f.rest=2)=True:=by simp [r2]
       obtain ⟨b0,b1⟩:=Xy (O3 hmay (List.mem_of_getElem? hf)) hi r2
       have ht:=X2 hmay hf hfo b0 b1 q1 H1.wf
       unfold fx at lb0 ht
       cases htp:I0 l f
       · rw [htp] at ht
         rw [if_pos ⟨r2,rfl⟩]
         simp only [BL,go_sem,AE,AA,AD,AC,KB_n,KB_x,Nat.reduceBEq,Nat.reduceAdd,Nat.reduceLT,Nat.reduceLeDiff,Nat.reduceEqDiff,reduceIte,Int.reduceEq,reduceCtorEq,DD,hq,hm,l4,lw,Aw,hd,Nat.zero_add,e1,e2,lb0,ht]
         exact hbr _
       · rw [htp] at ht
         rw [if_neg (by simp)]
         simp only [BL,go_sem,AE,AA,AD,AC,KB_n,KB_x,Nat.reduceBEq,Nat.reduceAdd,Nat.reduceLT,Nat.reduceLeDiff,Nat.reduceEqDiff,reduceIte,Int.reduceEq,reduceCtorEq,DD,hq,hm,l4,lw,Aw,hd,Nat.zero_add,e1,e2,lb0,ht]
         exact hbr _
     · have e2:(f.rest=2)=False:=by simp [r2]
       rw [if_neg (fun h=>r2 h.1)]
       simp only [BL,go_sem,AE,AA,AD,AC,KB_n,KB_x,Nat.reduceBEq,Nat.reduceAdd,Nat.reduceLT,Nat.reduceLeDiff,Nat.reduceEqDiff,reduceIte,Int.reduceEq,reduceCtorEq,DD,hq,hm,l4,lw,Aw,hd,Nat.zero_add,e1,e2]
       exact hbr _

def changeP (l:List FT) (n:Int) (W:FT→Int) (D:FT→FT):List FT×Int :=
 if C3 l n=0 then (match l[n.toNat]? with
  | some f=>if W f=0 then (l.set n.toNat (D f),0) else ([],W f)
  | none=>([],0)) else ([],C3 l n)
theorem M5 (l:List FT) (ho:FOk l) (n:Int) {w d:Nat} {wc dc:List AV} (wf:FT→Int) (df:FT→FT) {a0:AV} (ha0:BR 6 a0 (l.map FT.av)) {s:St} (hw:Wf s)
    (hwr:mayP l=true→∀ (i:Nat) (f:FT),l[i]? = some f→Di (lim prog) (.fn w wc) [.agg f.cells] s.enter=some (.i .i64 (wf f),s.enter))
    (hdo:∀ (q:St) (id i:Nat) (f:FT),l[i]? = some f→RowB s q s.en id l→∃ q',Di (lim prog) (.fn d dc) [.p id (i*6)] q=some (.tup [],q')∧RowB s q' s.en id (l.set i (df f))) :
    (lim prog).call Cc [a0,.i .i64 n,.fn w wc,.fn d dc] s=some (tupR (changeP l n wf df),s):=by
 refine fn_W Iz rfl rfl ?_
 have hz0:wkZ Aq.cin [a0,.i .i64 n,.fn w wc,.fn d dc]=[fx l,.i .i64 n,.fn w wc,.fn d dc]:=by
  simp only [Aq,wkZ,Ft ha0,wk]
 rw [hz0]
 have hno:∀ z:Int,KR s [.sl 6 (.agg [.id,.id,(.sl 1 .id),(.sl 1 .id),.id,.id]),.id] (tupR ([],z)) (some ([.nsl,.i .i64 z],s.enter)):=fun z=>KR_0 (Over.enter s) z
 have hm:=Ms l ho.ok ho.len ho.fl s.enter hw.enter
 unfold fx at hm
 unfold changeP
 by_cases hz:C3 l n=0
 · obtain ⟨hmay,i,f,rfl,hf⟩:=HB hz
   have hil:=(List.getElem?_eq_some_iff.1 hf).1
   have hg2:=G9 hf
   have hne:l≠[]:=by intro hh; subst hh; simp at hil
   rw [hmay] at hm
   have e1:((i:Int) < 0)=False:=eq_false (by omega)
   have e2:((l.length:Int)≤(i:Int))=False:=eq_false (by omega)
   have hwc:=hwr hmay i f hf
   rw [if_pos hz,Int.toNat_natCast,hf]
   show W _ _ _ _ (KF s _ _ (tupR (if wf f=0 then (l.set i (df f),0) else ([],wf f))))
   by_cases hW:wf f=0
   · have e3:((wf f)≠0)=False:=by simp [hW]
     rw [if_pos hW]
     obtain ⟨r,q1,d1,id,K1,rfl,H1,hK1,hl1,_⟩:=Yz (Hp.begin hw) l hne ho
     obtain ⟨q2,d2,K2,H2,hK2,hl2⟩:=hdo q1 id i f hf ⟨K1,H1,hK1,hl1⟩
     have hth:Fx q1 (.bl id 6 0 l.length (l.length*6,false))=some (.bl id 6 0 l.length (l.length*6,false),q1):=rfl
     have hlt:(i < l.length)=True:=by simp [hil]
     have hKl:K2.length=l.length:=by
      have:=congrArg List.length hl2
      rwa [List.length_map,List.length_set] at this
     obtain ⟨K3,q3,hpa,ov3,hl3,hK3⟩:=Sz H2 hK2 (l.length*6,false)
     rw [hKl] at hpa
     rw [hl2] at hl3
     unfold fx at d1
     simp only [Aq,go_sem,AE,AA,AD,AC,KB_n,KB_x,Nat.reduceBEq,Nat.reduceAdd,Nat.reduceLT,Nat.reduceLeDiff,Nat.reduceEqDiff,reduceIte,Int.reduceEq,reduceCtorEq,fx,List.length_map,hm,e1,e2,AH,hg2,Bh,Dz,Aw,hwc,e3,d1,hth,hlt,Nat.zero_add,d2,hpa]
     refine AK ov3.over ?_ ?_
     · simp only [Bj,AV.refs,AV.refs.go,hK3.refs]
       rfl
     · have hwk:=hK3.wk
       rw [hl3] at hwk
       simp only [Bj,wkZ,wk,hwk,tupR,fx]
       rfl
   · have e3:((wf f)≠0)=True:=by simp [hW]
     rw [if_neg hW]
     simp only [Aq,go_sem,AE,AA,AD,AC,KB_n,KB_x,Nat.reduceBEq,Nat.reduceAdd,Nat.reduceLT,Nat.reduceLeDiff,Nat.reduceEqDiff,reduceIte,Int.reduceEq,reduceCtorEq,fx,List.length_map,hm,e1,e2,AH,hg2,Bh,Dz,Aw,hwc,e3]
     exact hno _
 · rw [if_neg hz]
   unfold C3 at hz ⊢
   cases hmay:mayP l
   · rw [hmay] at hm
     simp only [Aq,go_sem,AE,AA,AD,AC,KB_n,KB_x,Nat.reduceBEq,Nat.reduceAdd,Nat.reduceLT,Nat.reduceLeDiff,Nat.reduceEqDiff,reduceIte,Int.reduceEq,reduceCtorEq,fx,List.length_map,hm]
     exact hno _
   · rw [hmay] at hm hz
     rw [if_pos rfl] at hz ⊢
     have hout:¬ (0≤n∧n < (l.length:Int)):=fun h=>hz (by rw [if_pos h])
     rw [if_neg hout]
     by_cases n1:n < 0
     · have e1:(n < 0)=True:=by simp [n1]
       simp only [Aq,go_sem,AE,AA,AD,AC,KB_n,KB_x,Nat.reduceBEq,Nat.reduceAdd,Nat.reduceLT,Nat.reduceLeDiff,Nat.reduceEqDiff,reduceIte,Int.reduceEq,reduceCtorEq,fx,List.length_map,hm,e1]
       exact hno _
     · have e1:(n < 0)=False:=by simp only [eq_iff_iff,iff_false]; exact n1
       have e2:((l.length:Int)≤n)=True:=eq_true (by omega)
       simp only [Aq,go_sem,AE,AA,AD,AC,KB_n,KB_x,Nat.reduceBEq,Nat.reduceAdd,Nat.reduceLT,Nat.reduceLeDiff,Nat.reduceEqDiff,reduceIte,Int.reduceEq,reduceCtorEq,fx,List.length_map,hm,e1,e2]
       exact hno _

theorem QJ {f:FT} (h:f.one=true) (hk:f.known=false):f.names=[]∧f.kids=[]∧f.rest=0∧f.beside=0:=by
 have hd:f.isDir=false:=by unfold FT.isDir; rw [hk]; rfl
 unfold FT.one at h
 rw [hd] at h
 simp only [Bool.false_eq_true,if_false,Bool.and_eq_true,Bool.not_eq_true',decide_eq_true_eq] at h
 obtain ⟨h1,h2,h3,h4⟩:=h
 unfold FT.bad at h1
 simp only [Bool.or_eq_false_iff,decide_eq_false_iff_not,Decidable.not_not] at h1
 have h5:=h1.2.2
 exact ⟨List.length_eq_zero_iff.1 h2,List.length_eq_zero_iff.1 (by omega),h3,h4⟩
theorem RM (l:List FT) (n:Int) (kind:Nat):changeP l n (Vm kind) (fun f=>{ f with known:=true,kind:=kind })=HC l n kind:=by
 unfold changeP HC
 by_cases hz:C3 l n=0
 · obtain ⟨hmay,i,f,rfl,hf⟩:=HB hz
   rw [if_pos hz,if_pos hz,Int.toNat_natCast,hf]
   simp only
   unfold Vm
   cases hk:f.known
   · obtain ⟨h1,h2,h3,h4⟩:=QJ (O3 hmay (List.mem_of_getElem? hf)) hk
     have:({ f with known:=true,kind:=kind }:FT)=⟨true,kind,[],[],0,0⟩:=by
      cases f
      simp only at h1 h2 h3 h4
      subst h1; subst h2; subst h3; subst h4
      rfl
     rw [this]
     by_cases k3:3 < kind<;>simp [k3]
   · simp
 · rw [if_neg hz,if_neg hz]
theorem Mt {l:List FT} {n:Int} (hz:C3 l n=0) {f:FT} (hf:l[n.toNat]? = some f):dirE l n=if f.isDir then 0 else 1:=by
 unfold dirE
 rw [if_pos hz,hf]
theorem RN (l:List FT) (n:Int):changeP l n Vn (fun f=>{ f with rest:=2,beside:=(f.names.length:Int) })=Dd l n:=by
 unfold changeP Dd
 by_cases hz:C3 l n=0
 · obtain ⟨hmay,i,f,rfl,hf⟩:=HB hz
   rw [Mt hz (by rw [Int.toNat_natCast]; exact hf),if_pos hz,Int.toNat_natCast,hf]
   simp only
   unfold Vn
   cases hi:f.isDir
   · simp
   · by_cases r1:f.rest=1<;>simp [r1]
 · have:dirE l n=C3 l n:=by unfold dirE; rw [if_neg hz]
   rw [this,if_neg hz,if_neg hz]
theorem QK (l:List FT) (n:Int):changeP l n (QI l) (fun f=>{ f with rest:=1,beside:=0 })=Fu l n:=by
 unfold changeP Fu
 by_cases hz:C3 l n=0
 · obtain ⟨hmay,i,f,rfl,hf⟩:=HB hz
   rw [Mt hz (by rw [Int.toNat_natCast]; exact hf),if_pos hz,Int.toNat_natCast,hf]
   simp only
   unfold QI
   cases hi:f.isDir
   · simp
   · by_cases r1:f.rest=1
     · simp [r1]
     · by_cases r2:f.rest=2∧I0 l f=false<;>simp [r1,r2]
 · have:dirE l n=C3 l n:=by unfold dirE; rw [if_neg hz]
   rw [this,if_neg hz,if_neg hz]
theorem QL (l:List FT) (ho:FOk l) (n:Int) (kind:Nat) {a0:AV} (ha0:BR 6 a0 (l.map FT.av)) {s:St} (hw:Wf s):(lim prog).call Ff [a0,.i .i64 n,.i .u8 (kind:Nat)] s=some (tupR (HC l n kind),s):=by
 refine fn_W P1 rfl rfl ?_
 have hz0:wkZ Dt.cin [a0,.i .i64 n,.i .u8 (kind:Nat)]=[fx l,.i .i64 n,.i .u8 (kind:Nat)]:=by
  simp only [Dt,wkZ,Ft ha0,wk]
 rw [hz0]
 have H1:=(Hp.begin hw).new (.cells 5 [.i .u8 (kind:Nat)])
 generalize hq:s.enter.new (.cells 5 [.i .u8 (kind:Nat)])=q at H1
 generalize hm:s.enter.nb=m at H1
 have hb:=H1.box (i:=0) rfl
 simp only at hb
 have hc:=M5 l ho n (w:=ES) (d:=ET) (wc:=[.p m 0]) (dc:=[.p m 0]) (Vm kind) (fun f=>{ f with known:=true,kind:=kind }) (a0:=fx l) .ws (s:=q) H1.wf (fun _ i f _=>X3 H1.wf.enter hb.1 hb.2.2 f) (fun q' id i f hf hr=>YO hr hf hb.1 hb.2.2)
 rw [RM] at hc
 simp only [tupR,fx] at hc
 simp only [Dt,go_sem,AE,AA,AD,AC,KB_n,KB_x,Nat.reduceBEq,Nat.reduceAdd,Nat.reduceLT,Nat.reduceLeDiff,Nat.reduceEqDiff,reduceIte,Int.reduceEq,reduceCtorEq,hq,hm,List.length_cons,List.length_nil,Nat.zero_add,fx,hc]
 exact KR_F H1.over _ _
theorem QM (l:List FT) (ho:FOk l) (n:Int) {a0:AV} (ha0:BR 6 a0 (l.map FT.av)) {s:St} (hw:Wf s):(lim prog).call Gd [a0,.i .i64 n] s=some (tupR (Dd l n),s):=by
 refine fn_W P2 rfl rfl ?_
 have hz0:wkZ Du.cin [a0,.i .i64 n]=[fx l,.i .i64 n]:=by
  simp only [Du,wkZ,Ft ha0,wk]
 rw [hz0]
 have hc:=M5 l ho n (w:=EU) (d:=EW) (wc:=[]) (dc:=[]) Vn (fun f=>{ f with rest:=2,beside:=(f.names.length:Int) }) (a0:=fx l) .ws (s:=s.enter) hw.enter (fun _ i f _=>X4 hw.enter f) (fun q' id i f hf hr=>YN hr hf)
 rw [RN] at hc
 simp only [tupR,fx] at hc
 simp only [Du,go_sem,AE,AA,AD,AC,KB_n,KB_x,Nat.reduceBEq,Nat.reduceAdd,Nat.reduceLT,Nat.reduceLeDiff,Nat.reduceEqDiff,reduceIte,Int.reduceEq,reduceCtorEq,fx,hc]
 exact KR_F (Over.enter s) _ _
theorem O4 (l:List FT) (ho:FOk l) (n:Int) {a0:AV} (ha0:BR 6 a0 (l.map FT.av)) {s:St} (hw:Wf s):(lim prog).call F0 [a0,.i .i64 n] s=some (tupR (Fu l n),s):=by
 refine fn_W Og rfl rfl ?_
 have hz0:wkZ DL.cin [a0,.i .i64 n]=[fx l,.i .i64 n]:=by
  simp only [DL,wkZ,Ft ha0,wk]
 rw [hz0]
 have H1:=(Hp.begin hw).new (.cells 22 [fx l])
 generalize hq:s.enter.new (.cells 22 [fx l])=q at H1
 generalize hm:s.enter.nb=m at H1
 have hb:=H1.box (i:=0) rfl
 simp only at hb
 have l0:=H1.ld 0 (off:=0) (v:=fx l) rfl rfl
 have hc:=M5 l ho n (w:=Dn) (d:=Dp) (wc:=[.p m 0]) (dc:=[]) (QI l) (fun f=>{ f with rest:=1,beside:=0 }) (a0:=fx l) .ws (s:=q) H1.wf (fun hmay i f hf=>Vo hmay hf (ho.ok f (List.mem_of_getElem? hf)) H1.wf.enter hb.1 hb.2.2) (fun q' id i f hf hr=>WN hr hf)
 rw [QK] at hc
 simp only [tupR,fx] at hc
 unfold fx at hq l0
 simp only [DL,go_sem,AE,AA,AD,AC,KB_n,KB_x,Nat.reduceBEq,Nat.reduceAdd,Nat.reduceLT,Nat.reduceLeDiff,Nat.reduceEqDiff,reduceIte,Int.reduceEq,reduceCtorEq,fx,List.length_cons,List.length_nil,Nat.zero_add,hq,hm,l0,hc]
 exact KR_F H1.over _ _
end Go.Proofs.YtgloinighjdhlaaGreat

namespace Go.Proofs.YtgloinighjdhlaaGreat
open Go.Proofs.YtgloinighjdhlaaGreat.Am
def LZ (f:FT) (x:ND):Bool:=f.known&&(decide (x.kind≠f.kind)||(decide (x.kind=2)&&!Be f x.names))
def nodeA (l:List FT) (b:ND) (n:Nat):ND:=GR (FE b (climb l n))
theorem Hk {l:List FT} (h:mayP l=true) {n:Nat} {f:FT} (hf:l[n]? = some f) (b:ND):Iw l b n=LZ f (nodeA l b n):=by
 unfold Iw LZ nodeA
 rw [hf,bF h (List.getElem?_eq_some_iff.1 hf).1]
def Oth (l:List FT) (b:ND) (n:Nat):Prop:=mayN b=true∧∀ j,j < l.length→j≠n→Iw l b j=false
theorem JR {l:List FT} (h:mayP l=true) {n:Nat} {f:FT} (hf:l[n]? = some f) (b:ND):Bw l b=true↔(Oth l b n∧LZ f (nodeA l b n)=false):=by
 rw [Kz,← Hk h hf]
 have hn:=(List.getElem?_eq_some_iff.1 hf).1
 constructor
 · rintro ⟨_,h1,h2⟩
   exact ⟨⟨h1,fun j hj _=>h2 j hj⟩,h2 n hn⟩
 · rintro ⟨⟨h1,h2⟩,h3⟩
   refine ⟨h,h1,fun j hj=>?_⟩
   by_cases hjn:j=n
   · subst hjn; exact h3
   · exact h2 j hj hjn
theorem Rp {l:List FT} (hm:mayP l=true) {n:Nat} {f f':FT} (hf:l[n]? = some f) (hk:f'.kids=f.kids) (h1:f'.one=true) (hd:f'.isDir=true∨1≤n):mayP (l.set n f')=true:=by
 have mk:=Ru FT.kids hf hk
 have hnl:n < l.length:=by rw [List.getElem?_eq_some_iff] at hf; exact hf.1
 have hfl:flatK (l.set n f')=flatK l:=by unfold flatK; rw [mk]
 have hone:Ks (l.set n f')=Ks l:=by
  unfold Ks cntK
  rw [hfl,List.length_set]
 have hget:∀ (a:Nat) (g:FT),(l.set n f')[a]? = some g→(a=n∧g=f')∨l[a]? = some g:=fun a g hg=>by
  rw [List.getElem?_set] at hg
  split at hg
  · rename_i hna
    subst hna
    exact .inl ⟨rfl,(Option.some.inj hg).symm⟩
  · exact .inr hg
 have hbe:Ge (l.set n f').length 0 (l.set n f')=true:=by
  rw [DX]
  intro a g hg k hkk
  rw [List.length_set]
  have hbl:Ge l.length 0 l=true:=by
   cases l with
   | nil=>rfl
   | cons x t=>simp only [mayP,Bool.and_eq_true] at hm; exact hm.2.2.1
  rw [DX] at hbl
  rcases hget a g hg with ⟨rfl,rfl⟩ | hg
  · exact hbl _ f hf k (by rw [← hk]; exact hkk)
  · exact hbl a g hg k hkk
 have hall1:∀ g∈l.set n f',g.one=true:=fun g hg=>by
  obtain ⟨a,ha,rfl⟩:=List.mem_iff_getElem.1 hg
  rcases hget a _ (List.getElem?_eq_getElem ha) with ⟨_,e⟩ | hg
  · rw [e]; exact h1
  · exact (mayD hm).one _ (List.mem_of_getElem? hg)
 cases l with
 | nil=>simp at hnl
 | cons x t =>
   cases n with
   | zero =>
     rw [List.set_cons_zero] at hbe hone hall1 ⊢
     have hxd:f'.isDir=true:=by rcases hd with hd | hd; exact hd; omega
     simp only [mayP,Bool.and_eq_true,List.all_eq_true] at hm ⊢
     exact ⟨hxd,hall1,hbe,by rw [hone]; exact hm.2.2.2⟩
   | succ n =>
     rw [List.set_cons_succ] at hbe hone hall1 ⊢
     simp only [mayP,Bool.and_eq_true,List.all_eq_true] at hm ⊢
     exact ⟨hm.1,hall1,hbe,by rw [hone]; exact hm.2.2.2⟩
theorem M7 {l:List FT} (h:mayP l=true) {n:Nat} {f f':FT} (hf:l[n]? = some f) (hn:f'.names=f.names) (hk:f'.kids=f.kids) (hm':mayP (l.set n f')=true) (b:ND) :
    Bw (l.set n f') b=true↔(Oth l b n∧LZ f' (nodeA l b n)=false):=by
 have mk:=Ru FT.kids hf hk
 have mn:=Ru FT.names hf hn
 have hnl:=(List.getElem?_eq_some_iff.1 hf).1
 have hf':(l.set n f')[n]? = some f':=by rw [List.getElem?_set,if_pos rfl,if_pos hnl]
 rw [JR hm' hf' b]
 have hA:nodeA (l.set n f') b n=nodeA l b n:=by unfold nodeA; rw [M9 mk mn]
 rw [hA]
 have hO:Oth (l.set n f') b n↔Oth l b n:=by
  unfold Oth
  rw [List.length_set]
  refine and_congr_right fun _=>forall_congr' fun j=>?_
  refine forall_congr' fun hj=>forall_congr' fun hjn=>?_
  obtain ⟨g,hg⟩:∃ g,l[j]? = some g:=⟨_,List.getElem?_eq_getElem hj⟩
  have hg':(l.set n f')[j]? = some g:=by rw [List.getElem?_set,if_neg (fun h=>hjn h.symm)]; exact hg
  rw [Hk h hg,Hk hm' hg']
  unfold nodeA
  rw [M9 mk mn]
 rw [hO]
theorem M8:∀ {b:ND} {p:List (List Nat)} {x:ND},E6 b=true→FE b p=some x→E6 x=true
 | b,[],x,h,hx=>by simp only [FE,Option.some.injEq] at hx; subst hx; exact h
 | b,s::p,x,h,hx=>by
   rw [FE] at hx
   cases hk:kidN b s with
   | none=>rw [hk] at hx; cases hx
   | some k =>
     rw [hk] at hx
     refine M8 (b:=k) ?_ hx
     unfold kidN at hk
     split at hk
     · split at hk
       · exact (Vu h).kid hk
       · cases hk
     · cases hk
theorem WW {l:List FT} {b:ND} (hb:mayN b=true) (n:Nat):(nodeA l b n).kind≤3:=by
 unfold nodeA
 cases h:FE b (climb l n) with
 | none=>exact Nat.zero_le _
 | some x =>
   have:=Qb (M8 (Mu hb) h)
   show x.kind≤3
   omega
/-! ### Know -/
def knB (l:List FT) (b:ND) (n:Nat) (k:Nat):Bool:=decide ((HC l n k).2=0)&&Bw (HC l n k).1 b
theorem S3 {l:List FT} (h:mayP l=true) {n:Nat} {f:FT} (hf:l[n]? = some f) {k:Nat} (hk:k≤3):((HC l n k).2=0)↔f.known=false:=by
 have hn:=(List.getElem?_eq_some_iff.1 hf).1
 have hz:C3 l n=0:=by unfold C3; rw [h,if_pos rfl,if_pos ⟨by omega,by omega⟩]
 unfold HC
 rw [if_pos hz,Int.toNat_natCast,hf]
 show (if f.known=true then (([],6):List FT×Int) else if 3 < k then ([],1) else (l.set n ⟨true,k,[],[],0,0⟩,0)).2=0↔_
 by_cases hkn:f.known=true
 · rw [if_pos hkn,hkn]; simp
 · rw [if_neg hkn,if_neg (by omega)]; simp [hkn]
theorem YS {k:Nat} (hk:k≤3):(⟨true,k,[],[],0,0⟩:FT).one=true:=by
 rcases (show k=0∨k=1∨k=2∨k=3 by omega) with rfl | rfl | rfl | rfl<;>decide
theorem a7 {l:List FT} (h:mayP l=true) {n:Nat} {f:FT} (hf:l[n]? = some f) (b:ND) {k:Nat} (hk:k≤3):knB l b n k=true↔(f.known=false∧(Oth l b n∧(nodeA l b n).kind=k)):=by
 unfold knB
 rw [Bool.and_eq_true,decide_eq_true_eq,S3 h hf hk]
 refine and_congr_right fun hkn=>?_
 have hn:=(List.getElem?_eq_some_iff.1 hf).1
 have hz:C3 l n=0:=by unfold C3; rw [h,if_pos rfl,if_pos ⟨by omega,by omega⟩]
 have hone:=(mayD h).one f (List.mem_of_getElem? hf)
 obtain ⟨e1,e2,_,_⟩:=QJ hone hkn
 have hP:(HC l n k).1=l.set n ⟨true,k,[],[],0,0⟩:=by
  unfold HC
  rw [if_pos hz,Int.toNat_natCast,hf]
  simp only [hkn]
  rw [if_neg (by simp),if_neg (by omega)]
 have hn1:1≤n:=by
  cases n with
  | succ n=>omega
  | zero =>
    cases l with
    | nil=>simp at hf
    | cons x t =>
      simp only [List.getElem?_cons_zero,Option.some.injEq] at hf
      subst hf
      simp only [mayP,Bool.and_eq_true] at h
      have:=h.1
      unfold FT.isDir at this
      rw [hkn] at this; cases this
 have hm':=Rp h hf (f':=⟨true,k,[],[],0,0⟩) e2.symm (YS hk) (.inr hn1)
 rw [hP,M7 h hf (f':=⟨true,k,[],[],0,0⟩) e1.symm e2.symm hm' b]
 refine and_congr_right fun _=>?_
 have hE:∀ L,Be (⟨true,k,[],[],0,0⟩:FT) L=true:=fun L=>by unfold Be; rw [if_neg (by simp),if_neg (by simp)]
 unfold LZ
 simp only [hE,Bool.not_true,Bool.and_false,Bool.or_false,Bool.true_and,decide_eq_false_iff_not]
 exact ⟨fun h=>Classical.byContradiction h,fun h h2=>h2 h⟩
def knC (l:List FT) (b:ND) (n:Nat) (j:Nat):Nat:=(List.range j).countP (knB l b n)
theorem J5 (l:List FT) (b:ND) (n:Nat) (j:Nat):knC l b n (j+1)=knC l b n j+(if knB l b n j then 1 else 0):=by
 unfold knC
 rw [List.range_succ,List.countP_append,List.countP_cons,List.countP_nil]
 simp
theorem YT {l:List FT} (h:mayP l=true) {n:Nat} {f:FT} (hf:l[n]? = some f) (b:ND) :
    (0 < knC l b n 4→Bw l b=true)∧(Bw l b=true→f.known=false→knC l b n 4=1):=by
 have hK:=fun k (hk:k≤3)=>a7 h hf b hk
 have hall:knC l b n 4=(if knB l b n 0 then 1 else 0)+(if knB l b n 1 then 1 else 0)+(if knB l b n 2 then 1 else 0)+(if knB l b n 3 then 1 else 0):=by
  rw [show (4:Nat)=3+1 from rfl,J5,show (3:Nat)=2+1 from rfl,J5,show (2:Nat)=1+1 from rfl,J5,show (1:Nat)=0+1 from rfl,J5]
  simp [knC]
 have hu:f.known=false→(Bw l b=true↔Oth l b n):=fun hkn=>by
  rw [JR h hf b]
  have:LZ f (nodeA l b n)=false:=by unfold LZ; rw [hkn]; rfl
  exact ⟨fun h=>h.1,fun h=>⟨h,this⟩⟩
 constructor
 · intro hpos
   have hex:∃ k,k≤3∧knB l b n k=true:=by
    refine Classical.byContradiction fun hno=>?_
    have hz:∀ k,k≤3→knB l b n k=false:=fun k hk=>by
     cases hc:knB l b n k with
     | false=>rfl
     | true=>exact absurd ⟨k,hk,hc⟩ hno
    rw [hall,hz 0 (by omega),hz 1 (by omega),hz 2 (by omega),hz 3 (by omega)] at hpos
    simp at hpos
   obtain ⟨k,hk,hb⟩:=hex
   obtain ⟨h1,h2,_⟩:=(hK k hk).1 hb
   exact (hu h1).2 h2
 · intro hh hkn
   have ho:=(hu hkn).1 hh
   have hk3:=WW (l:=l) ho.1 n
   have hv:∀ k,k≤3→knB l b n k=decide ((nodeA l b n).kind=k):=fun k hk=>by
    rw [Bool.eq_iff_iff,hK k hk,decide_eq_true_eq]
    exact ⟨fun h=>h.2.2,fun h=>⟨hkn,ho,h⟩⟩
   rw [hall,hv 0 (by omega),hv 1 (by omega),hv 2 (by omega),hv 3 (by omega)]
   generalize (nodeA l b n).kind=k at hk3
   rcases (show k=0∨k=1∨k=2∨k=3 by omega) with rfl | rfl | rfl | rfl<;>rfl

theorem PC {L:List (List Nat)} (ha:Asc L) {i:Nat} {y:List Nat} (h:L[i]? = some y):L.findIdx? (·==y)=some i :=
 Mw h fun j hj z hz e=>by
  subst e
  have:=ha hj hz h
  rw [M0] at this; cases this
theorem Ic {f:FT} (h1:f.one=true) (m:Nat) (y:List Nat):Ea f m y=true↔∃ (i:Nat) (k:Int),f.names[i]? = some y∧f.kids[i]? = some k∧k∈(sortZ f.kids).take m:=by
 have ha:Asc f.names:=JP h1
 unfold Ea
 constructor
 · intro h
   split at h
   · rename_i i hi
     split at h
     · rename_i k hk
       rw [List.findIdx?_eq_some_iff_getElem] at hi
       obtain ⟨h2,h3,_⟩:=hi
       simp only [beq_iff_eq] at h3
       exact ⟨i,k,by rw [List.getElem?_eq_getElem h2,h3],hk,of_decide_eq_true h⟩
     · cases h
   · cases h
 · rintro ⟨i,k,h2,h3,h4⟩
   rw [PC ha h2]
   simp only [h3]
   exact decide_eq_true h4
theorem Rq {f:FT} (h1:f.one=true) (hd:f.isDir=true):ascN none f.names=true∧f.restB=true:=by
 unfold FT.one at h1
 rw [hd,if_pos rfl] at h1
 simp only [Bool.and_eq_true] at h1
 exact h1.2
theorem QY {f g:FT} (h1:f.one=true) (hd:f.isDir=true) (e1:g.known=f.known) (e2:g.kind=f.kind) (e3:g.names=f.names) (e4:g.kids=f.kids) (hr:g.restB=true):g.one=true:=by
 have hg:g.isDir=true:=by unfold FT.isDir at hd ⊢; rw [e1,e2]; exact hd
 have hb:g.bad=f.bad:=by unfold FT.bad; rw [e1,e2,e3,e4]
 have h2:=Rq h1 hd
 unfold FT.one at h1 ⊢
 rw [hb,hg,if_pos rfl,e3,h2.1,hr]
 simp only [Bool.and_eq_true] at h1
 simp [h1.1]
theorem N7 {f:FT} (h1:f.one=true) (hd:f.isDir=true):f.rest=0∨f.rest=1∨(f.rest=2∧0≤f.beside∧f.beside≤(f.names.length:Int)):=by
 have:=(Rq h1 hd).2
 unfold FT.restB at this
 split at this
 · rename_i h
   simp only [Bool.and_eq_true,decide_eq_true_eq] at this
   exact .inr (.inr ⟨h,this⟩)
 · simp only [Bool.and_eq_true,Bool.or_eq_true,decide_eq_true_eq] at this
   rcases this.1 with h | h
   · exact .inl h
   · exact .inr (.inl h)
theorem PD {f:FT} (h1:f.known=true) (h2:f.kind=2) (x:ND):LZ f x=false↔(x.kind=2∧Be f x.names=true):=by
 unfold LZ
 rw [h1,h2]
 by_cases hk:x.kind=2
 · simp [hk]
 · simp [hk]
theorem WX {f:FT} (hl:f.names.length=f.kids.length) (h1:f.rest=1) (L:List (List Nat)):Be f L=true↔∀ y∈L,y∈f.names:=by
 unfold Be
 rw [if_pos h1]
 simp only [Qc hl]
 simp
theorem YU {f:FT} (hl:f.names.length=f.kids.length) (h2:f.rest=2) (hb:f.beside=(f.names.length:Int)) (L:List (List Nat)):Be f L=true↔∃ y∈L,y∉f.names:=by
 unfold Be
 rw [if_neg (by omega),if_pos h2,hb,Int.toNat_natCast]
 simp only [Qc hl]
 simp
theorem Rr {f:FT} (h2:f.rest=2) (L:List (List Nat)):Be f L=true↔∃ y∈L,Ea f f.beside.toNat y=false:=by
 unfold Be
 rw [if_neg (by omega),if_pos h2]
 simp
theorem S4 {f:FT} (h1:f.rest≠1) (h2:f.rest≠2) (L:List (List Nat)):Be f L=true:=by
 unfold Be
 rw [if_neg h1,if_neg h2]
theorem S5 {l:List FT} (h:mayP l=true) {n:Nat} {f:FT} (hf:l[n]? = some f) {i:Nat} {k:Int} {s:List Nat} (hk:f.kids[i]? = some k) (hs:f.names[i]? = some s) (b:ND) :
    nodeA l b k.toNat=GR ((FE b (climb l n)).bind fun y=>kidN y s):=by
 unfold nodeA
 rw [M1 h hf hk hs,OA]
theorem Lw {l:List FT} (h:mayP l=true) {n:Nat} {f:FT} (hf:l[n]? = some f) {k:Int} (hk:k∈f.kids):∃ (j:Nat) (g:FT) (i:Nat) (s:List Nat),k=(j:Int)∧n < j∧l[j]? = some g∧f.kids[i]? = some k∧f.names[i]? = some s:=by
 have h1:=(mayD h).kid n f hf k hk
 obtain ⟨j,rfl⟩:∃ j:Nat,k=(j:Int):=⟨k.toNat,by omega⟩
 have hj:j < l.length:=by omega
 obtain ⟨i,hi,he⟩:=List.mem_iff_getElem.1 hk
 have hl:=Cf ((mayD h).one f (List.mem_of_getElem? hf))
 exact ⟨j,l[j],i,f.names[i],rfl,by omega,List.getElem?_eq_getElem hj,by rw [List.getElem?_eq_getElem hi,he],List.getElem?_eq_getElem (by omega)⟩
theorem WY {L:List Int} (hL:L.Nodup) {m:Nat} {k:Int} (h1:k∈(sortZ L).take m) (h2:k∈(sortZ L).drop m):False:=by
 have hs:=X9 hL
 rw [← List.take_append_drop m (sortZ L),List.pairwise_append] at hs
 have:=hs.2.2 k h1 k h2
 omega
def whB (l:List FT) (b:ND) (n:Nat):Bool:=decide ((Fu l n).2=0)&&Bw (Fu l n).1 b
def moB (l:List FT) (b:ND) (n:Nat):Bool:=decide ((Dd l n).2=0)&&Bw (Dd l n).1 b
def Ty (l:List FT) (f:FT):Bool:=f.kids.all fun k=>match l[k.toNat]? with
 | some g=>g.known
 | none=>false
section
variable {l:List FT} {n:Nat} {f:FT}
theorem Y3 (h:mayP l=true) (hf:l[n]? = some f):dirE l n=if f.isDir then 0 else 1:=by
 have hn:=(List.getElem?_eq_some_iff.1 hf).1
 have hz:C3 l n=0:=by unfold C3; rw [h,if_pos rfl,if_pos ⟨by omega,by omega⟩]
 exact Mt hz (by rw [Int.toNat_natCast]; exact hf)
theorem WZ (h:mayP l=true) (hf:l[n]? = some f):Dd l n=if f.isDir=true then (if f.rest=1 then ([],6) else (l.set n { f with rest:=2,beside:=(f.names.length:Int) },0)) else ([],1):=by
 have hd:=Y3 h hf
 unfold Dd
 rw [hd]
 cases hdd:f.isDir with
 | true=>simp only [if_true,Int.toNat_natCast,hf]
 | false=>simp
theorem S6 (h:mayP l=true) (hf:l[n]? = some f):Fu l n=if f.isDir=true then (if f.rest=1 then ([],6) else if f.rest=2∧I0 l f=false then ([],67) else (l.set n { f with rest:=1,beside:=0 },0)) else ([],1):=by
 have hd:=Y3 h hf
 unfold Fu
 rw [hd]
 cases hdd:f.isDir with
 | true=>simp only [if_true,Int.toNat_natCast,hf]
 | false=>simp
theorem YV (h:mayP l=true) (hf:l[n]? = some f) (he:(Dd l n).2≠0) (b:ND):whB l b n=false:=by
 rw [WZ h hf] at he
 unfold whB
 rw [S6 h hf]
 cases hd:f.isDir with
 | false=>simp
 | true =>
   rw [hd,if_pos rfl] at he
   by_cases h1:f.rest=1
   · rw [if_pos rfl,if_pos h1]; simp
   · rw [if_neg h1] at he; exact absurd rfl he
theorem YW (h : mayP l=true) (hf:l[n]? = some f) (he:(Dd l n).2=0) (b:ND) :
    mayP (Dd l n).1=true∧(¬ (whB l b n=true∧moB l b n=true))∧(whB l b n=true∨moB l b n=true→Bw l b=true)∧(Bw l b=true→Ty l f=true→whB l b n=true∨moB l b n=true):=by
 have hone:=(mayD h).one f (List.mem_of_getElem? hf)
 have hlen:=Cf hone
 have hM:=WZ h hf
 have hW:=S6 h hf
 cases hd:f.isDir with
 | false=>rw [hM,hd] at he; simp at he
 | true =>
 rw [hd,if_pos rfl] at hM hW
 by_cases hr1:f.rest=1
 · rw [hM,if_pos hr1] at he; simp at he
 rw [if_neg hr1] at hM hW
 have hkn:f.known=true∧f.kind=2:=by
  unfold FT.isDir at hd
  simpa using hd
 have h1M:({ f with rest:=2,beside:=(f.names.length:Int) }:FT).one=true:=QY hone hd rfl rfl rfl rfl (by unfold FT.restB; simp)
 have h1W:({ f with rest:=1,beside:=0 }:FT).one=true:=QY hone hd rfl rfl rfl rfl (by unfold FT.restB; simp)
 have mM:=Rp h hf (f':={ f with rest:=2,beside:=(f.names.length:Int) }) rfl h1M (.inl hd)
 have mW:=Rp h hf (f':={ f with rest:=1,beside:=0 }) rfl h1W (.inl hd)
 have sM:=M7 h hf (f':={ f with rest:=2,beside:=(f.names.length:Int) }) rfl rfl mM b
 have sW:=M7 h hf (f':={ f with rest:=1,beside:=0 }) rfl rfl mW b
 rw [PD (f:={ f with rest:=2,beside:=(f.names.length:Int) }) hkn.1 hkn.2,YU (f:={ f with rest:=2,beside:=(f.names.length:Int) }) hlen rfl rfl] at sM
 rw [PD (f:={ f with rest:=1,beside:=0 }) hkn.1 hkn.2,WX (f:={ f with rest:=1,beside:=0 }) hlen rfl] at sW
 have sL:=JR h hf b
 rw [PD hkn.1 hkn.2] at sL
 have eM:moB l b n=true↔(Oth l b n∧(nodeA l b n).kind=2∧∃ y∈(nodeA l b n).names,y∉f.names):=by
  unfold moB
  rw [hM]
  simpa using sM
 have eW:whB l b n=true↔((f.rest=2→I0 l f=true)∧Oth l b n∧(nodeA l b n).kind=2∧∀ y∈(nodeA l b n).names,y∈f.names):=by
  unfold whB
  rw [hW]
  by_cases ht:f.rest=2∧I0 l f=false
  · rw [if_pos ht]
    simp only [Bool.and_eq_true,decide_eq_true_eq]
    constructor
    · rintro ⟨h1,_⟩; simp at h1
    · rintro ⟨h1,_⟩
      rw [h1 ht.1] at ht; simp at ht
  · rw [if_neg ht]
    simp only [Bool.and_eq_true,decide_eq_true_eq,true_and]
    rw [sW]
    refine ⟨fun h=>⟨fun h2=>?_,h⟩,fun h=>h.2⟩
    cases h3:I0 l f with
    | true=>rfl
    | false=>exact absurd ⟨h2,h3⟩ ht
 have hnd:=N5 h hf
 have ha:Asc f.names:=JP hone
 refine ⟨by rw [hM]; exact mM,fun ⟨w,m⟩=>?_,fun hwm=>?_,fun hh hall=>?_⟩
 · obtain ⟨_,_,y,hy,hny⟩:=eM.1 m
   exact hny ((eW.1 w).2.2.2 y hy)
 · rw [sL]
   rcases hwm with w | m
   · obtain ⟨ht,ho,hk,hall⟩:=eW.1 w
     refine ⟨ho,hk,?_⟩
     by_cases h2:f.rest=2
     · rw [Rr h2]
       have ht:=ht h2
       rw [QD,List.any_eq_true] at ht
       obtain ⟨k,hkb,hkt⟩:=ht
       have hkk:k∈f.kids:=(FX f.kids).subset (List.mem_of_mem_drop hkb)
       obtain ⟨j,g,i,s,rfl,hnj,hg,hki,hsi⟩:=Lw h hf hkk
       unfold JO at hkt
       rw [Int.toNat_natCast,hg] at hkt
       simp only [Bool.and_eq_true,decide_eq_true_eq] at hkt
       have hfj:=ho.2 j (List.getElem?_eq_some_iff.1 hg).1 (by omega)
       rw [Hk h hg] at hfj
       unfold LZ at hfj
       rw [hkt.1,Bool.true_and,Bool.or_eq_false_iff,decide_eq_false_iff_not] at hfj
       have hkj:(nodeA l b j).kind=g.kind:=Classical.byContradiction fun hh=>hfj.1 hh
       have hnode:=S5 h hf hki hsi b
       rw [Int.toNat_natCast] at hnode
       have hs:s∈(nodeA l b n).names:=by
        unfold nodeA
        cases hfp:FE b (climb l n) with
        | none =>
          rw [hfp] at hnode
          rw [hnode] at hkj
          exact absurd hkj.symm hkt.2
        | some y =>
          rw [hfp] at hnode
          rw [hnode] at hkj
          simp only [Option.bind_some] at hkj
          cases hkd:kidN y s with
          | none=>rw [hkd] at hkj; exact absurd hkj.symm hkt.2
          | some c =>
            unfold kidN at hkd
            split at hkd
            · split at hkd
              · rename_i p hp
                rw [List.findIdx?_eq_some_iff_getElem] at hp
                obtain ⟨h5,h6,_⟩:=hp
                simp only [beq_iff_eq] at h6
                show s∈y.names
                rw [← h6]; exact List.getElem_mem h5
              · cases hkd
            · cases hkd
       refine ⟨s,hs,?_⟩
       rw [Bool.eq_false_iff]
       intro hask
       obtain ⟨i',k',h5,h6,h7⟩:=(Ic hone _ _).1 hask
       have:i'=i:=by
        have e1:=PC ha h5
        have e2:=PC ha hsi
        rw [e1] at e2; exact Option.some.inj e2
       subst this
       rw [hki] at h6; cases h6
       exact WY hnd h7 hkb
     · exact S4 hr1 h2 _
   · obtain ⟨ho,hk,y,hy,hny⟩:=eM.1 m
     refine ⟨ho,hk,?_⟩
     by_cases h2:f.rest=2
     · rw [Rr h2]
       refine ⟨y,hy,?_⟩
       rw [Bool.eq_false_iff]
       intro hask
       obtain ⟨i',k',h5,_⟩:=(Ic hone _ _).1 hask
       exact hny (List.mem_of_getElem? h5)
     · exact S4 hr1 h2 _
 · obtain ⟨ho,hk,hE⟩:=sL.1 hh
   by_cases hex:∃ y∈(nodeA l b n).names,y∉f.names
   · exact .inr (eM.2 ⟨ho,hk,hex⟩)
   · have hall2:∀ y∈(nodeA l b n).names,y∈f.names:=fun y hy=>Classical.byContradiction fun hny=>hex ⟨y,hy,hny⟩
     refine .inl (eW.2 ⟨fun h2=>?_,ho,hk,hall2⟩)
     rw [Rr h2] at hE
     obtain ⟨y,hy,hask⟩:=hE
     obtain ⟨i,hi,hiy⟩:=List.mem_iff_getElem.1 (hall2 y hy)
     have hsi:f.names[i]? = some y:=by rw [List.getElem?_eq_getElem hi,hiy]
     have hki:=List.getElem?_eq_getElem (show i < f.kids.length by omega)
     have hkm:=List.getElem_mem (show i < f.kids.length by omega)
     generalize f.kids[i]'(by omega)=k at hki hkm
     have hkb:k∈besP f:=by
      have h5:k∈sortZ f.kids:=(FX f.kids).symm.subset hkm
      rw [← List.take_append_drop f.beside.toNat (sortZ f.kids),List.mem_append] at h5
      rcases h5 with h5 | h5
      · have:=(Ic hone f.beside.toNat y).2 ⟨i,k,hsi,hki,h5⟩
        rw [hask] at this; cases this
      · exact h5
     rw [QD,List.any_eq_true]
     refine ⟨k,hkb,?_⟩
     obtain ⟨j,g,i',s',rfl,hnj,hg,_,_⟩:=Lw h hf hkm
     have hgk:g.known=true:=by
      unfold Ty at hall
      rw [List.all_eq_true] at hall
      have:=hall _ hkm
      rw [Int.toNat_natCast,hg] at this
      exact this
     unfold JO
     rw [Int.toNat_natCast,hg]
     simp only [hgk,Bool.true_and,decide_eq_true_eq]
     have hfj:=ho.2 j (List.getElem?_eq_some_iff.1 hg).1 (by omega)
     rw [Hk h hg] at hfj
     unfold LZ at hfj
     rw [hgk,Bool.true_and,Bool.or_eq_false_iff,decide_eq_false_iff_not] at hfj
     have hkj:(nodeA l b j).kind=g.kind:=Classical.byContradiction fun hh=>hfj.1 hh
     have hnode:=S5 h hf hki hsi b
     rw [Int.toNat_natCast] at hnode
     rw [← hkj,hnode]
     unfold nodeA at hy hk
     cases hfp:FE b (climb l n) with
     | none=>rw [hfp] at hk; cases hk
     | some x =>
       rw [hfp] at hy hk
       have hwx:=M8 (Mu ho.1) hfp
       obtain ⟨p,hp,hpy⟩:=List.mem_iff_getElem.1 hy
       have hyp:x.names[p]? = some y:=by
        show (GR (some x)).names[p]? = some y
        rw [List.getElem?_eq_getElem hp,hpy]
       have hkp:=kid_at hwx hk hyp
       have hlen2:=(Vu hwx).len
       have hpl:p < x.kids.length:=by rw [← hlen2]; exact hp
       rw [List.getElem?_eq_getElem hpl] at hkp
       show (GR (kidN x y)).kind≠0
       rw [hkp]
       have:=Qb ((Vu hwx).kid (List.getElem?_eq_getElem hpl))
       show (x.kids[p]).kind≠0
       omega
end
end Go.Proofs.YtgloinighjdhlaaGreat

namespace Go.Proofs.YtgloinighjdhlaaGreat
open Go.Proofs.YtgloinighjdhlaaGreat.Am
def One (cs:List AV):Prop:=∀ c∈cs,c.cells=[c]∧ones [c]=true
theorem One.ones:∀ {cs:List AV},One cs→ones cs=true
 | [],_=>rfl
 | c::cs,h=>Rg (a:=[c]) (h c (by simp)).2 (One.ones fun x hx=>h x (by simp [hx]))
theorem One.flat:∀ {cs:List AV},One cs→Bc cs=cs
 | [],_=>rfl
 | c::cs,h=>by
   rw [Bc,(h c (by simp)).1,One.flat fun x hx=>h x (by simp [hx])]; rfl
theorem One.app {a b:List AV} (h:One a) (k:One b):One (a++b):=fun c hc=>(List.mem_append.1 hc).elim (h c) (k c)
theorem WP (L:List (List Nat)):One (L.map AV.s):=fun c hc=>by
 obtain ⟨x,_,rfl⟩:=List.mem_map.1 hc
 exact ⟨rfl,rfl⟩
theorem WR (L:List Int):One (L.map iv):=fun c hc=>by
 obtain ⟨x,_,rfl⟩:=List.mem_map.1 hc
 exact ⟨rfl,rfl⟩
theorem J4 {s:St} {p:Bool} {id off n m l:Nat} {q:Nat×Bool} (h:n=l+m):A8 s p 1 (.bl id 1 off n q) (some (.i .i64 (l:Nat))) none none=some (.bl id 1 (off+l) m q,s):=by
 subst h
 have hb:Bl (l+m) (some (.i .i64 (l:Nat))) none=some (l,l+m):=by
  simp only [Bl,AH]
  rw [if_pos ⟨by omega,Nat.le_refl _⟩]
 simp only [A8,if_true,Option.isSome_none,Bool.false_eq_true,if_false,hb]
 rw [Nat.mul_one,Nat.add_sub_cancel_left]
theorem YP {s:St} {p:Bool} {id off n h:Nat} {q:Nat×Bool} (hh:h≤Gk 1 off n q):A8 s p 1 (.bl id 1 off n q) none (some (.i .i64 (h:Nat))) none=some (.bl id 1 off h q,s):=by
 have hb:Bl (Gk 1 off n q) none (some (.i .i64 (h:Nat)))=some (0,h):=by
  simp only [Bl,AH]
  rw [if_pos ⟨Nat.zero_le _,hh⟩]
 simp only [A8,if_true,Option.isSome_some,hb]
 rw [Nat.zero_mul,Nat.add_zero,Nat.sub_zero]
theorem LN {s:St} {id T rm:Nat} {fz:Bool} {A M D:List AV} (hb:s.box? id=some (.row T (A++(M++D)) fz rm)):rowB s id A.length M.length=some M:=by
 unfold rowB
 have hc:s.cells? id=some (A++(M++D)):=by unfold St.cells?; rw [hb]
 rw [hc]
 simp only [cut,List.drop_left,List.take_left,if_true]
section
variable {s0 s:St} {n:En} {R:List RA} {B:List (Nat×Box)}
theorem _root_.Go.Proofs.YtgloinighjdhlaaGreat.Am.Hp.strx (H:Hp s0 s n R B) (i:Nat) {id T rm:Nat} {A M D ys:List AV} (h:B[i]? = some (id,.row T (A++(M++D)) false rm)) (hy:One ys) (hm:ys.length=M.length∨(D=[]∧M.length≤ys.length∧A.length+ys.length≤rm)) :
    ∃ s',stA s ys.length (.p id A.length) (.agg ys)=some s'∧Hp s0 s' n R (B.set i (id,.row T (A++(ys++D)) false rm))∧s'.nb=s.nb:=by
 have hb:(B.set i (id,Box.row T (A++(ys++D)) false rm))[i]? = some (id,.row T (A++(ys++D)) false rm):=by
  rw [List.getElem?_set,if_pos rfl,if_pos (by rw [List.getElem?_eq_some_iff] at h; exact h.1)]
 obtain ⟨h1,h2,_⟩:=(H.setBox h (.row T (A++(ys++D)) false rm)).esc hb (.agg ys)
 refine ⟨_,?_,h1,h2⟩
 have hbx:=(H.box h).1
 simp only at hbx
 have:Am.overR (A++(M++D)) A.length ys rm=some (A++(ys++D)):=by
  unfold Am.overR
  have hd:(A++(M++D)).drop (A.length+ys.length)=D:=by
   rw [← List.drop_drop,List.drop_left]
   rcases hm with hm | ⟨rfl,hm,_⟩
   · rw [hm,List.drop_left]
   · rw [List.append_nil,List.drop_eq_nil_of_le hm]
  rw [if_pos (by
   simp only [List.length_append]
   rcases hm with hm | ⟨rfl,hm,h3⟩
   · omega
   · simp only [List.length_nil]; omega),List.take_left,hd]
 simp only [stA,hbx,AV.cells,hy.ones,this,if_true,and_self]
theorem _root_.Go.Proofs.YtgloinighjdhlaaGreat.Am.Hp.cpB (H:Hp s0 s n R B) (i:Nat) {id T rm m:Nat} {q:Nat×Bool} {A M D ys:List AV} {y:AV} (h:B[i]? = some (id,.row T (A++(M++D)) false rm)) (hy:One ys) (h1:1≤ys.length) (h2:ys.length≤m) (he:elems s 1 (L8 m y)=some ys) (hm:ys.length=M.length∨(D=[]∧M.length≤ys.length∧A.length+ys.length≤rm)) :
    ∃ s',cpA s 1 (.bl id 1 A.length m q) y=some (.i .i64 (Int.ofNat ys.length),s')∧Hp s0 s' n R (B.set i (id,.row T (A++(ys++D)) false rm))∧s'.nb=s.nb:=by
 obtain ⟨s',d,H',e⟩:=H.strx i h hy hm
 refine ⟨s',?_,H',e⟩
 simp only [cpA,Nat.le_refl,and_self,if_true,he,h1,h2,Nat.mul_one,hy.flat,d]
theorem _root_.Go.Proofs.YtgloinighjdhlaaGreat.Am.Hp.told1 (H:Hp s0 s n R B) (i:Nat) {id T rm:Nat} {cs:List AV} (h:B[i]? = some (id,.row T cs false rm)) (hc:One cs) (p:Nat×Bool) {m:Nat} (hm:m=cs.length) :
    ∃ s',pubA s (.bl id 1 0 m p)=some (.sl 1 cs .shut,s')∧Hp s0 s' n R (B.set i (id,.row T cs true rm)):=by
 subst hm
 have hb:=(H.box h).1
 simp only at hb
 have hcu:cut cs 0 (cs.length*1)=some cs:=by
  unfold cut
  rw [List.drop_zero,Nat.mul_one,List.take_of_length_le (Nat.le_refl _),if_pos rfl]
 refine ⟨_,?_,H.setBox h (.row T cs true rm)⟩
 show frz s (.bl id 1 0 cs.length p)=_
 simp only [frz,hb,hcu]
 rw [if_pos ⟨Nat.zero_le _,hc.ones,by decide⟩,Fl rfl]
end
theorem S1 {s t:St} {v:AV} (h:Over s t) (hv:v.refs=false):Am.leave s t v=s:=h.leave hv
end Go.Proofs.YtgloinighjdhlaaGreat

set_option maxHeartbeats 8000000
namespace Go.Proofs.YtgloinighjdhlaaGreat
open Go.Proofs.YtgloinighjdhlaaGreat.Am
attribute [local irreducible] W WO WE WQ WD Tr.get Tr.set
theorem Ri {z:AV} (hz:z.cells=[z]∧ones [z]=true):∀ m,One (repL m [z])∧(repL m [z]).length=m
 | 0=>⟨fun c hc=>by simp [repL] at hc,rfl⟩
 | m+1=>by
   obtain ⟨h1,h2⟩:=Ri hz m
   refine ⟨fun c hc=>?_,by simp [repL,h2]⟩
   rcases List.mem_cons.1 hc with rfl | hc
   · exact hz
   · exact h1 c hc
theorem YQ {s:St} {id off n:Nat} {q:Nat×Bool} {M:List AV} (h:rowB s id off n=some M) (hM:One M) (hn:n=M.length):elems s 1 (.bl id 1 off n q)=some M:=by
 subst hn
 simp only [elems,Nat.le_refl,and_self,if_true,Nat.mul_one,h,hM.ones,Fl rfl]
theorem insS_A {s:St} (hw:Wf s) {A D:List AV} {x:AV} (hA:One A) (hD:One D) (hx:x.cells=[x]∧ones [x]=true) {N:Nat} (hN:N=A.length+D.length) (hl:N < 2^36) :
    ∃ t,(lim prog).call AU [.bl s.nb 1 0 N (N,true),.i .i64 (A.length:Nat),.sl 1 [x] .full] (s.enter.new (.row 9 (A++D) false 0))=some (.sl 1 (A++(x::D)) .shut,t)∧Over s t:=by
 have hX:One [x]:=fun c hc=>by simp at hc; subst hc; exact hx
 have hAD:=hA.app hD
 have H0:=(Hp.begin hw).new (.row 9 (A++D) false 0)
 have e0:s.enter.nb=s.nb:=rfl
 rw [e0] at H0
 generalize hs1:s.enter.new (.row 9 (A++D) false 0)=s1 at H0
 obtain ⟨r,t,hc,rfl,hP⟩:=fn_G (f:=AU) (args:=[.bl s.nb 1 0 N (N,true),.i .i64 (A.length:Nat),.sl 1 [x] .full]) (s:=s1) (Post:=fun r t=>r=.sl 1 (A++(x::D)) .shut∧Over s t) CV rfl rfl (by
  have HE:=H0.enter
  have fin:∀ {q:St} {R:List RA} {B:List (Nat×Box)},Hp s q s1.en R B→Over s (Am.leave s1 q (.sl 1 (A++(x::D)) .shut)):=fun {q R B} K=>(H0.leave (n1:=s1.en) (K.sel [] [] (by simp) (by simp)) _ (fun h=>by simp [pick] at h) (.inr fun h=>by simp [pick] at h)).over
  have f1:=J4 (s:=s1.enter) (p:=false) (id:=s.nb) (off:=0) (n:=N) (m:=D.length) (l:=A.length) (q:=(N,true)) hN
  have z1:(((1:Nat):Int)=0)=False:=by simp
  have hrow:=(HE.box (i:=0) rfl).1
  simp only at hrow
  have hel:∀ q:St,elems q 1 (.sl 1 [x] .full)=some [x]:=fun q=>rfl
  by_cases hd:D=[]
  · subst hd
    have hN':N=A.length:=by simpa using hN
    have c1:((A.length:Int)=(N:Int))=True:=by simp [hN']
    have hap:appA s1.enter 1 9 (.bl s.nb 1 0 N (N,true)) (.sl 1 [x] .full)=some (.sl 1 (A++[x]) (.tok s1.enter.nt 0),s1.enter.newTok (A++[x]).length (some 9)):=by
     have hr:rowB s1.enter s.nb 0 (N*1)=some A:=by
      have:=LN (A:=[]) (M:=A) (D:=[]) (s:=s1.enter) (id:=s.nb) (T:=9) (rm:=0) (fz:=false) hrow
      rw [Nat.mul_one,hN']; exact this
     rw [hN'] at hr
     have h1:A.length < (A.length+1)*1∧(A.length+1)*1 < 2^38:=by omega
     simp only [appA,hel,if_true,true_and,List.length_cons,List.length_nil,Nat.zero_add,hN',hr,hA.ones,Fl rfl,List.length_append]
     rw [if_pos h1]
    have H2:=HE.newTok 1 9 (A++[x])
    obtain ⟨a',q',d',t',H3,_⟩:=H2.pub 0 rfl
    have hpa:pubA (s1.enter.newTok (A++[x]).length (some 9)) (.sl 1 (A++[x]) (.tok s1.enter.nt 0))=some (a',q'):=by
     rw [← d']; exact Ga (H2.rows (i:=0) rfl)
    have ha:a'=.sl 1 (A++[x]) .shut:=by
     simp only [Am.pub] at d'
     split at d'<;>try (cases d'; done)
     split at d'<;>cases d'
     rfl
    subst ha
    simp only [Aa,go_sem,AE,AA,AD,AC,KB_n,KB_x,Nat.reduceBEq,Nat.reduceAdd,Nat.reduceLT,Nat.reduceLeDiff,Nat.reduceEqDiff,reduceIte,Int.reduceEq,reduceCtorEq,f1,z1,c1,hap,hpa]
    exact ⟨_,_,rfl,rfl,fin H3⟩
  · have hd1:1≤D.length:=List.length_pos_iff.2 hd
    have c1:((A.length:Int)=(N:Int))=False:=eq_false (by omega)
    have w1:IntKind.i64.wrap ((N:Int)+((1:Nat):Int))=((N+1:Nat):Int):=Af (by omega)
    have hcp:(0≤N)=True:=by simp
    have hdv:(N - 0) / 1=N:=by simp
    have c3:((N:Int) < ((N+1:Nat):Int))=True:=eq_true (by omega)
    have f2:=YP (s:=s1.enter) (p:=false) (id:=s.nb) (off:=0) (n:=N) (h:=A.length) (q:=(N,true)) (by unfold Gk; omega)
    have w2:IntKind.i64.wrap (((N+1:Nat):Int) - (A.length:Int))=((D.length+1:Nat):Int):=by
     rw [show ((N+1:Nat):Int) - (A.length:Int)=((D.length+1:Nat):Int) by omega]
     exact Cx (by omega)
    obtain ⟨oz,lz⟩:=Ri (z:=.s []) ⟨rfl,rfl⟩ D.length
    have hz:repL (D.length+1) [AV.s []]=[.s []]++repL D.length [.s []]:=rfl
    generalize hZ:repL D.length [AV.s []]=Z at oz lz hz
    have hoz:One ([AV.s []]++Z):=(show One [AV.s []] from fun c hc=>by simp at hc; subst hc; exact ⟨rfl,rfl⟩).app oz
    have hap:apzA s1.enter 1 9 [.s []] (.bl s.nb 1 0 A.length (N,true)) (.i .i64 ((D.length+1:Nat):Int))=some (.sl 1 (A++([.s []]++Z)) (.tok s1.enter.nt 0),s1.enter.newTok (A++([AV.s []]++Z)).length (some 9)):=by
     have hr:rowB s1.enter s.nb 0 A.length=some A:=LN (A:=[]) (M:=A) (D:=D) hrow
     have h1:N < 0+(A.length+(D.length+1))*1∧(A.length+(D.length+1))*1 < 2^38:=by omega
     have h2:(0:Int)≤((D.length+1:Nat):Int):=by omega
     have hlen:(A++([AV.s []]++Z)).length=A.length+(D.length+1):=by simp [lz]
     have h3:N < 0+(A++([AV.s []]++Z)).length∧(A++([AV.s []]++Z)).length < 2^38:=by rw [hlen]; omega
     simp only [apzA,Int.toNat_natCast,h2,Nat.mul_one,hr,hz,(hA.app hoz).ones]
     rw [← hlen,Fl rfl,if_pos ⟨trivial,trivial,trivial,h3.1,h3.2⟩]
     rfl
    have H2:=HE.newTok 1 9 (A++([AV.s []]++Z))
    generalize hq2:s1.enter.newTok (A++([AV.s []]++Z)).length (some 9)=q2 at hap H2
    obtain ⟨q3,d3,H3,n3⟩:=H2.thaw 0 rfl (by simp [Ad]) [] (by simp) (by simp)
    have hlen2:(A++([AV.s []]++Z)).length=N+1:=by simp [lz]; omega
    rw [(hA.app hoz).flat] at H3
    rw [hlen2,Nat.mul_one] at d3
    generalize q2.nb=id2 at d3 H3
    have f3:=J4 (s:=q3) (p:=false) (id:=id2) (off:=0) (n:=N+1) (m:=D.length+1) (l:=A.length) (q:=(N+1,false)) (by omega)
    obtain ⟨q4,d4,H4,n4⟩:=H3.cpB 0 (m:=D.length+1) (q:=(N+1,false)) (y:=.sl 1 [x] .full) (ys:=[x]) rfl hX (by simp) (by simp) (hel _) (.inl rfl)
    have H4':Hp s q4 s1.en [] [(id2,.row 9 ((A++[x])++(Z++[])) false 0),(s.nb,.row 9 (A++D) false 0)]:=by
     have:=H4
     rw [show A++([x]++Z)=(A++[x])++(Z++[]) by simp] at this
     exact this
    have w3:IntKind.i64.wrap ((A.length:Int)+((1:Nat):Int))=((A.length+1:Nat):Int):=Af (by omega)
    have f4:=J4 (s:=q4) (p:=false) (id:=id2) (off:=0) (n:=N+1) (m:=D.length) (l:=A.length+1) (q:=(N+1,false)) (by omega)
    have f5:=J4 (s:=q4) (p:=false) (id:=s.nb) (off:=0) (n:=N) (m:=D.length) (l:=A.length) (q:=(N,true)) hN
    have hrow4:=(H4'.box (i:=1) rfl).1
    simp only at hrow4
    have hel4:elems q4 1 (L8 D.length (.bl s.nb 1 A.length D.length (N,true)))=some D:=by
     have:=LN (A:=A) (M:=D) (D:=[]) (s:=q4) (id:=s.nb) (T:=9) (rm:=0) (fz:=false) (by rw [List.append_nil]; exact hrow4)
     simp only [L8,Nat.min_self]
     exact YQ this hD rfl
    have hlx:(A++[x]).length=A.length+1:=by simp
    obtain ⟨q5,d5,H5,n5⟩:=H4'.cpB 0 (m:=D.length) (q:=(N+1,false)) (ys:=D) rfl hD hd1 (Nat.le_refl _) hel4 (.inl lz.symm)
    rw [hlx] at d5
    have H5':Hp s q5 s1.en [] [(id2,.row 9 (A++(x::D)) false 0),(s.nb,.row 9 (A++D) false 0)]:=by
     have:=H5
     rw [show (A++[x])++(D++[])=A++(x::D) by simp] at this
     exact this
    obtain ⟨q6,d6,H6⟩:=H5'.told1 0 rfl (hA.app (hX.app hD)) (N+1,false) (m:=N+1) (by simp; omega)
    have z2:(((D.length+1:Nat):Int)=0)=False:=eq_false (by omega)
    have z3:(((D.length:Nat):Int)=0)=False:=eq_false (by omega)
    have t1:∀ q,Fx q (.bl id2 1 0 (N+1) (N+1,false))=some (.bl id2 1 0 (N+1) (N+1,false),q):=fun q=>rfl
    simp only [Nat.zero_add] at f1 f3 f4 f5
    simp only [Aa,go_sem,AE,AA,AD,AC,KB_n,KB_x,Nat.reduceBEq,Nat.reduceAdd,Nat.reduceLT,Nat.reduceLeDiff,Nat.reduceEqDiff,reduceIte,Int.reduceEq,reduceCtorEq,f1,z1,c1,w1,hcp,hdv,c3,f2,w2,hap,d3,f3,d4,t1,w3,f4,f5,d5,z2,z3,d6]
    exact ⟨_,_,rfl,rfl,fin H6⟩)
 exact ⟨t,hc,hP⟩
theorem insS_B {s:St} (hw:Wf s) {A D:List AV} {x:AV} (hA:One A) (hD:One D) (hx:x.cells=[x]∧ones [x]=true) {N:Nat} (hN:N=A.length+D.length) (hl:N < 2^36) :
    ∃ t,(lim prog).call AU [.bl s.nb 1 0 N (N+1,false),.i .i64 (A.length:Nat),.sl 1 [x] .full] (s.enter.new (.row 9 (A++D) false (N+1)))=some (.sl 1 (A++(x::D)) .shut,t)∧Over s t:=by
 have hX:One [x]:=fun c hc=>by simp at hc; subst hc; exact hx
 have hAD:=hA.app hD
 have H0:=(Hp.begin hw).new (.row 9 (A++D) false (N+1))
 have e0:s.enter.nb=s.nb:=rfl
 rw [e0] at H0
 generalize hs1:s.enter.new (.row 9 (A++D) false (N+1))=s1 at H0
 obtain ⟨r,t,hc,rfl,hP⟩:=fn_G (f:=AU) (args:=[.bl s.nb 1 0 N (N+1,false),.i .i64 (A.length:Nat),.sl 1 [x] .full]) (s:=s1) (Post:=fun r t=>r=.sl 1 (A++(x::D)) .shut∧Over s t) CV rfl rfl (by
  have HE:=H0.enter
  have fin:∀ {q:St} {R:List RA} {B:List (Nat×Box)},Hp s q s1.en R B→Over s (Am.leave s1 q (.sl 1 (A++(x::D)) .shut)):=fun {q R B} K=>(H0.leave (n1:=s1.en) (K.sel [] [] (by simp) (by simp)) _ (fun h=>by simp [pick] at h) (.inr fun h=>by simp [pick] at h)).over
  have f1:=J4 (s:=s1.enter) (p:=false) (id:=s.nb) (off:=0) (n:=N) (m:=D.length) (l:=A.length) (q:=(N+1,false)) hN
  have z1:(((1:Nat):Int)=0)=False:=by simp
  have hrow:=(HE.box (i:=0) rfl).1
  simp only at hrow
  have hel:∀ q:St,elems q 1 (.sl 1 [x] .full)=some [x]:=fun q=>rfl
  by_cases hd:D=[]
  · subst hd
    have hN':N=A.length:=by simpa using hN
    have c1:((A.length:Int)=(N:Int))=True:=by simp [hN']
    have HE':Hp s s1.enter s1.en [] [(s.nb,.row 9 (A++([]++[])) false (N+1))]:=HE
    obtain ⟨q2,d2,H2,n2⟩:=HE'.strx 0 (ys:=[x]) rfl hX (.inr ⟨rfl,by simp,by simp; omega⟩)
    have hap:appA s1.enter 1 9 (.bl s.nb 1 0 N (N+1,false)) (.sl 1 [x] .full)=some (.bl s.nb 1 0 (N+1) (N+1,false),q2):=by
     have d2':stA s1.enter 1 (.p s.nb N) (.agg [x])=some q2:=by rw [hN']; exact d2
     simp only [appA,hel,true_and,List.length_cons,List.length_nil,Nat.zero_add,Nat.mul_one,hX.flat,d2']
     rw [if_neg (by simp),if_pos (Nat.le_refl _)]
    obtain ⟨q3,d3,H3⟩:=H2.told1 0 rfl (hA.app (hX.app hD)) (N+1,false) (m:=N+1) (by simp; omega)
    simp only [Aa,go_sem,AE,AA,AD,AC,KB_n,KB_x,Nat.reduceBEq,Nat.reduceAdd,Nat.reduceLT,Nat.reduceLeDiff,Nat.reduceEqDiff,reduceIte,Int.reduceEq,reduceCtorEq,f1,z1,c1,hap,d3]
    exact ⟨_,_,rfl,rfl,fin H3⟩
  · have hd1:1≤D.length:=List.length_pos_iff.2 hd
    obtain ⟨y,D',hD'⟩:∃ y D',D=y::D':=by
     cases D with
     | nil=>exact absurd rfl hd
     | cons y D'=>exact ⟨y,D',rfl⟩
    have hoy:One [y]:=fun c hc=>by simp at hc; subst hc; exact hD _ (by rw [hD']; simp)
    have c1:((A.length:Int)=(N:Int))=False:=eq_false (by omega)
    have w1:IntKind.i64.wrap ((N:Int)+((1:Nat):Int))=((N+1:Nat):Int):=Af (by omega)
    have hg:Am.binOp .gtr (.i .i64 ((N+1:Nat):Int)) (.ige (Gk 1 0 N (N+1,false)))=some (.b false):=by
     have:((N+1:Nat):Int)≤Int.ofNat (Gk 1 0 N (N+1,false)):=by
      unfold Gk
      simp only [Nat.sub_zero,Nat.div_one]
      show ((N+1:Nat):Int)≤((max N (N+1):Nat):Int)
      omega
     show (if ((N+1:Nat):Int)≤Int.ofNat (Gk 1 0 N (N+1,false)) then some (AV.b false) else none)=_
     rw [if_pos this]
    have f2:=YP (s:=s1.enter) (p:=true) (id:=s.nb) (off:=0) (n:=N) (h:=N+1) (q:=(N+1,false)) (by unfold Gk; simp only [Nat.sub_zero,Nat.div_one]; omega)
    have w3:IntKind.i64.wrap ((A.length:Int)+((1:Nat):Int))=((A.length+1:Nat):Int):=Af (by omega)
    have f3:∀ q,A8 q false 1 (.bl s.nb 1 0 (N+1) (N+1,false)) (some (.i .i64 ((A.length+1:Nat):Int))) none none=_:=fun q=>J4 (s:=q) (p:=false) (id:=s.nb) (off:=0) (n:=N+1) (m:=D.length) (l:=A.length+1) (q:=(N+1,false)) (by omega)
    have f4:∀ q,A8 q false 1 (.bl s.nb 1 0 (N+1) (N+1,false)) (some (.i .i64 ((A.length:Nat):Int))) none none=_:=fun q=>J4 (s:=q) (p:=false) (id:=s.nb) (off:=0) (n:=N+1) (m:=D.length+1) (l:=A.length) (q:=(N+1,false)) (by omega)
    simp only [Nat.zero_add] at f1 f3 f4
    have hov:ovlA s1.enter 1 (.sl 1 [x] .full) (.bl s.nb 1 (A.length+1) D.length (N+1,false))=true:=by
     simp only [ovlA,hrow]; rfl
    have hel4:elems s1.enter 1 (L8 D.length (.bl s.nb 1 A.length (D.length+1) (N+1,false)))=some D:=by
     have:=LN (A:=A) (M:=D) (D:=[]) (s:=s1.enter) (id:=s.nb) (T:=9) (rm:=N+1) (fz:=false) (by rw [List.append_nil]; exact hrow)
     simp only [L8]
     exact YQ (by rw [Nat.min_eq_right (by omega)]; exact this) hD (by omega)
    have HE':Hp s s1.enter s1.en [] [(s.nb,.row 9 ((A++[y])++(D'++[])) false (N+1))]:=by
     rw [show (A++[y])++(D'++[])=A++D by rw [hD']; simp]; exact HE
    have hly:(A++[y]).length=A.length+1:=by simp
    have hlD:D.length=D'.length+1:=by rw [hD']; rfl
    obtain ⟨q2,d2,H2,n2⟩:=HE'.cpB 0 (m:=D.length) (q:=(N+1,false)) (ys:=D) rfl hD hd1 (Nat.le_refl _) hel4 (.inr ⟨rfl,by omega,by rw [hly]; omega⟩)
    rw [hly] at d2
    have H2':Hp s q2 s1.en [] [(s.nb,.row 9 (A++([y]++D)) false (N+1))]:=by
     have:=H2
     rw [show (A++[y])++(D++[])=A++([y]++D) by simp] at this
     exact this
    obtain ⟨q3,d3,H3,n3⟩:=H2'.cpB 0 (m:=D.length+1) (q:=(N+1,false)) (y:=.sl 1 [x] .full) (ys:=[x]) rfl hX (by simp) (by simp) (hel _) (.inl rfl)
    obtain ⟨q4,d4,H4⟩:=H3.told1 0 rfl (hA.app (hX.app hD)) (N+1,false) (m:=N+1) (by simp; omega)
    have z2:(((D.length+1:Nat):Int)=0)=False:=eq_false (by omega)
    have z3:(((D.length:Nat):Int)=0)=False:=eq_false (by omega)
    have t1:∀ q,Fx q (.bl s.nb 1 0 (N+1) (N+1,false))=some (.bl s.nb 1 0 (N+1) (N+1,false),q):=fun q=>rfl
    simp only [Aa,go_sem,AE,AA,AD,AC,KB_n,KB_x,Nat.reduceBEq,Nat.reduceAdd,Nat.reduceLT,Nat.reduceLeDiff,Nat.reduceEqDiff,reduceIte,Int.reduceEq,reduceCtorEq,f1,z1,c1,w1,hg,f2,w3,f3,f4,hov,d2,t1,d3,z2,z3,d4]
    exact ⟨_,_,rfl,rfl,fin H4⟩)
 exact ⟨t,hc,hP⟩

theorem insI_A {s:St} (hw:Wf s) {A D:List AV} {x:AV} (hA:One A) (hD:One D) (hx:x.cells=[x]∧ones [x]=true) {N:Nat} (hN:N=A.length+D.length) (hl:N < 2^36) :
    ∃ t,(lim prog).call Ak [.bl s.nb 1 0 N (N,true),.i .i64 (A.length:Nat),.sl 1 [x] .full] (s.enter.new (.row 3 (A++D) false 0))=some (.sl 1 (A++(x::D)) .shut,t)∧Over s t:=by
 have hX:One [x]:=fun c hc=>by simp at hc; subst hc; exact hx
 have hAD:=hA.app hD
 have H0:=(Hp.begin hw).new (.row 3 (A++D) false 0)
 have e0:s.enter.nb=s.nb:=rfl
 rw [e0] at H0
 generalize hs1:s.enter.new (.row 3 (A++D) false 0)=s1 at H0
 obtain ⟨r,t,hc,rfl,hP⟩:=fn_G (f:=Ak) (args:=[.bl s.nb 1 0 N (N,true),.i .i64 (A.length:Nat),.sl 1 [x] .full]) (s:=s1) (Post:=fun r t=>r=.sl 1 (A++(x::D)) .shut∧Over s t) DQ rfl rfl (by
  have HE:=H0.enter
  have fin:∀ {q:St} {R:List RA} {B:List (Nat×Box)},Hp s q s1.en R B→Over s (Am.leave s1 q (.sl 1 (A++(x::D)) .shut)):=fun {q R B} K=>(H0.leave (n1:=s1.en) (K.sel [] [] (by simp) (by simp)) _ (fun h=>by simp [pick] at h) (.inr fun h=>by simp [pick] at h)).over
  have f1:=J4 (s:=s1.enter) (p:=false) (id:=s.nb) (off:=0) (n:=N) (m:=D.length) (l:=A.length) (q:=(N,true)) hN
  have z1:(((1:Nat):Int)=0)=False:=by simp
  have hrow:=(HE.box (i:=0) rfl).1
  simp only at hrow
  have hel:∀ q:St,elems q 1 (.sl 1 [x] .full)=some [x]:=fun q=>rfl
  by_cases hd:D=[]
  · subst hd
    have hN':N=A.length:=by simpa using hN
    have c1:((A.length:Int)=(N:Int))=True:=by simp [hN']
    have hap:appA s1.enter 1 3 (.bl s.nb 1 0 N (N,true)) (.sl 1 [x] .full)=some (.sl 1 (A++[x]) (.tok s1.enter.nt 0),s1.enter.newTok (A++[x]).length (some 3)):=by
     have hr:rowB s1.enter s.nb 0 (N*1)=some A:=by
      have:=LN (A:=[]) (M:=A) (D:=[]) (s:=s1.enter) (id:=s.nb) (T:=3) (rm:=0) (fz:=false) hrow
      rw [Nat.mul_one,hN']; exact this
     rw [hN'] at hr
     have h1:A.length < (A.length+1)*1∧(A.length+1)*1 < 2^38:=by omega
     simp only [appA,hel,if_true,true_and,List.length_cons,List.length_nil,Nat.zero_add,hN',hr,hA.ones,Fl rfl,List.length_append]
     rw [if_pos h1]
    have H2:=HE.newTok 1 3 (A++[x])
    obtain ⟨a',q',d',t',H3,_⟩:=H2.pub 0 rfl
    have hpa:pubA (s1.enter.newTok (A++[x]).length (some 3)) (.sl 1 (A++[x]) (.tok s1.enter.nt 0))=some (a',q'):=by
     rw [← d']; exact Ga (H2.rows (i:=0) rfl)
    have ha:a'=.sl 1 (A++[x]) .shut:=by
     simp only [Am.pub] at d'
     split at d'<;>try (cases d'; done)
     split at d'<;>cases d'
     rfl
    subst ha
    simp only [Av,go_sem,AE,AA,AD,AC,KB_n,KB_x,Nat.reduceBEq,Nat.reduceAdd,Nat.reduceLT,Nat.reduceLeDiff,Nat.reduceEqDiff,reduceIte,Int.reduceEq,reduceCtorEq,f1,z1,c1,hap,hpa]
    exact ⟨_,_,rfl,rfl,fin H3⟩
  · have hd1:1≤D.length:=List.length_pos_iff.2 hd
    have c1:((A.length:Int)=(N:Int))=False:=eq_false (by omega)
    have w1:IntKind.i64.wrap ((N:Int)+((1:Nat):Int))=((N+1:Nat):Int):=Af (by omega)
    have hcp:(0≤N)=True:=by simp
    have hdv:(N - 0) / 1=N:=by simp
    have c3:((N:Int) < ((N+1:Nat):Int))=True:=eq_true (by omega)
    have f2:=YP (s:=s1.enter) (p:=false) (id:=s.nb) (off:=0) (n:=N) (h:=A.length) (q:=(N,true)) (by unfold Gk; omega)
    have w2:IntKind.i64.wrap (((N+1:Nat):Int) - (A.length:Int))=((D.length+1:Nat):Int):=by
     rw [show ((N+1:Nat):Int) - (A.length:Int)=((D.length+1:Nat):Int) by omega]
     exact Cx (by omega)
    obtain ⟨oz,lz⟩:=Ri (z:=.i .i64 0) ⟨rfl,rfl⟩ D.length
    have hz:repL (D.length+1) [AV.i .i64 0]=[.i .i64 0]++repL D.length [.i .i64 0]:=rfl
    generalize hZ:repL D.length [AV.i .i64 0]=Z at oz lz hz
    have hoz:One ([AV.i .i64 0]++Z):=(show One [AV.i .i64 0] from fun c hc=>by simp at hc; subst hc; exact ⟨rfl,rfl⟩).app oz
    have hap:apzA s1.enter 1 3 [.i .i64 0] (.bl s.nb 1 0 A.length (N,true)) (.i .i64 ((D.length+1:Nat):Int))=some (.sl 1 (A++([.i .i64 0]++Z)) (.tok s1.enter.nt 0),s1.enter.newTok (A++([AV.i .i64 0]++Z)).length (some 3)):=by
     have hr:rowB s1.enter s.nb 0 A.length=some A:=LN (A:=[]) (M:=A) (D:=D) hrow
     have h1:N < 0+(A.length+(D.length+1))*1∧(A.length+(D.length+1))*1 < 2^38:=by omega
     have h2:(0:Int)≤((D.length+1:Nat):Int):=by omega
     have hlen:(A++([AV.i .i64 0]++Z)).length=A.length+(D.length+1):=by simp [lz]
     have h3:N < 0+(A++([AV.i .i64 0]++Z)).length∧(A++([AV.i .i64 0]++Z)).length < 2^38:=by rw [hlen]; omega
     simp only [apzA,Int.toNat_natCast,h2,Nat.mul_one,hr,hz,(hA.app hoz).ones]
     rw [← hlen,Fl rfl,if_pos ⟨trivial,trivial,trivial,h3.1,h3.2⟩]
     rfl
    have H2:=HE.newTok 1 3 (A++([AV.i .i64 0]++Z))
    generalize hq2:s1.enter.newTok (A++([AV.i .i64 0]++Z)).length (some 3)=q2 at hap H2
    obtain ⟨q3,d3,H3,n3⟩:=H2.thaw 0 rfl (by simp [Ad]) [] (by simp) (by simp)
    have hlen2:(A++([AV.i .i64 0]++Z)).length=N+1:=by simp [lz]; omega
    rw [(hA.app hoz).flat] at H3
    rw [hlen2,Nat.mul_one] at d3
    generalize q2.nb=id2 at d3 H3
    have f3:=J4 (s:=q3) (p:=false) (id:=id2) (off:=0) (n:=N+1) (m:=D.length+1) (l:=A.length) (q:=(N+1,false)) (by omega)
    obtain ⟨q4,d4,H4,n4⟩:=H3.cpB 0 (m:=D.length+1) (q:=(N+1,false)) (y:=.sl 1 [x] .full) (ys:=[x]) rfl hX (by simp) (by simp) (hel _) (.inl rfl)
    have H4':Hp s q4 s1.en [] [(id2,.row 3 ((A++[x])++(Z++[])) false 0),(s.nb,.row 3 (A++D) false 0)]:=by
     have:=H4
     rw [show A++([x]++Z)=(A++[x])++(Z++[]) by simp] at this
     exact this
    have w3:IntKind.i64.wrap ((A.length:Int)+((1:Nat):Int))=((A.length+1:Nat):Int):=Af (by omega)
    have f4:=J4 (s:=q4) (p:=false) (id:=id2) (off:=0) (n:=N+1) (m:=D.length) (l:=A.length+1) (q:=(N+1,false)) (by omega)
    have f5:=J4 (s:=q4) (p:=false) (id:=s.nb) (off:=0) (n:=N) (m:=D.length) (l:=A.length) (q:=(N,true)) hN
    have hrow4:=(H4'.box (i:=1) rfl).1
    simp only at hrow4
    have hel4:elems q4 1 (L8 D.length (.bl s.nb 1 A.length D.length (N,true)))=some D:=by
     have:=LN (A:=A) (M:=D) (D:=[]) (s:=q4) (id:=s.nb) (T:=3) (rm:=0) (fz:=false) (by rw [List.append_nil]; exact hrow4)
     simp only [L8,Nat.min_self]
     exact YQ this hD rfl
    have hlx:(A++[x]).length=A.length+1:=by simp
    obtain ⟨q5,d5,H5,n5⟩:=H4'.cpB 0 (m:=D.length) (q:=(N+1,false)) (ys:=D) rfl hD hd1 (Nat.le_refl _) hel4 (.inl lz.symm)
    rw [hlx] at d5
    have H5':Hp s q5 s1.en [] [(id2,.row 3 (A++(x::D)) false 0),(s.nb,.row 3 (A++D) false 0)]:=by
     have:=H5
     rw [show (A++[x])++(D++[])=A++(x::D) by simp] at this
     exact this
    obtain ⟨q6,d6,H6⟩:=H5'.told1 0 rfl (hA.app (hX.app hD)) (N+1,false) (m:=N+1) (by simp; omega)
    have z2:(((D.length+1:Nat):Int)=0)=False:=eq_false (by omega)
    have z3:(((D.length:Nat):Int)=0)=False:=eq_false (by omega)
    have t1:∀ q,Fx q (.bl id2 1 0 (N+1) (N+1,false))=some (.bl id2 1 0 (N+1) (N+1,false),q):=fun q=>rfl
    simp only [Nat.zero_add] at f1 f3 f4 f5
    simp only [Av,go_sem,AE,AA,AD,AC,KB_n,KB_x,Nat.reduceBEq,Nat.reduceAdd,Nat.reduceLT,Nat.reduceLeDiff,Nat.reduceEqDiff,reduceIte,Int.reduceEq,reduceCtorEq,f1,z1,c1,w1,hcp,hdv,c3,f2,w2,hap,d3,f3,d4,t1,w3,f4,f5,d5,z2,z3,d6]
    exact ⟨_,_,rfl,rfl,fin H6⟩)
 exact ⟨t,hc,hP⟩
theorem insI_B {s:St} (hw:Wf s) {A D:List AV} {x:AV} (hA:One A) (hD:One D) (hx:x.cells=[x]∧ones [x]=true) {N:Nat} (hN:N=A.length+D.length) (hl:N < 2^36) :
    ∃ t,(lim prog).call Ak [.bl s.nb 1 0 N (N+1,false),.i .i64 (A.length:Nat),.sl 1 [x] .full] (s.enter.new (.row 3 (A++D) false (N+1)))=some (.sl 1 (A++(x::D)) .shut,t)∧Over s t:=by
 have hX:One [x]:=fun c hc=>by simp at hc; subst hc; exact hx
 have hAD:=hA.app hD
 have H0:=(Hp.begin hw).new (.row 3 (A++D) false (N+1))
 have e0:s.enter.nb=s.nb:=rfl
 rw [e0] at H0
 generalize hs1:s.enter.new (.row 3 (A++D) false (N+1))=s1 at H0
 obtain ⟨r,t,hc,rfl,hP⟩:=fn_G (f:=Ak) (args:=[.bl s.nb 1 0 N (N+1,false),.i .i64 (A.length:Nat),.sl 1 [x] .full]) (s:=s1) (Post:=fun r t=>r=.sl 1 (A++(x::D)) .shut∧Over s t) DQ rfl rfl (by
  have HE:=H0.enter
  have fin:∀ {q:St} {R:List RA} {B:List (Nat×Box)},Hp s q s1.en R B→Over s (Am.leave s1 q (.sl 1 (A++(x::D)) .shut)):=fun {q R B} K=>(H0.leave (n1:=s1.en) (K.sel [] [] (by simp) (by simp)) _ (fun h=>by simp [pick] at h) (.inr fun h=>by simp [pick] at h)).over
  have f1:=J4 (s:=s1.enter) (p:=false) (id:=s.nb) (off:=0) (n:=N) (m:=D.length) (l:=A.length) (q:=(N+1,false)) hN
  have z1:(((1:Nat):Int)=0)=False:=by simp
  have hrow:=(HE.box (i:=0) rfl).1
  simp only at hrow
  have hel:∀ q:St,elems q 1 (.sl 1 [x] .full)=some [x]:=fun q=>rfl
  by_cases hd:D=[]
  · subst hd
    have hN':N=A.length:=by simpa using hN
    have c1:((A.length:Int)=(N:Int))=True:=by simp [hN']
    have HE':Hp s s1.enter s1.en [] [(s.nb,.row 3 (A++([]++[])) false (N+1))]:=HE
    obtain ⟨q2,d2,H2,n2⟩:=HE'.strx 0 (ys:=[x]) rfl hX (.inr ⟨rfl,by simp,by simp; omega⟩)
    have hap:appA s1.enter 1 3 (.bl s.nb 1 0 N (N+1,false)) (.sl 1 [x] .full)=some (.bl s.nb 1 0 (N+1) (N+1,false),q2):=by
     have d2':stA s1.enter 1 (.p s.nb N) (.agg [x])=some q2:=by rw [hN']; exact d2
     simp only [appA,hel,true_and,List.length_cons,List.length_nil,Nat.zero_add,Nat.mul_one,hX.flat,d2']
     rw [if_neg (by simp),if_pos (Nat.le_refl _)]
    obtain ⟨q3,d3,H3⟩:=H2.told1 0 rfl (hA.app (hX.app hD)) (N+1,false) (m:=N+1) (by simp; omega)
    simp only [Av,go_sem,AE,AA,AD,AC,KB_n,KB_x,Nat.reduceBEq,Nat.reduceAdd,Nat.reduceLT,Nat.reduceLeDiff,Nat.reduceEqDiff,reduceIte,Int.reduceEq,reduceCtorEq,f1,z1,c1,hap,d3]
    exact ⟨_,_,rfl,rfl,fin H3⟩
  · have hd1:1≤D.length:=List.length_pos_iff.2 hd
    obtain ⟨y,D',hD'⟩:∃ y D',D=y::D':=by
     cases D with
     | nil=>exact absurd rfl hd
     | cons y D'=>exact ⟨y,D',rfl⟩
    have hoy:One [y]:=fun c hc=>by simp at hc; subst hc; exact hD _ (by rw [hD']; simp)
    have c1:((A.length:Int)=(N:Int))=False:=eq_false (by omega)
    have w1:IntKind.i64.wrap ((N:Int)+((1:Nat):Int))=((N+1:Nat):Int):=Af (by omega)
    have hg:Am.binOp .gtr (.i .i64 ((N+1:Nat):Int)) (.ige (Gk 1 0 N (N+1,false)))=some (.b false):=by
     have:((N+1:Nat):Int)≤Int.ofNat (Gk 1 0 N (N+1,false)):=by
      unfold Gk
      simp only [Nat.sub_zero,Nat.div_one]
      show ((N+1:Nat):Int)≤((max N (N+1):Nat):Int)
      omega
     show (if ((N+1:Nat):Int)≤Int.ofNat (Gk 1 0 N (N+1,false)) then some (AV.b false) else none)=_
     rw [if_pos this]
    have f2:=YP (s:=s1.enter) (p:=true) (id:=s.nb) (off:=0) (n:=N) (h:=N+1) (q:=(N+1,false)) (by unfold Gk; simp only [Nat.sub_zero,Nat.div_one]; omega)
    have w3:IntKind.i64.wrap ((A.length:Int)+((1:Nat):Int))=((A.length+1:Nat):Int):=Af (by omega)
    have f3:∀ q,A8 q false 1 (.bl s.nb 1 0 (N+1) (N+1,false)) (some (.i .i64 ((A.length+1:Nat):Int))) none none=_:=fun q=>J4 (s:=q) (p:=false) (id:=s.nb) (off:=0) (n:=N+1) (m:=D.length) (l:=A.length+1) (q:=(N+1,false)) (by omega)
    have f4:∀ q,A8 q false 1 (.bl s.nb 1 0 (N+1) (N+1,false)) (some (.i .i64 ((A.length:Nat):Int))) none none=_:=fun q=>J4 (s:=q) (p:=false) (id:=s.nb) (off:=0) (n:=N+1) (m:=D.length+1) (l:=A.length) (q:=(N+1,false)) (by omega)
    simp only [Nat.zero_add] at f1 f3 f4
    have hov:ovlA s1.enter 1 (.sl 1 [x] .full) (.bl s.nb 1 (A.length+1) D.length (N+1,false))=true:=by
     simp only [ovlA,hrow]; rfl
    have hel4:elems s1.enter 1 (L8 D.length (.bl s.nb 1 A.length (D.length+1) (N+1,false)))=some D:=by
     have:=LN (A:=A) (M:=D) (D:=[]) (s:=s1.enter) (id:=s.nb) (T:=3) (rm:=N+1) (fz:=false) (by rw [List.append_nil]; exact hrow)
     simp only [L8]
     exact YQ (by rw [Nat.min_eq_right (by omega)]; exact this) hD (by omega)
    have HE':Hp s s1.enter s1.en [] [(s.nb,.row 3 ((A++[y])++(D'++[])) false (N+1))]:=by
     rw [show (A++[y])++(D'++[])=A++D by rw [hD']; simp]; exact HE
    have hly:(A++[y]).length=A.length+1:=by simp
    have hlD:D.length=D'.length+1:=by rw [hD']; rfl
    obtain ⟨q2,d2,H2,n2⟩:=HE'.cpB 0 (m:=D.length) (q:=(N+1,false)) (ys:=D) rfl hD hd1 (Nat.le_refl _) hel4 (.inr ⟨rfl,by omega,by rw [hly]; omega⟩)
    rw [hly] at d2
    have H2':Hp s q2 s1.en [] [(s.nb,.row 3 (A++([y]++D)) false (N+1))]:=by
     have:=H2
     rw [show (A++[y])++(D++[])=A++([y]++D) by simp] at this
     exact this
    obtain ⟨q3,d3,H3,n3⟩:=H2'.cpB 0 (m:=D.length+1) (q:=(N+1,false)) (y:=.sl 1 [x] .full) (ys:=[x]) rfl hX (by simp) (by simp) (hel _) (.inl rfl)
    obtain ⟨q4,d4,H4⟩:=H3.told1 0 rfl (hA.app (hX.app hD)) (N+1,false) (m:=N+1) (by simp; omega)
    have z2:(((D.length+1:Nat):Int)=0)=False:=eq_false (by omega)
    have z3:(((D.length:Nat):Int)=0)=False:=eq_false (by omega)
    have t1:∀ q,Fx q (.bl s.nb 1 0 (N+1) (N+1,false))=some (.bl s.nb 1 0 (N+1) (N+1,false),q):=fun q=>rfl
    simp only [Av,go_sem,AE,AA,AD,AC,KB_n,KB_x,Nat.reduceBEq,Nat.reduceAdd,Nat.reduceLT,Nat.reduceLeDiff,Nat.reduceEqDiff,reduceIte,Int.reduceEq,reduceCtorEq,f1,z1,c1,w1,hg,f2,w3,f3,f4,hov,d2,t1,d3,z2,z3,d4]
    exact ⟨_,_,rfl,rfl,fin H4⟩)
 exact ⟨t,hc,hP⟩

section
variable {s0 s:St} {n:En} {R:List RA} {B:List (Nat×Box)}
theorem _root_.Go.Proofs.YtgloinighjdhlaaGreat.Am.Hp.kill {es T:Nat} {xs:List AV} {k v:Nat} (H:Hp s0 s n (⟨es,T,.sl es xs (.tok k v),xs,true⟩::R) B):Hp s0 (s.killTok k) n R B∧Wf (s.killTok k)∧PW s (.sl es xs (.tok k v))=some (es,xs,k,T):=by
 rcases H.rows (i:=0) rfl with hh | ⟨k',v',t,ha,k1,k2,k3,k4,k5,k6,k7⟩
 · have:Ad (.sl es xs (.tok k v))=none:=D4 hh
   cases this
 · simp only [AV.sl.injEq,Cap.tok.injEq,true_and] at ha
   obtain ⟨rfl,rfl⟩:=ha
   have k8:=k7 rfl
   have hk:Ad (AV.sl es xs (.tok k v))=some k:=rfl
   have htk:∀ j,j≠k→(s.killTok k).tok? j=s.tok? j:=fun j hj=>by
    simp only [St.tok?,St.killTok]
    cases hb:j.blt s.nt with
    | true =>
      have hb':j < s.nt:=by rw [Nat.blt_eq] at hb; exact hb
      simp only [cond_true]
      rw [List.getElem?_set_ne (by omega)]
    | false=>rfl
   have hw:Wf (s.killTok k):=⟨H.wf.b,by simp [St.killTok,H.wf.t]⟩
   refine ⟨{
    wf:=hw
    over:=⟨H.over.nb,H.over.boxes,H.over.nt,?_,H.over.lo⟩
    lo:=H.lo
    nb:=H.nb
    nt:=H.nt
    rows:=fun {j x} hj=>(H.rows (i:=j+1) (by simpa using hj)).mono (Nat.le_refl _) fun q hq=>htk q fun he=>by
     subst he
     exact H.apart (i:=j+1) (j:=0) (by omega) (by simpa using hj) rfl hq hk
    apart:=fun hne h1 h2 h3=>H.dropR.apart hne h1 h2 h3
    box:=fun h=>H.box h
    bapart:=H.bapart },hw,?_⟩
   · simp only [St.killTok]
     rw [List.drop_set_of_lt (by omega)]
     exact H.over.toks
   · obtain ⟨fr,ve,pu,ty⟩:=t
     simp only at k4 k5 k6 k8
     subst k4; subst k8; subst k6
     simp only [PW,k3]
     rw [if_pos ⟨trivial,k5,trivial⟩]
end
theorem WT {s tA tB:St} {r:AV} (hA:Over s tA) (hB:Over s tB) (hr:r.refs=false) (hq:beqA r r=true):KT s (some (r,tA)) (some (r,tB))=some (r,s):=by
 simp only [KT,S1 hA hr,S1 hB hr,hq,UT,and_self,if_true]
theorem S2:∀ {a b:List AV},AV.refs.go a=false→AV.refs.go b=false→AV.refs.go (a++b)=false
 | [],_,_,h=>h
 | x::a,b,h,k=>by
   simp only [AV.refs.go,Bool.or_eq_false_iff] at h
   rw [List.cons_append]
   simp only [AV.refs.go,h.1,S2 h.2 k,Bool.or_false]
theorem WU:∀ L:List (List Nat),FA (L.map AV.s) (L.map AV.s)=true
 | []=>rfl
 | x::L=>by simp [FA,beqA,IK,WU L]
def Tv (f : Nat) (s0 s:St) (n:En) (R:List RA) (B:List (Nat×Box)) (a:AV) (i:Nat) (x:AV) (cs:List AV):Prop :=
 ∃ r s', (match PW s a with
       | some (es,xs,k,T)=>KT (s.killTok k) ((lim prog).call f (.bl s.nb es 0 xs.length (xs.length*es,true)::[.i .i64 (i:Nat),.sl 1 [x] .full]) (s.asBox k T xs 0))
          ((lim prog).call f (.bl s.nb es 0 xs.length ((xs.length+1)*es,false)::[.i .i64 (i:Nat),.sl 1 [x] .full]) (s.asBox k T xs ((xs.length+1)*es)))
       | none=>match pub s a with
         | some (v,s)=>(lim prog).call f (v::[.i .i64 (i:Nat),.sl 1 [x] .full]) s
         | none=>none)=some (r,s')∧Hp s0 s' n R B∧BR 1 r cs
theorem insS_0 {s:St} (hw:Wf s) {x:AV} (hr:x.refs=false):∃ r,(lim prog).call AU [.ws true 1 [],.i .i64 ((0:Nat):Int),.sl 1 [x] .full] s=some (r,s)∧BR 1 r [x]:=by
 have H0:=Hp.begin hw
 obtain ⟨a,q1,d1,H1,_⟩:=H0.appN (es:=1) 9 (a:=.ws true 1 []) (xs:=[]) (y:=.sl 1 [x] .full) (ys:=[x]) .ws rfl (by simp)
 obtain ⟨a',q2,d2,t2,H2,_⟩:=H1.pub 0 rfl
 have hpa:pubA q1 a=some (a',q2):=by rw [← d2]; exact Ga (H1.rows (i:=0) rfl)
 refine ⟨a',fn_W CV rfl rfl ?_,t2⟩
 have f1:A8 s.enter false 1 (.ws true 1 []) (some (.i .i64 ((0:Nat):Int))) none none=some (.ws true 1 [],s.enter):=rfl
 have z1:(((1:Nat):Int)=0)=False:=by simp
 simp only [Aa,go_sem,AE,AA,AD,AC,KB_n,KB_x,Nat.reduceBEq,Nat.reduceAdd,Nat.reduceLT,Nat.reduceLeDiff,Nat.reduceEqDiff,reduceIte,Int.reduceEq,reduceCtorEq,f1,z1,d1,hpa]
 exact AK H2.over (t2.refs (by simp only [List.nil_append,AV.refs.go,hr,Bool.or_false])) rfl
theorem au {s0 s:St} {n:En} {R:List RA} {B:List (Nat×Box)} {a:AV} {A D:List (List Nat)} {x:List Nat} (H:Hp s0 s n (cr 9 a ((A++D).map .s)++R) B) (hF:QW a ((A++D).map .s)) (hl:(A++D).length < 2^36) :
    Tv AU s0 s n R B a A.length (.s x) ((A++(x::D)).map .s):=by
 unfold Tv
 cases hr:Ad a with
 | none =>
   obtain ⟨rfl,he⟩:=hF hr
   rw [M4 hr] at H
   rw [List.map_eq_nil_iff,List.append_eq_nil_iff] at he
   obtain ⟨rfl,rfl⟩:=he
   obtain ⟨r,hc,ht⟩:=insS_0 (x:=.s x) H.wf rfl
   exact ⟨r,s,hc,H,ht⟩
 | some k0 =>
   have he:cr 9 a ((A++D).map .s)=[⟨1,9,a,(A++D).map .s,true⟩]:=by unfold cr; rw [hr]
   rw [he] at H
   rcases H.rows (i:=0) rfl with hh | ⟨k,v,t,ha,_⟩
   · have:=D4 hh
     simp only at this
     rw [hr] at this; cases this
   · simp only at ha
     subst ha
     obtain ⟨H',hw,hs⟩:=H.kill
     rw [hs]
     have hN:((A++D).map AV.s).length=(A.map AV.s).length+(D.map AV.s).length:=by simp
     obtain ⟨tA,dA,oA⟩:=insS_A (x:=.s x) hw (WP A) (WP D) ⟨rfl,rfl⟩ hN (by rw [List.length_map]; exact hl)
     obtain ⟨tB,dB,oB⟩:=insS_B (x:=.s x) hw (WP A) (WP D) ⟨rfl,rfl⟩ hN (by rw [List.length_map]; exact hl)
     have hm:A.map AV.s++(.s x::D.map AV.s)=(A++(x::D)).map AV.s:=by simp
     have hm2:A.map AV.s++D.map AV.s=Bc ((A++D).map AV.s):=by rw [(WP _).flat,List.map_append]
     have eA:(A.map AV.s).length=A.length:=List.length_map ..
     rw [hm,hm2,eA] at dA dB
     have hnb:(s.killTok k).nb=s.nb:=rfl
     rw [hnb] at dA dB
     refine ⟨.sl 1 ((A++(x::D)).map .s) .shut,s.killTok k,?_,H',.inr (.inr (.inr (.inl rfl)))⟩
     have cA:(lim prog).call AU [.bl s.nb 1 0 ((A++D).map AV.s).length (((A++D).map AV.s).length*1,true),.i .i64 (A.length:Nat),.sl 1 [.s x] .full] (s.asBox k 9 ((A++D).map AV.s) 0)=some (.sl 1 ((A++(x::D)).map .s) .shut,tA):=by rw [Nat.mul_one]; exact dA
     have cB:(lim prog).call AU [.bl s.nb 1 0 ((A++D).map AV.s).length ((((A++D).map AV.s).length+1)*1,false),.i .i64 (A.length:Nat),.sl 1 [.s x] .full] (s.asBox k 9 ((A++D).map AV.s) ((((A++D).map AV.s).length+1)*1))=some (.sl 1 ((A++(x::D)).map .s) .shut,tB):=by rw [Nat.mul_one]; exact dB
     simp only [cA,cB]
     exact WT oA oB (Ev _) (by simp only [beqA,WU,Nat.beq_eq_true_eq,decide_true,Bool.and_true]; rfl)
theorem insI_0 {s:St} (hw:Wf s) {x:AV} (hr:x.refs=false):∃ r,(lim prog).call Ak [.ws true 1 [],.i .i64 ((0:Nat):Int),.sl 1 [x] .full] s=some (r,s)∧BR 1 r [x]:=by
 have H0:=Hp.begin hw
 obtain ⟨a,q1,d1,H1,_⟩:=H0.appN (es:=1) 3 (a:=.ws true 1 []) (xs:=[]) (y:=.sl 1 [x] .full) (ys:=[x]) .ws rfl (by simp)
 obtain ⟨a',q2,d2,t2,H2,_⟩:=H1.pub 0 rfl
 have hpa:pubA q1 a=some (a',q2):=by rw [← d2]; exact Ga (H1.rows (i:=0) rfl)
 refine ⟨a',fn_W DQ rfl rfl ?_,t2⟩
 have f1:A8 s.enter false 1 (.ws true 1 []) (some (.i .i64 ((0:Nat):Int))) none none=some (.ws true 1 [],s.enter):=rfl
 have z1:(((1:Nat):Int)=0)=False:=by simp
 simp only [Av,go_sem,AE,AA,AD,AC,KB_n,KB_x,Nat.reduceBEq,Nat.reduceAdd,Nat.reduceLT,Nat.reduceLeDiff,Nat.reduceEqDiff,reduceIte,Int.reduceEq,reduceCtorEq,f1,z1,d1,hpa]
 exact AK H2.over (t2.refs (by simp only [List.nil_append,AV.refs.go,hr,Bool.or_false])) rfl
theorem aw {s0 s:St} {n:En} {R:List RA} {B:List (Nat×Box)} {a:AV} {A D:List Int} {x:Int} (H:Hp s0 s n (cr 3 a ((A++D).map iv)++R) B) (hF:QW a ((A++D).map iv)) (hl:(A++D).length < 2^36) :
    Tv Ak s0 s n R B a A.length (iv x) ((A++(x::D)).map iv):=by
 unfold Tv
 cases hr:Ad a with
 | none =>
   obtain ⟨rfl,he⟩:=hF hr
   rw [M4 hr] at H
   rw [List.map_eq_nil_iff,List.append_eq_nil_iff] at he
   obtain ⟨rfl,rfl⟩:=he
   obtain ⟨r,hc,ht⟩:=insI_0 (x:=iv x) H.wf rfl
   exact ⟨r,s,hc,H,ht⟩
 | some k0 =>
   have he:cr 3 a ((A++D).map iv)=[⟨1,3,a,(A++D).map iv,true⟩]:=by unfold cr; rw [hr]
   rw [he] at H
   rcases H.rows (i:=0) rfl with hh | ⟨k,v,t,ha,_⟩
   · have:=D4 hh
     simp only at this
     rw [hr] at this; cases this
   · simp only at ha
     subst ha
     obtain ⟨H',hw,hs⟩:=H.kill
     rw [hs]
     have hN:((A++D).map iv).length=(A.map iv).length+(D.map iv).length:=by simp
     obtain ⟨tA,dA,oA⟩:=insI_A (x:=iv x) hw (WR A) (WR D) ⟨rfl,rfl⟩ hN (by rw [List.length_map]; exact hl)
     obtain ⟨tB,dB,oB⟩:=insI_B (x:=iv x) hw (WR A) (WR D) ⟨rfl,rfl⟩ hN (by rw [List.length_map]; exact hl)
     have hm:A.map iv++(iv x::D.map iv)=(A++(x::D)).map iv:=by simp
     have hm2:A.map iv++D.map iv=Bc ((A++D).map iv):=by rw [(WR _).flat,List.map_append]
     have eA:(A.map iv).length=A.length:=List.length_map ..
     rw [hm,hm2,eA] at dA dB
     have hnb:(s.killTok k).nb=s.nb:=rfl
     rw [hnb] at dA dB
     refine ⟨.sl 1 ((A++(x::D)).map iv) .shut,s.killTok k,?_,H',.inr (.inr (.inr (.inl rfl)))⟩
     have cA:(lim prog).call Ak [.bl s.nb 1 0 ((A++D).map iv).length (((A++D).map iv).length*1,true),.i .i64 (A.length:Nat),.sl 1 [iv x] .full] (s.asBox k 3 ((A++D).map iv) 0)=some (.sl 1 ((A++(x::D)).map iv) .shut,tA):=by rw [Nat.mul_one]; exact dA
     have cB:(lim prog).call Ak [.bl s.nb 1 0 ((A++D).map iv).length ((((A++D).map iv).length+1)*1,false),.i .i64 (A.length:Nat),.sl 1 [iv x] .full] (s.asBox k 3 ((A++D).map iv) ((((A++D).map iv).length+1)*1))=some (.sl 1 ((A++(x::D)).map iv) .shut,tB):=by rw [Nat.mul_one]; exact dB
     simp only [cA,cB]
     exact WT oA oB (HQ _) (by simp only [beqA,Ip,Nat.beq_eq_true_eq,decide_true,Bool.and_true]; rfl)
end Go.Proofs.YtgloinighjdhlaaGreat

namespace Go.Proofs.YtgloinighjdhlaaGreat
open Go.Proofs.YtgloinighjdhlaaGreat.Am
attribute [local irreducible] W WO WE WQ WD Tr.get Tr.set
theorem Rj {a:AV} (L:List (List Nat)) (x:List Nat) (ha:BR 1 a (L.map .s)) (hasc:Asc L) (hl:L.length < 2^62) (s:St):∃ p,Pos L x p∧(lim prog).call AR [a,.s x] s=some (.tup [.i .i64 (p:Nat),.b (decide (L[p]? = some x))],s):=by
 have hex:∃ p,Pos L x p:=Sp hasc x
 obtain ⟨p,hp⟩:=hex
 refine ⟨p,hp,fn_W Bf rfl rfl ?_⟩
 have hz0:wkZ AP.cin [a,.s x]=[tx L,.s x]:=by
  have:=ha.wk (NM L)
  simp only [AP,wkZ,this,wk,tx]
 rw [hz0]
 simp only [AP,go_sem,AE,AA,AD,AC,KB_n,KB_x,Nat.reduceBEq,Nat.reduceAdd,Nat.reduceLT,Nat.reduceLeDiff,Nat.reduceEqDiff,reduceIte,Int.reduceEq,reduceCtorEq,List.length_map]
 refine CJ (fun n e q=>q=s.enter∧∃ i j:Nat,i+n=j∧i≤p∧p≤j∧j≤L.length∧e.get 0=tx L∧e.get 1=.s x∧e.get 6=.i .i64 (L.length:Nat)∧e.get 7=.i .i64 (i:Nat)∧e.get 8=.i .i64 (j:Nat)) ?_ L.length _ _ ?_
 · rintro n e q ⟨rfl,i,j,hij,hip,hpj,hj,g0,g1,g6,g7,g8⟩
   by_cases h:i < j
   · have e1:((i:Int) < (j:Int))=True:=eq_true (by omega)
     have hs1:IntKind.i64.wrap ((i:Int)+(j:Int))=((i+j:Nat):Int):=by
      rw [show (i:Int)+(j:Int)=((i+j:Nat):Int) by omega]; exact Cx (by omega)
     have hs2:=ac (show i+j < 2^64 by omega)
     have hs3:=Cx (show (i+j) / 2 < 2^63 by omega)
     obtain ⟨m,hm⟩:∃ m,(i+j) / 2=m:=⟨_,rfl⟩
     rw [hm] at hs3
     obtain ⟨y,hy⟩:∃ y,L[m]? = some y:=⟨_,List.getElem?_eq_getElem (by omega)⟩
     have hy2:(L.map AV.s)[m]? = some (.s y):=by rw [List.getElem?_map,hy]; rfl
     have hw1:=Af (show m+1 < 2^63 by omega)
     have hsh:=shr1 (i+j)
     rw [hm] at hsh
     cases hlt:ltN y x with
     | true =>
       have:m < p:=by
        refine Nat.lt_of_not_le fun hh=>?_
        have:=hp.hi hh hy
        rw [hlt] at this; cases this
       simp only [go_sem,AE,AA,AD,AC,KB_n,KB_x,Nat.reduceBEq,Nat.reduceAdd,Nat.reduceLT,Nat.reduceLeDiff,Nat.reduceEqDiff,reduceIte,Int.reduceEq,reduceCtorEq,g0,g1,g6,g7,g8,e1,hs1,hs2,hsh,hs3,AH,hy2,BP,C6,It,hlt,hw1]
       exact ⟨j - (m+1),by omega,m+1,j,by omega,by omega,by omega,hj,rfl,rfl⟩
     | false =>
       have:p≤m:=by
        refine Nat.le_of_not_lt fun hh=>?_
        have:=hp.lo hh hy
        rw [hlt] at this; cases this
       simp only [go_sem,AE,AA,AD,AC,KB_n,KB_x,Nat.reduceBEq,Nat.reduceAdd,Nat.reduceLT,Nat.reduceLeDiff,Nat.reduceEqDiff,reduceIte,Int.reduceEq,reduceCtorEq,g0,g1,g6,g7,g8,e1,hs1,hs2,hsh,hs3,AH,hy2,BP,C6,It,hlt]
       exact ⟨m - i,by omega,i,m,by omega,by omega,by omega,by omega,rfl,rfl⟩
   · have e1:((i:Int) < (j:Int))=False:=eq_false (by omega)
     obtain rfl:i=p:=by omega
     have hbr:∀ b,KR s [.id,.id] (.tup [.i .i64 (i:Nat),.b b]) (some ([.i .i64 (i:Nat),.b b],s.enter)):=fun b=>AK (Over.enter s) rfl rfl
     by_cases h2:i < L.length
     · have e2:((i:Int) < (L.length:Int))=True:=eq_true (by omega)
       obtain ⟨y,hy⟩:∃ y,L[i]? = some y:=⟨_,List.getElem?_eq_getElem h2⟩
       have hy2:(L.map AV.s)[i]? = some (.s y):=by rw [List.getElem?_map,hy]; rfl
       by_cases h3:y=x
       · have e3:(y=x)=True:=by simp [h3]
         rw [decide_eq_true (by rw [hy,h3]:L[i]? = some x)]
         simp only [go_sem,AE,AA,AD,AC,KB_n,KB_x,Nat.reduceBEq,Nat.reduceAdd,Nat.reduceLT,Nat.reduceLeDiff,Nat.reduceEqDiff,reduceIte,Int.reduceEq,reduceCtorEq,g0,g1,g6,g7,g8,e1,e2,AH,hy2,BP,C6,e3]
         exact hbr _
       · have e3:(y=x)=False:=by simp [h3]
         rw [decide_eq_false (by rw [hy]; simpa using h3:¬ L[i]? = some x)]
         simp only [go_sem,AE,AA,AD,AC,KB_n,KB_x,Nat.reduceBEq,Nat.reduceAdd,Nat.reduceLT,Nat.reduceLeDiff,Nat.reduceEqDiff,reduceIte,Int.reduceEq,reduceCtorEq,g0,g1,g6,g7,g8,e1,e2,AH,hy2,BP,C6,e3,RT]
         exact hbr _
     · have e2:((i:Int) < (L.length:Int))=False:=eq_false (by omega)
       rw [decide_eq_false (by rw [List.getElem?_eq_none (by omega)]; simp:¬ L[i]? = some x)]
       simp only [go_sem,AE,AA,AD,AC,KB_n,KB_x,Nat.reduceBEq,Nat.reduceAdd,Nat.reduceLT,Nat.reduceLeDiff,Nat.reduceEqDiff,reduceIte,Int.reduceEq,reduceCtorEq,g0,g1,g6,g7,g8,e1,e2]
       exact hbr _
 · simp only [go_sem,AE,AA,AD,AC,KB_n,KB_x,Nat.reduceBEq,Nat.reduceAdd,Nat.reduceLT,Nat.reduceLeDiff,Nat.reduceEqDiff,reduceIte,Int.reduceEq,reduceCtorEq]
   have:=hp.le
   exact ⟨0,L.length,by omega,by omega,by omega,by omega,rfl,rfl⟩
theorem Rk {k0 v0:Nat} (L:List (List Nat)) (x:List Nat) (hasc:Asc L) (hl:L.length < 2^62) (s:St) (hok:s.ok (.tok k0 v0)=true):∃ p,Pos L x p∧(lim prog).call AR [.sl 1 (L.map .s) (.tok k0 v0),.s x] s=some (.tup [.i .i64 (p:Nat),.b (decide (L[p]? = some x))],s):=by
 have hex:∃ p,Pos L x p:=Sp hasc x
 obtain ⟨p,hp⟩:=hex
 refine ⟨p,hp,fn_W Bf rfl rfl ?_⟩
 have hz0:wkZ AP.cin [.sl 1 (L.map .s) (.tok k0 v0),.s x]=[.sl 1 (L.map .s) (.tok k0 v0),.s x]:=rfl
 have hld:∀ y,ldA s.enter false 1 (.ep [.s y] 0 (.tok k0 v0))=some (.s y):=fun y=>by
  have:s.enter.ok (.tok k0 v0)=true:=hok
  simp only [ldA,this]; rfl
 rw [hz0]
 simp only [AP,go_sem,AE,AA,AD,AC,KB_n,KB_x,Nat.reduceBEq,Nat.reduceAdd,Nat.reduceLT,Nat.reduceLeDiff,Nat.reduceEqDiff,reduceIte,Int.reduceEq,reduceCtorEq,List.length_map]
 refine CJ (fun n e q=>q=s.enter∧∃ i j:Nat,i+n=j∧i≤p∧p≤j∧j≤L.length∧e.get 0=.sl 1 (L.map .s) (.tok k0 v0)∧e.get 1=.s x∧e.get 6=.i .i64 (L.length:Nat)∧e.get 7=.i .i64 (i:Nat)∧e.get 8=.i .i64 (j:Nat)) ?_ L.length _ _ ?_
 · rintro n e q ⟨rfl,i,j,hij,hip,hpj,hj,g0,g1,g6,g7,g8⟩
   by_cases h:i < j
   · have e1:((i:Int) < (j:Int))=True:=eq_true (by omega)
     have hs1:IntKind.i64.wrap ((i:Int)+(j:Int))=((i+j:Nat):Int):=by
      rw [show (i:Int)+(j:Int)=((i+j:Nat):Int) by omega]; exact Cx (by omega)
     have hs2:=ac (show i+j < 2^64 by omega)
     have hs3:=Cx (show (i+j) / 2 < 2^63 by omega)
     obtain ⟨m,hm⟩:∃ m,(i+j) / 2=m:=⟨_,rfl⟩
     rw [hm] at hs3
     obtain ⟨y,hy⟩:∃ y,L[m]? = some y:=⟨_,List.getElem?_eq_getElem (by omega)⟩
     have hy2:(L.map AV.s)[m]? = some (.s y):=by rw [List.getElem?_map,hy]; rfl
     have hw1:=Af (show m+1 < 2^63 by omega)
     have hsh:=shr1 (i+j)
     rw [hm] at hsh
     cases hlt:ltN y x with
     | true =>
       have:m < p:=by
        refine Nat.lt_of_not_le fun hh=>?_
        have:=hp.hi hh hy
        rw [hlt] at this; cases this
       simp only [go_sem,AE,AA,AD,AC,KB_n,KB_x,Nat.reduceBEq,Nat.reduceAdd,Nat.reduceLT,Nat.reduceLeDiff,Nat.reduceEqDiff,reduceIte,Int.reduceEq,reduceCtorEq,g0,g1,g6,g7,g8,e1,hs1,hs2,hsh,hs3,AH,hy2,BP,hld,It,hlt,hw1]
       exact ⟨j - (m+1),by omega,m+1,j,by omega,by omega,by omega,hj,rfl,rfl⟩
     | false =>
       have:p≤m:=by
        refine Nat.le_of_not_lt fun hh=>?_
        have:=hp.lo hh hy
        rw [hlt] at this; cases this
       simp only [go_sem,AE,AA,AD,AC,KB_n,KB_x,Nat.reduceBEq,Nat.reduceAdd,Nat.reduceLT,Nat.reduceLeDiff,Nat.reduceEqDiff,reduceIte,Int.reduceEq,reduceCtorEq,g0,g1,g6,g7,g8,e1,hs1,hs2,hsh,hs3,AH,hy2,BP,hld,It,hlt]
       exact ⟨m - i,by omega,i,m,by omega,by omega,by omega,by omega,rfl,rfl⟩
   · have e1:((i:Int) < (j:Int))=False:=eq_false (by omega)
     obtain rfl:i=p:=by omega
     have hbr:∀ b,KR s [.id,.id] (.tup [.i .i64 (i:Nat),.b b]) (some ([.i .i64 (i:Nat),.b b],s.enter)):=fun b=>AK (Over.enter s) rfl rfl
     by_cases h2:i < L.length
     · have e2:((i:Int) < (L.length:Int))=True:=eq_true (by omega)
       obtain ⟨y,hy⟩:∃ y,L[i]? = some y:=⟨_,List.getElem?_eq_getElem h2⟩
       have hy2:(L.map AV.s)[i]? = some (.s y):=by rw [List.getElem?_map,hy]; rfl
       by_cases h3:y=x
       · have e3:(y=x)=True:=by simp [h3]
         rw [decide_eq_true (by rw [hy,h3]:L[i]? = some x)]
         simp only [go_sem,AE,AA,AD,AC,KB_n,KB_x,Nat.reduceBEq,Nat.reduceAdd,Nat.reduceLT,Nat.reduceLeDiff,Nat.reduceEqDiff,reduceIte,Int.reduceEq,reduceCtorEq,g0,g1,g6,g7,g8,e1,e2,AH,hy2,BP,hld,e3]
         exact hbr _
       · have e3:(y=x)=False:=by simp [h3]
         rw [decide_eq_false (by rw [hy]; simpa using h3:¬ L[i]? = some x)]
         simp only [go_sem,AE,AA,AD,AC,KB_n,KB_x,Nat.reduceBEq,Nat.reduceAdd,Nat.reduceLT,Nat.reduceLeDiff,Nat.reduceEqDiff,reduceIte,Int.reduceEq,reduceCtorEq,g0,g1,g6,g7,g8,e1,e2,AH,hy2,BP,hld,e3,RT]
         exact hbr _
     · have e2:((i:Int) < (L.length:Int))=False:=eq_false (by omega)
       rw [decide_eq_false (by rw [List.getElem?_eq_none (by omega)]; simp:¬ L[i]? = some x)]
       simp only [go_sem,AE,AA,AD,AC,KB_n,KB_x,Nat.reduceBEq,Nat.reduceAdd,Nat.reduceLT,Nat.reduceLeDiff,Nat.reduceEqDiff,reduceIte,Int.reduceEq,reduceCtorEq,g0,g1,g6,g7,g8,e1,e2]
       exact hbr _
 · simp only [go_sem,AE,AA,AD,AC,KB_n,KB_x,Nat.reduceBEq,Nat.reduceAdd,Nat.reduceLT,Nat.reduceLeDiff,Nat.reduceEqDiff,reduceIte,Int.reduceEq,reduceCtorEq]
   have:=hp.le
   exact ⟨0,L.length,by omega,by omega,by omega,by omega,rfl,rfl⟩

noncomputable def posN (L:List (List Nat)) (x:List Nat):Nat:=open Classical in if h:∃ p,Pos L x p then h.choose else 0
theorem ax {L:List (List Nat)} {x:List Nat} {p q:Nat} (h:Pos L x p) (k:Pos L x q):p=q:=by
 have key:∀ {p q:Nat},Pos L x p→Pos L x q→¬ p < q:=fun {p q} h k hlt=>by
  have hl:p < L.length:=Nat.lt_of_lt_of_le hlt k.le
  have h1:=h.hi (Nat.le_refl p) (List.getElem?_eq_getElem hl)
  have h2:=k.lo hlt (List.getElem?_eq_getElem hl)
  rw [h1] at h2; cases h2
 have h1:=key h k
 have h2:=key k h
 omega
theorem Rl {L:List (List Nat)} {x:List Nat} {p:Nat} (h:Pos L x p):posN L x=p:=by
 have hx:∃ p,Pos L x p:=⟨p,h⟩
 unfold posN
 rw [dif_pos hx]
 exact ax hx.choose_spec h
def insL {α:Type} (L:List α) (p:Nat) (x:α):List α:=L.take p++(x::L.drop p)
noncomputable def Hs (f:FT) (name:List Nat):Bool:=decide (f.names[posN f.names name]? = some name)
noncomputable def askD (l:List FT) (name:List Nat) (f:FT):FT :=
 if Hs f name then f else if f.rest=1 then f else { f with names:=insL f.names (posN f.names name) name,kids:=insL f.kids (posN f.names name) (l.length:Int) }
noncomputable def askN (l:List FT) (name:List Nat) (f:FT):Int :=
 if Hs f name then f.kids.getD (posN f.names name) 0 else if f.rest=1 then -1 else (l.length:Int)
def askW (name:List Nat) (f:FT):Int:=if f.isDir&&Dh name then 0 else 1
theorem ay {name:List Nat} (hn:Txt name) {q:St} (hw:Wf q) {b:Nat} (hb:q.box? b=some (.cells 9 [.s name])) (lb:b < q.nb) (f:FT) :
    Di (lim prog) (.fn Cq [.p b 0]) [.agg f.cells] q=some (.i .i64 (askW name f),q):=by
 show (lim prog).call Cq [.agg f.cells,.p b 0] q=_
 refine fn_W Oi rfl rfl ?_
 have hz0:wkZ Ca.cin [.agg f.cells,.p b 0]=[.agg f.cells,.p b 0]:=by
  have:=QC f
  simp only [Ca,wkZ,wk] at this ⊢
  rw [this]
 rw [hz0]
 have H1:=(Hp.begin hw).new (.cells 48 f.cells)
 have e0:q.enter.nb=q.nb:=rfl
 rw [e0] at H1
 generalize hq:q.enter.new (.cells 48 f.cells)=q1 at H1
 have lw:=H1.ldw (m:=6) 0 rfl rfl
 have hd:=JN f q1 H1.wf
 have hnm:=RZ name hn q1 H1.wf
 have l0:=Fs H1.over (off:=0) (v:=.s name) lb hb rfl
 unfold askW
 cases hdir:f.isDir with
 | false =>
   rw [hdir] at hd
   simp only [Ca,go_sem,AE,AA,AD,AC,KB_n,KB_x,Nat.reduceBEq,Nat.reduceAdd,Nat.reduceLT,Nat.reduceLeDiff,Nat.reduceEqDiff,reduceIte,Int.reduceEq,reduceCtorEq,DD,hq,e0,lw,Aw,hd]
   exact AK H1.over rfl rfl
 | true =>
   rw [hdir] at hd
   cases hnp:Dh name with
   | false =>
     rw [hnp] at hnm
     simp only [Ca,go_sem,AE,AA,AD,AC,KB_n,KB_x,Nat.reduceBEq,Nat.reduceAdd,Nat.reduceLT,Nat.reduceLeDiff,Nat.reduceEqDiff,reduceIte,Int.reduceEq,reduceCtorEq,DD,hq,e0,lw,Aw,hd,l0,hnm]
     exact AK H1.over rfl rfl
   | true =>
     rw [hnp] at hnm
     simp only [Ca,go_sem,AE,AA,AD,AC,KB_n,KB_x,Nat.reduceBEq,Nat.reduceAdd,Nat.reduceLT,Nat.reduceLeDiff,Nat.reduceEqDiff,reduceIte,Int.reduceEq,reduceCtorEq,DD,hq,e0,lw,Aw,hd,l0,hnm]
     exact AK H1.over rfl rfl

theorem Y2 {s0 s:St} {n:En} {R:List RA} {B:List (Nat×Box)} {T:Nat} {a:AV} {xs:List AV} (H:Hp s0 s n (cr T a xs++R) B) (hc:Cok a xs):(∀ q,ldR q (some a)=some (a,q))∧ldQ (some a)=true:=by
 rcases H.crShape hc with h | ⟨k,v,rfl,_⟩
 · exact h.ld
 · exact ⟨fun _=>rfl,rfl⟩
theorem Rm {s0 s:St} {n:En} {R:List RA} {B:List (Nat×Box)} {T:Nat} {a:AV} {L:List (List Nat)} (H:Hp s0 s n (cr T a (L.map .s)++R) B) (hc:Cok a (L.map .s)) (x:List Nat) (hasc:Asc L) (hl:L.length < 2^62) :
    (lim prog).call AR [a,.s x] s=some (.tup [.i .i64 (posN L x:Nat),.b (decide (L[posN L x]? = some x))],s)∧Pos L x (posN L x):=by
 rcases H.crShape hc with h | ⟨k,v,rfl,hok⟩
 · obtain ⟨p,hp,hc⟩:=Rj L x h hasc hl s
   rw [Rl hp]; exact ⟨hc,hp⟩
 · obtain ⟨p,hp,hc⟩:=Rk L x hasc hl s hok
   rw [Rl hp]; exact ⟨hc,hp⟩
theorem stT {s0 s:St} {n:En} {id:Nat} {K:List KQ} {R:List RA} {B:List (Nat×Box)} (H:Hp s0 s n R ((id,.row 48 (Bc (K.map KQ.av)) false 0)::B)) {i j:Nat} {p g:KQ} (hp:K[i]? = some p) (hj:j < 6) {v:AV} (hv:v.cells=[v]∧ones [v]=true) (hc:p.cells.set j v=g.cells) :
    ∃ s',stA s 1 (.p id (i*6+j)) v=some s'∧Hp s0 s' n R ((id,.row 48 (Bc ((K.set i g).map KQ.av)) false 0)::B):=by
 have hil:=(List.getElem?_eq_some_iff.1 hp).1
 obtain ⟨s',d,H'⟩:=H.stR 0 (off:=i*6+j) (v:=v) rfl (by rw [J3]; omega) hv
 rw [Lv hp hj hc] at H'
 exact ⟨s',d,H'⟩
abbrev AB (id:Nat) (K:List KQ) (nu nm fb:Nat) (z:Int) (name:List Nat) (l:List FT):List (Nat×Box) :=
 [(id,.row 48 (Bc (K.map KQ.av)) false 0),(nu,.cells 3 [.i .i64 z]),(nm,.cells 9 [.s name]),(fb,.cells 22 [fx l])]
theorem az {s0 q:St} {n:En} {id nu nm fb:Nat} {name:List Nat} {l:List FT} {K:List KQ} (H:Hp s0 q n (ras K) (AB id K nu nm fb (-1) name l)) (hK:KOk K) (hFr:KFr K) {i:Nat} {p:KQ} (hp:K[i]? = some p) (h1:p.f.one=true) (hd:p.f.isDir=true) (hfo:p.f.Ok) (hll:l.length < 2^34) :
    ∃ q',Di (lim prog) (.fn Cr [.p nm 0,.p nu 0,.p fb 0]) [.p id (i*6)] q=some (.tup [],q')∧∃ K',Hp s0 q' n (ras K') (AB id K' nu nm fb (askN l name p.f) name l)∧KOk K'∧K'.map KQ.f=(K.map KQ.f).set i (askD l name p.f):=by
 obtain ⟨r,q',hc,rfl,hP⟩:=fn_G (f:=Cr) (args:=[.p id (i*6),.p nm 0,.p nu 0,.p fb 0]) (s:=q) (Post:=fun r q'=>r=.tup []∧∃ K',Hp s0 q' n (ras K') (AB id K' nu nm fb (askN l name p.f) name l)∧KOk K'∧K'.map KQ.f=(K.map KQ.f).set i (askD l name p.f)) Oj rfl rfl (by
  have HE:=H.enter
  have hpm:=List.mem_of_getElem? hp
  obtain ⟨ok1,ok2⟩:=hK p hpm
  obtain ⟨fr1,fr2⟩:=hFr p hpm
  have HF:=ar HE hp
  have hil:=(List.getElem?_eq_some_iff.1 hp).1
  obtain ⟨hbs,hpos⟩:=Rm HF ok1 name (JP h1) (by have:=hfo.nlen; omega)
  obtain ⟨lr1,lq1⟩:=Y2 HF ok1
  have la:=HE.ldR 0 (off:=i*6+2) (v:=p.nm) rfl (HI hp rfl)
  have lb:=HE.ldR 0 (off:=i*6+3) (v:=p.a) rfl (HI hp rfl)
  have lc:=HE.ldR 0 (off:=i*6+4) (v:=.i .i64 p.f.rest) rfl (HI hp rfl)
  have lnm:=HE.ld 2 (off:=0) (v:=.s name) rfl rfl
  have lfb:=HE.ld 3 (off:=0) (v:=fx l) rfl rfl
  have hkl:=Cf h1
  have fin:∀ {q1:St} {K':List KQ} {z:Int},Hp s0 q1 q.en (ras K') (AB id K' nu nm fb z name l)→(∀ r∈ras K',r∈ras K)→Hp s0 (Am.leave q q1 (.tup [])) n (ras K') (AB id K' nu nm fb z name l):=fun {q1 K' z} H' hsub=>by
   refine H.leave (n1:=q.en) H' (.tup []) (fun {j x} hj=>?_) (.inr fun {j r k} hr hk=>?_)
   · have b0:=(H.box (i:=0) rfl).2.2
     have b1:=(H.box (i:=1) rfl).2.2
     have b2:=(H.box (i:=2) rfl).2.2
     have b3:=(H.box (i:=3) rfl).2.2
     rcases j with _ | _ | _ | _ | j
     · cases hj; exact b0
     · cases hj; exact b1
     · cases hj; exact b2
     · cases hj; exact b3
     · simp at hj
   · obtain ⟨j,hj,rfl⟩:=List.mem_iff_getElem.1 (hsub r (List.mem_of_getElem? hr))
     exact (H.rows (List.getElem?_eq_getElem hj)).tok_lt hk
  unfold fx at lfb
  by_cases hfound:p.f.names[posN p.f.names name]? = some name
  · -- it was asked of
    have hpl:posN p.f.names name < p.f.kids.length:=by
     have:=(List.getElem?_eq_some_iff.1 hfound).1
     omega
    obtain ⟨z,hz⟩:∃ z,p.f.kids[posN p.f.names name]? = some z:=⟨_,List.getElem?_eq_getElem hpl⟩
    have hN:askN l name p.f=z:=by
     unfold askN Hs
     rw [decide_eq_true hfound,if_pos rfl,List.getD_eq_getElem?_getD,hz]; rfl
    have hD:askD l name p.f=p.f:=by
     unfold askD Hs
     rw [decide_eq_true hfound,if_pos rfl]
    have HF2:Hp s0 q.enter q.en (cr 3 p.a (p.f.kids.map iv)++(cr 9 p.nm (p.f.names.map .s)++ras (K.eraseIdx i))) (AB id K nu nm fb (-1) name l):=by
     refine HF.perm ?_ (.refl _)
     rw [← List.append_assoc,← List.append_assoc]
     exact List.perm_append_comm.append_right _
    have hz2:=LG hz
    obtain ⟨q1,d1,H1,_⟩:=HE.st 1 (off:=0) (v:=.i .i64 z) rfl (by simp) ⟨rfl,rfl⟩
    have hsh:∃ k v,p.a=.sl 1 (p.f.kids.map iv) (.tok k v)∧q.enter.ok (.tok k v)=true:=by
     rcases HF2.crShape ok2 with h | h
     · have:=fr2 h.cells.2.2
       rw [List.map_eq_nil_iff] at this
       rw [this.2] at hpl; simp at hpl
     · exact h
    obtain ⟨k,v,ha,hok⟩:=hsh
    have hle:ldA q.enter false 1 (.ep [.i .i64 z] 0 (.tok k v))=some (.i .i64 z):=by
     simp only [ldA,hok]; rfl
    rw [ha] at lb
    have dfd:decide (p.f.names[posN p.f.names name]? = some name)=true:=decide_eq_true hfound
    rw [dfd] at hbs
    simp only [DN,go_sem,AE,AA,AD,AC,KB_n,KB_x,Nat.reduceBEq,Nat.reduceAdd,Nat.reduceLT,Nat.reduceLeDiff,Nat.reduceEqDiff,reduceIte,Int.reduceEq,reduceCtorEq,la,lr1,lq1,lnm,hbs,lb,AH,hz2,EC,hle,d1]
    refine ⟨_,_,rfl,rfl,K,fin (by rw [hN]; exact H1) (fun r hr=>hr),hK,?_⟩
    rw [hD]
    exact (Jz (by rw [List.getElem?_map,hp]; rfl)).symm
  · have dfd:decide (p.f.names[posN p.f.names name]? = some name)=false:=decide_eq_false hfound
    rw [dfd] at hbs
    by_cases hr1:p.f.rest=1
    · -- there are no others
      have hN:askN l name p.f = -1:=by
       unfold askN Hs
       rw [dfd,if_neg (by simp),if_pos hr1]
      have hD:askD l name p.f=p.f:=by
       unfold askD Hs
       rw [dfd,if_neg (by simp),if_pos hr1]
      have e1:(p.f.rest≠1)=False:=by simp [hr1]
      simp only [DN,go_sem,AE,AA,AD,AC,KB_n,KB_x,Nat.reduceBEq,Nat.reduceAdd,Nat.reduceLT,Nat.reduceLeDiff,Nat.reduceEqDiff,reduceIte,Int.reduceEq,reduceCtorEq,la,lr1,lq1,lnm,hbs,lc,e1]
      refine ⟨_,_,rfl,rfl,K,fin (by rw [hN]; exact HE) (fun r hr=>hr),hK,?_⟩
      rw [hD]
      exact (Jz (by rw [List.getElem?_map,hp]; rfl)).symm
    · have e1:(p.f.rest≠1)=True:=by simp [hr1]
      have hN:askN l name p.f=(l.length:Int):=by
       unfold askN Hs
       rw [dfd,if_neg (by simp),if_neg hr1]
      have hD:askD l name p.f={ p.f with names:=insL p.f.names (posN p.f.names name) name,kids:=insL p.f.kids (posN p.f.names name) (l.length:Int) }:=by
       unfold askD Hs
       rw [dfd,if_neg (by simp),if_neg hr1]
      obtain ⟨q1,d1,H1,_⟩:=HE.st 1 (off:=0) (v:=.i .i64 (l.length:Nat)) rfl (by simp) ⟨rfl,rfl⟩
      have la1:=H1.ldR 0 (off:=i*6+2) (v:=p.nm) rfl (HI hp rfl)
      have lnm1:=H1.ld 2 (off:=0) (v:=.s name) rfl rfl
      have hB1:Hp s0 q1 q.en (ras K) (AB id K nu nm fb (l.length:Int) name l):=H1
      have HF1:=ar hB1 hp
      generalize hpos':posN p.f.names name=pos at *
      have hple:=hpos.le
      have hA1:(p.f.names.take pos).length=pos:=by rw [List.length_take]; omega
      have hA2:(p.f.kids.take pos).length=pos:=by rw [List.length_take]; omega
      have ins1:=au (x:=name) (A:=p.f.names.take pos) (D:=p.f.names.drop pos) (by rw [List.take_append_drop]; exact HF1) (by rw [List.take_append_drop]; exact fr1) (by rw [List.take_append_drop]; have:=hfo.nlen; omega)
      rw [hA1] at ins1
      unfold Tv at ins1
      obtain ⟨r1,q2,c1,H2,t1⟩:=ins1
      have t1':BR 1 r1 ((insL p.f.names pos name).map .s):=t1
      obtain ⟨q3,d3,H3⟩:=stT (g:=⟨{ p.f with names:=insL p.f.names pos name },r1,p.a⟩) H2 hp (j:=2) (by omega) ⟨t1.cells.1,t1.cells.2.1⟩ rfl
      have hp1:=set_get hp (⟨{ p.f with names:=insL p.f.names pos name },r1,p.a⟩:KQ)
      have la3:=H3.ldR 0 (off:=i*6+3) (v:=p.a) rfl (HI hp1 rfl)
      have lnu3:=H3.ld 1 (off:=0) (v:=.i .i64 (l.length:Nat)) rfl rfl
      obtain ⟨lr3,lq3⟩:=Y2 H2 ok2
      have ins2:=aw (x:=(l.length:Int)) (A:=p.f.kids.take pos) (D:=p.f.kids.drop pos) (by rw [List.take_append_drop]; exact H3) (by rw [List.take_append_drop]; exact fr2) (by rw [List.take_append_drop]; have:=hfo.klen; omega)
      rw [hA2] at ins2
      unfold Tv at ins2
      obtain ⟨r2,q4,c2,H4,t2⟩:=ins2
      have t2':BR 1 r2 ((insL p.f.kids pos (l.length:Int)).map iv):=t2
      obtain ⟨q5,d5,H5⟩:=stT (g:=⟨{ p.f with names:=insL p.f.names pos name,kids:=insL p.f.kids pos (l.length:Int) },r1,r2⟩) H4 hp1 (j:=3) (by omega) ⟨t2.cells.1,t2.cells.2.1⟩ rfl
      rw [List.set_set] at H5
      have hras:(⟨{ p.f with names:=insL p.f.names pos name,kids:=insL p.f.kids pos (l.length:Int) },r1,r2⟩:KQ).ras=[]:=by
       unfold KQ.ras
       rw [WG t1,WG t2]; rfl
      have hperm:=WH (g:=⟨{ p.f with names:=insL p.f.names pos name,kids:=insL p.f.kids pos (l.length:Int) },r1,r2⟩) hp
      rw [hras,List.nil_append] at hperm
      have H6:=H5.perm hperm.symm (.refl _)
      have hal1:Ar 1 [AV.s name]=true:=rfl
      have hal2:Ar 1 [AV.i .i64 (l.length:Int)]=true:=rfl
      simp only [DN,go_sem,AE,AA,AD,AC,KB_n,KB_x,Nat.reduceBEq,Nat.reduceAdd,Nat.reduceLT,Nat.reduceLeDiff,Nat.reduceEqDiff,reduceIte,Int.reduceEq,reduceCtorEq,la,lr1,lq1,lnm,hbs,lc,e1,lfb,List.length_map,d1,la1,lnm1,hal1]
      refine bO c1 ?_
      simp only [go_sem,AE,AA,AD,AC,KB_n,KB_x,Nat.reduceBEq,Nat.reduceAdd,Nat.reduceLT,Nat.reduceLeDiff,Nat.reduceEqDiff,reduceIte,Int.reduceEq,reduceCtorEq,d3,la3,lr3,lq3,lnu3,hal2]
      refine bO c2 ?_
      simp only [go_sem,AE,AA,AD,AC,KB_n,KB_x,Nat.reduceBEq,Nat.reduceAdd,Nat.reduceLT,Nat.reduceLeDiff,Nat.reduceEqDiff,reduceIte,Int.reduceEq,reduceCtorEq,d5]
      refine ⟨_,_,rfl,rfl,_,fin (by rw [hN]; exact H6) (fun r hr=>?_),hK.set ⟨Sv t1',Sv t2'⟩,?_⟩
      · exact (Sx hp).symm.subset (List.mem_append_right _ (hperm.subset hr))
      · rw [hD,List.map_set])
 exact ⟨q',hc,hP⟩
end Go.Proofs.YtgloinighjdhlaaGreat
